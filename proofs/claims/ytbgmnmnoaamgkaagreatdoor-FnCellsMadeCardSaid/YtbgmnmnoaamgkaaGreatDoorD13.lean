/-
  Own texts, joined by mkclaim.py: Hm100, Hm101, Hm102, Hm103, Hm105, Hm106, Hm108, Hm109, Hm110, Hm111, Hm112.
-/
import Derived.Test.YtbgmnmnoaamgkaaGreatDoorD12
set_option linter.unusedSimpArgs false
set_option linter.unusedVariables false
set_option maxRecDepth 100000
set_option maxHeartbeats 4000000

section
namespace Go.Hm
open Go Go.RowKit
section
variable {p:Prg} {b o c:Nat} {k q:Blk} {x:Int}
theorem qG1 (hh:z6 p):∀ c:Nat,c<p.length→zJ p c b=true→zJ p b o=true→zJ p c o=true:=by
 intro c
 induction c using Nat.strongRecOn with
 | ind c ih =>
  intro hl h1 h2
  have g1:=ja h1
  have g2:=ja h2
  by_cases e:c=b
  ·subst e;exact h2
  ·obtain⟨q,hq⟩:∃ q,p[c]?=some q:=⟨_,gE hl⟩
   obtain⟨f1,f2,f3⟩:=hh c q hq
   have f4:=f3 (by omega)
   obtain⟨m,hm⟩:∃ m:Nat,q.parent=m:=⟨q.parent.toNat,by omega⟩
   have hs:=jB hh (b:=(b:Int)) (by omega) hq (by omega)
   have ht:=jB hh (b:=(o:Int)) (by omega) hq (by omega)
   rw [hm] at hs ht
   rw [ht]
   exact ih m (by omega) (by omega) (hs.symm.trans h1) h2
theorem qH3 (hh:z6 p) (hk:p[b]?=some k) (hb0:0<b) {o:Int} (h0:0<o) (hob:o<b):∀ c:Nat,zJ p c b=true→zF p x p.length c=o→outer p b x=o:=by
 intro c
 induction c using Nat.strongRecOn with
 | ind c ih =>
  intro hi h
  have hbc:=ja hi
  have hc0:0<c:=by omega
  cases hq:p[c]? with
  | none =>
   by_cases e:c=b
   ·subst e
    rw [hk] at hq
    cases hq
   ·have:p.length=0∨∃ n,p.length=n+1:=by
     cases p.length with
     | zero=>exact .inl rfl
     | succ n=>exact .inr ⟨n,rfl⟩
    rcases this with e0|⟨n,hn⟩
    ·rw [e0] at h
     simp [zF] at h
     omega
    ·rw [hn] at h
     simp only [zF,Int.toNat_natCast,hq] at h
     split at h <;> omega
  | some q =>
   rw [j5 hh hq hc0] at h
   obtain⟨g1,g2,g3⟩:=hh c q hq
   have g4:=g3 hc0
   obtain⟨m,hm⟩:∃ m:Nat,q.parent=m:=⟨q.parent.toNat,by omega⟩
   by_cases e:c=b
   ·subst e
    rw [hk] at hq
    obtain rfl:=sI hq
    rw [jv hh hk]
    split at h
    ·exact h
    ·split at h
     ·omega
     ·split at h
      ·omega
      ·exact h
   ·have hs:=jB hh (b:=(b:Int)) (by omega) hq (by omega)
    rw [hi,hm] at hs
    rw [hm] at h
    split at h
    ·exact ih m (by omega) hs.symm h
    ·split at h
     ·omega
     ·split at h
      ·omega
      ·exact ih m (by omega) hs.symm h
theorem wg (hh:z6 p):∀ (n:Nat) (j:Int),zF p x n j=o→0<o→qi p o=1
 | 0,j,h,h0=>by simp only [zF] at h;omega
 | n+1,j,h,h0=>by
  simp only [zF] at h
  split at h
  ·omega
  ·split at h
   ·omega
   ·rename_i q hq
    split at h
    ·exact wg hh n _ h h0
    ·rename_i hk1
     split at h
     ·omega
     ·split at h
      ·have:j.toNat=o:=by omega
       rw [this] at hq
       simp only [qi,hq]
       simpa using hk1
      ·exact wg hh n _ h h0
theorem qO0 (hq:p[c]?=some q) (hx:x∈q.us) (ho:qz p c x=o) (h0:0<o) (hob:o<b) (hi:zJ p c b=true):x∈qU p b:=by
 have hbc:=ja hi
 have hcl:=(gS hq).1
 simp only [qU,mem_sorted,zi,jF]
 refine⟨⟨c - b,by omega,?_⟩,(mem_sorted.1 hx).2⟩
 have e:b+(c - b)=c:=by omega
 rw [e]
 simp only [vm,hq,hi,if_true,List.mem_filter,yK,ho,Bool.and_eq_true,decide_eq_true_eq]
 exact⟨hx,by omega,by omega⟩
theorem qOk (hk:qi p o=1) (hq:p[c]?=some q) (hx:x∈q.us) (ho:qz p c x=o) (hc:o<c):x∈qE p o:=by
 have hcl:=(gS hq).1
 simp only [qE,hk,if_true,mem_sorted,jD,jF]
 refine⟨⟨c - (o+1),by omega,?_⟩,(mem_sorted.1 hx).2⟩
 have e:o+1+(c - (o+1))=c:=by omega
 rw [e]
 simp only [uy,hq,List.mem_filter,vI,ho,beq_self_eq_true,and_true]
 exact hx
theorem qKA (h:x∈qE p o) (hk:p[o]?=some k):zZ o k x=true∧x∉k.dc 9∧k.kind=1:=by
 unfold qE at h
 split at h
 ·rename_i h1
  simp only [mem_sorted,jD,jF] at h
  obtain⟨⟨i,_,h⟩,_⟩:=h
  unfold uy at h
  cases hq:p[o+1+i]? with
  | none=>rw [hq] at h;simp at h
  | some q =>
   rw [hq] at h
   have hf:=(List.mem_filter.1 h).2
   simp only [vI,beq_iff_eq] at hf
   obtain⟨k',hk',h2,h3⟩:=wd hf
   rw [hk] at hk'
   obtain rfl:=sI hk'
   exact⟨h2,h3,by simpa [qi,hk] using h1⟩
 ·simp at h
theorem qA6 (h:x∈qU p b):0<b:=by
 simp only [qU,mem_sorted,zi,jF] at h
 obtain⟨⟨i,_,h⟩,_⟩:=h
 unfold vm at h
 cases hq:p[b+i]? with
 | none=>rw [hq] at h;simp at h
 | some q =>
  rw [hq] at h
  simp only at h
  split at h
  ·have hf:=(List.mem_filter.1 h).2
   simp only [yK,Bool.and_eq_true,decide_eq_true_eq] at hf
   omega
  ·simp at h
theorem qCs (hh:z6 p) (hk:p[b]?=some k) (hx:x∈qU p b):∃ (o c:Nat) (q:Blk),0<o∧o<b∧outer p b x=o∧zJ p b o=true∧p[c]?=some q∧x∈q.us∧qz p c x=o∧zJ p c b=true:=by
 have hb0:=qA6 hx
 simp only [qU,mem_sorted,zi,jF] at hx
 obtain⟨⟨i,hi,hx⟩,_⟩:=hx
 unfold vm at hx
 cases hq:p[b+i]? with
 | none=>rw [hq] at hx;simp at hx
 | some q =>
  rw [hq] at hx
  simp only at hx
  split at hx
  case isFalse=>simp at hx
  rename_i hin
  obtain⟨hus,hf⟩:=List.mem_filter.1 hx
  simp only [yK,Bool.and_eq_true,decide_eq_true_eq] at hf
  obtain⟨o,hO⟩:∃ o:Nat,qz p (b+i) x=o:=⟨(qz p (b+i) x).toNat,by omega⟩
  rw [hO] at hf
  have key:outer p b x=o:=by
   have hO':=hO
   simp only [qz,hq] at hO'
   split at hO'
   ·omega
   ·split at hO'
    ·omega
    ·by_cases e:i=0
     ·subst e
      exact hO'
     ·rw [jv hh hq] at hO'
      obtain⟨g1,g2,g3⟩:=hh (b+i) q hq
      have g4:=g3 (by omega)
      obtain⟨m,hm⟩:∃ m:Nat,q.parent=m:=⟨q.parent.toNat,by omega⟩
      have hs:=jB hh (b:=(b:Int)) (by omega) hq (by omega)
      rw [hin,hm] at hs
      rw [hm] at hO'
      exact qH3 hh hk hb0 (by omega) (by omega) m hs.symm hO'
  exact⟨o,b+i,q,by omega,by omega,key,kh hh (by omega) hk hb0 key,hq,hus,hO,hin⟩
theorem qLm (hh:z6 p) (hk:p[b]?=some k) (hx:x∈qU p b) {o:Nat} (ho:outer p b x=o):x∈qE p o:=by
 obtain⟨o',c,q,h0,hob,e,hi,hq,hu,hw,hc⟩:=qCs hh hk hx
 obtain rfl:o=o':=by omega
 have hk1:qi p o=1:=by
  rw [jv hh hk] at e
  exact wg hh _ _ e h0
 have:=ja hc
 exact qOk hk1 hq hu hw (by omega)
theorem qOm (hh:z6 p) (hk:p[b]?=some k) (hx:x∈qU p b) {o:Nat} (ho:outer p b x=o) :
  vt p b<b∧(p[vt p b]?).isSome∧0<o∧zJ p (vt p b) o=true∧((o=vt p b∧x∈qE p (vt p b))∨(o<vt p b∧x∉qE p (vt p b)∧x∈qU p (vt p b)∧outer p (vt p b) x=o)):=by
 have hcl:=qLm hh hk hx ho
 obtain⟨o',c,q,h0,hob,e,hi,hq,hu,hw,hc⟩:=qCs hh hk hx
 obtain rfl:o=o':=by omega
 have hbl:=(gS hk).1
 have hcl':=(gS hq).1
 obtain⟨g1,g2,g3⟩:=hh b k hk
 have g4:=g3 (by omega)
 obtain⟨P,hP⟩:∃ P:Nat,k.parent=P:=⟨k.parent.toNat,by omega⟩
 have hpa:vt p b=P:=by simp [vt,hk,hP]
 rw [hpa]
 obtain⟨kp,hkp⟩:∃ kp,p[P]?=some kp:=⟨_,gE (by omega)⟩
 have hs:=jB hh (b:=(o:Int)) (by omega) hk (by omega)
 rw [hi,hP] at hs
 have hge:=ja hs.symm
 refine⟨by omega,by simp [hkp],h0,hs.symm,?_⟩
 by_cases eo:o=P
 ·subst eo
  exact .inl ⟨rfl,hcl⟩
 have hbp:zJ p b P=true:=by
  have:=jB hh (b:=(P:Int)) (by omega) hk (by omega)
  rw [this,hP,jU (by omega)]
  simp
 have hcp:=qG1 hh c hcl' hc hbp
 refine .inr ⟨by omega,fun hm=>?_,qO0 hq hu hw h0 (by omega) hcp,?_⟩
 ·obtain⟨l1,l2,l3⟩:=qKA hm hkp
  rw [jv hh hk,hP,j5 hh hkp (by omega),if_neg (by simp [l3]),if_neg l2,if_pos l1] at e
  omega
 ·rw [jv hh hk,hP,j5 hh hkp (by omega)] at e
  rw [jv hh hkp]
  split at e
  ·exact e
  ·split at e
   ·omega
   ·split at e
    ·omega
    ·exact e
end
def Steps (p:Prg) (m m':Mch):Prop:=∃ N,∀ k,zN p (N+k) m=zN p k m'
theorem step_ord {p:Prg} {m:Mch} {fs:List Frm} {f:Frm} {o:Int×Int} (hf:m.frames=fs++[f]) (ho:(jO p f.blk)[f.pc]?=some o):yC p m=yq p m fs { f with pc:=f.pc+1 } o:=by
 simp [yC,hf,ho]
theorem step_end {p:Prg} {m:Mch} {fs:List Frm} {f:Frm} (hf:m.frames=fs++[f]) (ho:(jO p f.blk)[f.pc]?=none):yC p m=qDk p m fs f:=by
 simp [yC,hf,ho]
def qUz (p:Prg) (acts:List Act) (B:List Nat) (x:Int) (o a:Nat):Nat:=B.getD (qRj acts o a a) 0+(qm (qE p o) x).toNat
def qOn (p:Prg) (acts:List Act) (B:List Nat) (b up:Nat):List Nat:=(qU p b).map fun x=>qUz p acts B x (outer p b x).toNat up
def qJA (p:Prg) (acts:List Act) (B:List Nat) (a:Nat) (c:Act):List Nat:=(List.range (qE p c.blk).length).map (B.getD a 0+·)++qOn p acts B c.blk c.up
structure FrOk (p:Prg) (acts:List Act) (B:List Nat) (a:Nat) (c:Act) (f:Frm):Prop where
 blk:f.blk=c.blk
 cells:f.cells=qJA p acts B a c
 fasts:f.fasts=(qI p c.blk).map fun x=>yn c.vars x.toNat
 names:qi p c.blk=2→f.names=c.vars
structure RSim (p:Prg) (w:Wld) (m:Mch) (B:List Nat):Prop where
 en:m.en=w.en
 out:m.out=w.out
 tr:m.trace=w.trace
 left:m.left=w.left
 glob:m.globals=w.globals
 cls:m.classes=w.classes
 funs:m.funs=w.funs.map fun g=>(g.1,qOn p w.acts B g.1 g.2)
 made:m.made=w.acts.length
 blen:B.length=w.acts.length
 top:∀ (a:Nat) c,w.acts[a]?=some c→B.getD a 0+(qE p c.blk).length≤m.cells.length
 dis:∀ (a a':Nat) c,a<a'→a'<w.acts.length→w.acts[a]?=some c→B.getD a 0+(qE p c.blk).length≤B.getD a' 0
 val:∀ (a j:Nat) c x,w.acts[a]?=some c→(qE p c.blk)[j]?=some x→m.cells[B.getD a 0+j]?=some (yn c.vars x.toNat)
 frl:m.frames.length=w.stack.length
 frs:∀ (i a:Nat) c f,w.stack[i]?=some a→w.acts[a]?=some c→m.frames[i]?=some f→FrOk p w.acts B a c f
 stk:w.stack.Pairwise (·<·)
 fk:∀ g∈w.funs,qi p g.1=1
section
variable {p:Prg} {w:Wld} {m:Mch} {B:List Nat} {a b o:Nat} {c:Act} {k:Blk} {f:Frm} {x:Int} {fs:List Frm}
theorem qEz (h:x∈qI p b):x∉qE p b:=by
 unfold qI at h
 split at h
 ·obtain⟨n,hn,hf,rfl⟩:=uW.1 h
  unfold jz at hf
  split at hf
  ·simp only [Bool.and_eq_true,Bool.not_eq_true',decide_eq_false_iff_not] at hf
   exact hf.2
  ·cases hf
 ·simp at h
theorem qIH {l:List Slt} {i j:Nat} {s:Slt} (hi:i<l.length):yn (l.set i s) j=if j=i then s else yn l j:=by
 simp only [yn,List.getElem?_set]
 by_cases e:i=j
 ·subst e;simp [hi]
 ·rw [if_neg e,if_neg fun h=>e h.symm]
theorem wB (hp:ShapeP p) (hk:p[b]?=some k):k.kind=0∨k.kind=1∨k.kind=2:=by
 have h:=hp.head b k hk
 unfold jJ at h
 split at h <;> omega
end
end Go.Hm
end
section

end
section
namespace Go.Hm
open Go Go.RowKit
section
variable {p:Prg} {w:Wld} {m:Mch} {B:List Nat} {a b o d up:Nat} {c e:Act} {k:Blk} {f:Frm} {x:Int} {fs:List Frm} {vs:List Val} {cs:List Nat}
theorem qKC {acts:List Act}:qOn p acts B 0 up=[]:=by
 have:qU p 0=[]:=by
  rw [List.eq_nil_iff_forall_not_mem]
  intro x hx
  exact absurd (qA6 hx) (by decide)
 simp [qOn,this]
end
section
variable {p:Prg} {w:Wld} {m:Mch} {B:List Nat} {a b o d up:Nat} {c e:Act} {k:Blk} {f:Frm} {x:Int} {fs:List Frm} {vs:List Val} {cs:List Nat} {st:List Nat} {s:Stm}
def Frm.next (f:Frm):Frm:={ f with pc:=f.pc+1 }
end
end Go.Hm
end
section

end
section

end
section

end
section
namespace Go.Hm
open Go Go.RowKit
section
variable {p:Prg} {m:Mch} {n i j:Nat}
theorem qJ4 (h:m.ended):∀ k,zN p k m=m
 | 0=>rfl
 | k+1=>by rw [zN,if_pos h]
theorem zn:∀ (i:Nat) (m:Mch),zN p (i+1) m=if (zN p i m).ended then zN p i m else yC p (zN p i m)
 | 0,m=>rfl
 | i+1,m=>by
  rw [zN]
  by_cases h:m.ended
  ·rw [if_pos h,qJ4 h,if_pos h]
  ·rw [if_neg h,zn i,zN,if_neg h]
theorem vf (h:(zN p i m).ended) (hij:i≤j):zN p j m=zN p i m:=by
 induction hij with
 | refl=>rfl
 | step _ ih=>rw [zn,ih,if_pos h]
theorem qK4 (hp:ValP p):RSim p (qCE n) (qL p n) [0]∧∃ f,(qL p n).frames=[]++[f]∧f.blk=0∧f.pc=0∧f.stack=[]:=by
 have hl:=hp.sh.len
 obtain⟨k,hk⟩:∃ k,p[0]?=some k:=⟨_,gE (by omega)⟩
 have hk0:=(hp.sh.kind0 hk).2 rfl
 have hka:qi p 0=0:=by simp [qi,hk,hk0]
 have hc0:qE p 0=[]:=by unfold qE;rw [if_neg (by omega)]
 have hf0:qI p 0=[]:=by unfold qI;rw [if_neg (by omega)]
 have hps:(q8 p 0).params=[]:=by
  have:=hp.sh.head 0 k hk
  unfold jJ at this
  rw [if_pos rfl] at this
  simp only [q8,hk]
  exact List.eq_nil_of_length_eq_zero this.2.2
 have hM:qL p n=⟨[],qe,[],[],[⟨0,0,[],[],qe,[]⟩],1,1,[],[],0,n⟩:=by
  unfold qL qk
  rw [hps]
  simp [qT,hc0,hf0]
 rw [hM]
 have hone:∀ (i:Nat) c,(qCE n).acts[i]?=some c→i=0∧c=⟨0,0,qe⟩:=by
  intro i c h
  have hi:=(gS h).1
  simp only [qCE,List.length_singleton] at hi
  obtain rfl:i=0:=by omega
  simp only [qCE,List.getElem?_cons_zero,Option.some.injEq] at h
  exact⟨rfl,h.symm⟩
 refine⟨⟨rfl,rfl,rfl,rfl,rfl,rfl,rfl,rfl,rfl,fun a c hc=>?_,fun a a' c h1 h2 hc=>?_,fun a j c x hc hx=>?_,rfl,fun i a c f hi hc hf=>?_,by simp [qCE],fun g hg=>by simp [qCE] at hg⟩,_,rfl,rfl,rfl,rfl⟩
 ·obtain⟨rfl,rfl⟩:=hone a c hc
  simp [hc0]
 ·simp only [qCE,List.length_singleton] at h2
  omega
 ·obtain⟨rfl,rfl⟩:=hone a c hc
  rw [hc0] at hx
  simp at hx
 ·obtain⟨rfl,rfl⟩:=hone a c hc
  have hil:=(gS hf).1
  simp only [List.length_singleton] at hil
  obtain rfl:i=0:=by omega
  simp only [List.getElem?_cons_zero,Option.some.injEq] at hf
  subst hf
  refine⟨rfl,?_,by simp [hf0],fun h=>by simp only at h;omega⟩
  simp [qJA,hc0,qKC]
end
def zy:List (Int×Int)→Nat
 | []=>0
 | o::l=>if o.1=0 then 0 else (if o.1=15∨o.1=16∨o.1=17∨o.1=19 then 1 else 0)+zy l
def zB:Nat→List (Int×Int)→Prop
 | h,[]=>h=0
 | h,o::l =>
  if o.1=0 then h=0∧zy l≤1∧zB 0 l
  else if o.1=1∨o.1=2∨o.1=5∨o.1=8∨o.1=11∨o.1=15∨o.1=16 then zB (h+1) l
  else if o.1=3∨o.1=6∨o.1=9∨o.1=12∨o.1=19∨o.1=20 then 1≤h∧zB (h - 1) l
  else if o.1=14 then 2≤h∧zB (h - 1) l
  else if o.1=17 then o.2.toNat+1≤h∧zB (h - o.2.toNat) l
  else if o.1=18 then 1≤h∧zB h l
  else zB h l
structure OrdOk (p:Prg) (b:Nat) (o:Int×Int):Prop where
 code:0≤o.1∧o.1≤20
 arg:0≤o.2∧o.2≤1000
 fast:2≤o.1→o.1≤4→o.2<(qI p b).length
 cell:5≤o.1→o.1≤7→o.2<((qE p b).length:Int)+(qU p b).length
 name:8≤o.1→o.1≤13→o.2≤7
 attr:o.1=18→o.2≤7
 blk:o.1=15∨o.1=16→∃ q,p[o.2.toNat]?=some q∧q.parent=b∧0<o.2∧q.kind=o.1 - 14
 call:o.1=17→o.2≤1
 ret:o.1=20→qi p b=1
section
variable {p:Prg} {b:Nat} {k:Blk} {s:Stm} {x:Int} {h:Nat} {l:List (Int×Int)}
theorem ui (hr:zB (h+1) l):zB h (zG p b x 0::l):=by
 have key:∀ c:Int,c=8∨c=11∨c=2∨c=5→∀ a,zB h ((c,a)::l):=by
  intro c hc a
  rcases hc with rfl|rfl|rfl|rfl <;> simpa [zB] using hr
 unfold zG
 split
 ·exact key _ (by simp) _
 ·split
  ·exact key _ (by simp) _
  ·split
   ·exact key _ (by simp) _
   ·exact key _ (by simp) _
theorem qOL (hr:zB h l):zB (h+1) (zG p b x 1::l):=by
 have key:∀ c:Int,c=9∨c=12∨c=3∨c=6→∀ a,zB (h+1) ((c,a)::l):=by
  intro c hc a
  rcases hc with rfl|rfl|rfl|rfl <;> simpa [zB] using hr
 unfold zG
 split
 ·exact key _ (by simp) _
 ·split
  ·exact key _ (by simp) _
  ·split
   ·exact key _ (by simp) _
   ·exact key _ (by simp) _
theorem qUX (hr:zB h l):zB h (zG p b x 2::l):=by
 have key:∀ c:Int,c=10∨c=13∨c=4∨c=7→∀ a,zB h ((c,a)::l):=by
  intro c hc a
  rcases hc with rfl|rfl|rfl|rfl <;> simpa [zB] using hr
 unfold zG
 split
 ·exact key _ (by simp) _
 ·split
  ·exact key _ (by simp) _
  ·split
   ·exact key _ (by simp) _
   ·exact key _ (by simp) _
theorem qC1 {v:Int} (hv:v=0∨v=1∨v=2):zy (zG p b x v::l)=zy l:=by
 have key:∀ c:Int,2≤c∧c≤13→∀ a,zy ((c,a)::l)=zy l:=by
  intro c hc a
  simp only [zy]
  rw [if_neg (by omega),if_neg (by omega),Nat.zero_add]
 unfold zG
 split
 ·exact key _ (by rcases hv with rfl|rfl|rfl <;> decide) _
 ·split
  ·exact key _ (by rcases hv with rfl|rfl|rfl <;> decide) _
  ·split
   ·exact key _ (by rcases hv with rfl|rfl|rfl <;> decide) _
   ·exact key _ (by rcases hv with rfl|rfl|rfl <;> decide) _
structure BodyOk (l:List (Int×Int)):Prop where
 ok:zB 0 l
 pend:zy l=0
theorem qQa (hk:0≤s.kind∧s.kind≤11) (hl:BodyOk l):BodyOk (vC p b s++l):=by
 obtain⟨h1,h2⟩:=hl
 have e:vC p b s++l=(0,0)::(yg p b s++(jh s++(kD p b s++l))):=by simp [vC]
 rw [e]
 refine⟨?_,by simp [zy]⟩
 have g:zy (yg p b s++(jh s++(kD p b s++l)))≤1∧zB 0 (yg p b s++(jh s++(kD p b s++l))):=by
  obtain⟨kd,to,a,c⟩:=s
  simp only at hk
  have p0:=fun x l=>qC1 (p:=p) (b:=b) (x:=x) (l:=l) (v:=0) (.inl rfl)
  have p1:=fun x l=>qC1 (p:=p) (b:=b) (x:=x) (l:=l) (v:=1) (.inr (.inl rfl))
  have p2:=fun x l=>qC1 (p:=p) (b:=b) (x:=x) (l:=l) (v:=2) (.inr (.inr rfl))
  have s1:zB 1 (zG p b to 1::l):=qOL h1
  have q1:∀ (a:Int) (l:List (Int×Int)),zy ((1,a)::l)=zy l:=fun a l=>by simp [zy]
  have q14:∀ (a:Int) (l:List (Int×Int)),zy ((14,a)::l)=zy l:=fun a l=>by simp [zy]
  have q18:∀ (a:Int) (l:List (Int×Int)),zy ((18,a)::l)=zy l:=fun a l=>by simp [zy]
  have q20:∀ (a:Int) (l:List (Int×Int)),zy ((20,a)::l)=zy l:=fun a l=>by simp [zy]
  have q15:∀ (a:Int) (l:List (Int×Int)),zy ((15,a)::l)=1+zy l:=fun a l=>by simp [zy]
  have q16:∀ (a:Int) (l:List (Int×Int)),zy ((16,a)::l)=1+zy l:=fun a l=>by simp [zy]
  have q17:∀ (a:Int) (l:List (Int×Int)),zy ((17,a)::l)=1+zy l:=fun a l=>by simp [zy]
  have q19:∀ (a:Int) (l:List (Int×Int)),zy ((19,a)::l)=1+zy l:=fun a l=>by simp [zy]
  have hd:kd=0∨kd=1∨kd=2∨kd=3∨kd=4∨kd=5∨kd=6∨kd=7∨kd=8∨kd=9∨kd=10∨kd=11:=by omega
  rcases hd with rfl|rfl|rfl|rfl|rfl|rfl|rfl|rfl|rfl|rfl|rfl|rfl
  ·simp [yg,Stm.reads,jh,kD]
   exact⟨by simp [q1,q14,q15,q16,q17,q18,q19,q20,p1,h2],by simpa [zB] using s1⟩
  ·simp [yg,Stm.reads,jh,kD]
   exact⟨by simp [p0,p1,h2],ui s1⟩
  ·simp [yg,Stm.reads,jh,kD]
   exact⟨by simp [q1,q14,q15,q16,q17,q18,q19,q20,p0,p1,h2],ui (ui (by simpa [zB] using s1))⟩
  ·simp [yg,Stm.reads,jh,kD]
   exact⟨by simp [q1,q14,q15,q16,q17,q18,q19,q20,p1,h2],by simpa [zB] using s1⟩
  ·simp [yg,Stm.reads,jh,kD]
   exact⟨by simp [q1,q14,q15,q16,q17,q18,q19,q20,p1,h2],by simpa [zB] using s1⟩
  ·by_cases hc:c=-1
   ·simp [yg,Stm.reads,jh,kD,hc]
    exact⟨by simp [q1,q14,q15,q16,q17,q18,q19,q20,p0,p1,h2],ui (by simpa [zB] using s1)⟩
   ·simp [yg,Stm.reads,jh,kD,hc]
    exact⟨by simp [q1,q14,q15,q16,q17,q18,q19,q20,p0,p1,h2],ui (ui (by simpa [zB] using s1))⟩
  ·simp [yg,Stm.reads,jh,kD]
   exact⟨by simp [q1,q14,q15,q16,q17,q18,q19,q20,p0,p1,h2],ui (by simpa [zB] using s1)⟩
  ·simp [yg,Stm.reads,jh,kD]
   exact⟨by simp [q1,q14,q15,q16,q17,q18,q19,q20,p0,h2],ui (by simpa [zB] using h1)⟩
  ·simp [yg,Stm.reads,jh,kD]
   exact⟨by simp [q1,q14,q15,q16,q17,q18,q19,q20,p0,h2],ui (by simpa [zB] using h1)⟩
  ·simp [yg,Stm.reads,jh,kD]
   exact⟨by omega,h1⟩
  ·simp [yg,Stm.reads,jh,kD]
   exact⟨by omega,h1⟩
  ·simp [yg,Stm.reads,jh,kD]
   exact⟨by simp [p2,h2],qUX h1⟩
 simp only [zB,if_true]
 exact⟨trivial,g⟩
theorem qMQ:∀ ss:List Stm,(∀ s∈ss,0≤s.kind∧s.kind≤11)→BodyOk (yE p b ss)
 | [],_=>⟨rfl,rfl⟩
 | s::ss,h=>by
  have e:yE p b (s::ss)=vC p b s++yE p b ss:=by simp [yE]
  rw [e]
  exact qQa (h s (by simp)) (qMQ ss fun t ht=>h t (by simp [ht]))
theorem qUV (hp:ShapeP p) (hk:p[b]?=some k):BodyOk (jO p b):=by
 rw [jO,hk]
 exact qMQ _ (hp.names k (gM hk)).kinds
theorem qCb (hp:ShapeP p) (hk:p[b]?=some k) (hu:x∈k.us) {v:Int} (h0:0≤v) (h2:v≤2):OrdOk p b (zG p b x v):=by
 have hx:0≤x∧x≤7:=by
  rw [Blk.us,mem_sorted] at hu
  exact hu.2
 have f1:=yv (p:=p) (b:=b)
 have f2:=zV (p:=p) (b:=b)
 have f3:=jW (p:=p) (b:=b)
 rcases qJe (w:=v) hp hk hu with⟨_,e⟩|⟨_,e⟩|⟨_,i,e,hi,_⟩|⟨_,i,e,hi,_⟩|⟨_,i,e,hi,_⟩ <;> rw [e] <;> refine⟨?_,?_,?_,?_,?_,?_,?_,?_,?_⟩ <;> simp only [] <;> omega
theorem qI1 (hp:ShapeP p) (hk:p[b]?=some k):∀ o∈jO p b,OrdOk p b o:=by
 have hn:=hp.names k (gM hk)
 intro o ho
 simp only [jO,hk,yE,List.mem_flatMap] at ho
 obtain⟨s,hs,ho⟩:=ho
 have hst:=hp.stm b k hk s hs
 have hkd:=hn.kinds s hs
 have hka:qi p b=k.kind:=by simp [qi,hk]
 simp only [vC,List.mem_cons,List.mem_append] at ho
 rcases ho with rfl|ho|ho|ho
 ·refine⟨?_,?_,?_,?_,?_,?_,?_,?_,?_⟩ <;> simp only [] <;> omega
 ·simp only [yg,List.mem_map] at ho
  obtain⟨x,hx,rfl⟩:=ho
  exact qCb hp hk (qNq hn hs hx) (by decide) (by decide)
 ·unfold jh at ho
  by_cases k0:s.kind=0
  ·rw [if_pos k0] at ho
   obtain rfl:=List.mem_singleton.1 ho
   have:=zo.num hst k0
   refine⟨?_,?_,?_,?_,?_,?_,?_,?_,?_⟩ <;> simp only [] <;> omega
  rw [if_neg k0] at ho
  by_cases k2:s.kind=2
  ·rw [if_pos k2] at ho
   obtain rfl:=List.mem_singleton.1 ho
   refine⟨?_,?_,?_,?_,?_,?_,?_,?_,?_⟩ <;> simp only [] <;> omega
  rw [if_neg k2] at ho
  by_cases k3:s.kind=3
  ·rw [if_pos k3] at ho
   obtain rfl:=List.mem_singleton.1 ho
   obtain⟨q,q1,q2,q3,q4⟩:=zo.made hst (.inl k3)
   have hql:=(gS q1).1
   have:=hp.len
   refine⟨?_,?_,?_,?_,?_,?_,fun _=>⟨q,q1,q2,q3,?_⟩,?_,?_⟩ <;> simp only [] <;> omega
  rw [if_neg k3] at ho
  by_cases k4:s.kind=4
  ·rw [if_pos k4] at ho
   obtain rfl:=List.mem_singleton.1 ho
   obtain⟨q,q1,q2,q3,q4⟩:=zo.made hst (.inr k4)
   have hql:=(gS q1).1
   have:=hp.len
   refine⟨?_,?_,?_,?_,?_,?_,fun _=>⟨q,q1,q2,q3,?_⟩,?_,?_⟩ <;> simp only [] <;> omega
  rw [if_neg k4] at ho
  by_cases k5:s.kind=5
  ·rw [if_pos k5] at ho
   obtain rfl:=List.mem_singleton.1 ho
   have:s.reads.length=1∨s.reads.length=2:=by
    simp only [Stm.reads,k5]
    by_cases e:s.b=-1 <;> simp [e]
   refine⟨?_,?_,?_,?_,?_,?_,?_,?_,?_⟩ <;> simp only [] <;> omega
  rw [if_neg k5] at ho
  by_cases k6:s.kind=6
  ·rw [if_pos k6] at ho
   obtain rfl:=List.mem_singleton.1 ho
   have:0≤s.b∧s.b≤7:=by
    simp only [zo,k6] at hst
    simp at hst
    omega
   refine⟨?_,?_,?_,?_,?_,?_,?_,?_,?_⟩ <;> simp only [] <;> omega
  rw [if_neg k6] at ho
  by_cases k7:s.kind=7
  ·rw [if_pos k7] at ho
   obtain rfl:=List.mem_singleton.1 ho
   refine⟨?_,?_,?_,?_,?_,?_,?_,?_,?_⟩ <;> simp only [] <;> omega
  rw [if_neg k7] at ho
  by_cases k8:s.kind=8
  ·rw [if_pos k8] at ho
   obtain rfl:=List.mem_singleton.1 ho
   have:k.kind=1:=by
    simp only [zo,k8] at hst
    simp at hst
    exact hst.2.2
   refine⟨?_,?_,?_,?_,?_,?_,?_,?_,?_⟩ <;> simp only [] <;> omega
  rw [if_neg k8] at ho
  cases ho
 ·unfold kD at ho
  split at ho
  ·rename_i e
   obtain rfl:=List.mem_singleton.1 ho
   exact qCb hp hk (qTZ hn hs (.inr e)) (by decide) (by decide)
  ·split at ho
   ·rename_i e
    obtain rfl:=List.mem_singleton.1 ho
    exact qCb hp hk (qTZ hn hs (.inl e)) (by decide) (by decide)
   ·cases ho
end
end Go.Hm
end
section
namespace Go.Hm
open Go Go.RowKit
structure FOk (p:Prg) (nf nk nc:Nat) (f:Frm) (e:Nat):Prop where
 blk:f.blk<p.length
 fl:f.fasts.length=(qI p f.blk).length
 fv:∀ v,some v∈f.fasts→VOk nf nk v
 cl:f.cells.length=(qE p f.blk).length+(qU p f.blk).length
 cr:∀ c∈f.cells,c<nc
 nm:SOk nf nk f.names
 sv:∀ v∈f.stack,VOk nf nk v
 sl:f.stack.length+e≤f.pc
 pc:f.pc≤(jO p f.blk).length
 ok:zB (f.stack.length+e) ((jO p f.blk).drop f.pc)
def jk (p:Prg) (f:Frm):Nat:=zy ((jO p f.blk).drop f.pc)
def qE8 (p:Prg) (fs:List Frm):Nat:=(fs.map (jk p)).sum
structure MOk (p:Prg) (m:Mch) (fs:List Frm) (f:Frm):Prop where
 cells:∀ v,some v∈m.cells→VOk m.funs.length m.classes.length v
 glob:SOk m.funs.length m.classes.length m.globals
 cls:∀ c∈m.classes,SOk m.funs.length m.classes.length c
 funs:∀ g∈m.funs,∃ k,p[g.1]?=some k∧k.kind=1∧g.2.length=(qU p g.1).length∧∀ c∈g.2,c<m.cells.length
 low:∀ g∈fs,FOk p m.funs.length m.classes.length m.cells.length g 1
 top:FOk p m.funs.length m.classes.length m.cells.length f 0
 made:m.made+m.left+(qE8 p fs+jk p f)≤151
 nf:m.funs.length+m.left+(qE8 p fs+jk p f)≤150
 nk:m.classes.length+(fs.length+1)≤m.made
 nc:m.cells.length≤8 * m.made
 out:m.out.length+m.left+(qE8 p fs+jk p f)≤150
 tr:m.trace.length+m.left≤150
 deep:fs.length+1≤m.deep∧m.deep≤m.made
 b0:∀ g,(fs++[f])[0]?=some g→g.blk=0
section
variable {p:Prg} {m:Mch} {nf nk nc nf' nk' nc' b e:Nat} {fs:List Frm} {f g:Frm} {o:Int×Int} {v:Val} {k:Blk} {x:Int}
theorem FOk.mono (h:FOk p nf nk nc f e) (h1:nf≤nf') (h2:nk≤nk') (h3:nc≤nc'):FOk p nf' nk' nc' f e :=
 ⟨h.blk,h.fl,fun v hv=>(h.fv v hv).mono h1 h2,h.cl,fun c hc=>Nat.lt_of_lt_of_le (h.cr c hc) h3,h.nm.mono h1 h2,fun v hv=>(h.sv v hv).mono h1 h2,h.sl,h.pc,h.ok⟩
theorem uD (ho:(jO p f.blk)[f.pc]?=some o):(jO p f.blk).drop f.pc=o::(jO p f.blk).drop (f.pc+1):=by
 obtain⟨hl,hE⟩:=gS ho
 rw [← hE]
 exact List.drop_eq_getElem_cons hl
theorem kw {l:List Slt} {i:Nat} (h:yn l i=some v):some v∈l:=by
 unfold yn at h
 split at h
 ·rename_i s hs
  subst h
  exact gM hs
 ·cases h
theorem uI (h:1≤f.stack.length):f.tos∈f.stack:=by
 unfold Frm.tos
 cases hs:f.stack.getLast? with
 | none =>
  rw [List.getLast?_eq_none_iff] at hs
  rw [hs] at h
  simp at h
 | some v =>
  rw [List.getLastD_eq_getLast?,hs]
  exact List.mem_of_getLast? hs
theorem uL:f.pop.stack.length=f.stack.length - 1:=by simp [Frm.pop]
theorem kR {v:Val} (h:v∈f.pop.stack):v∈f.stack:=List.dropLast_subset _ h
theorem MOk.re {pc:Nat} {st:List Val} (h:MOk p m fs f) (ho:(jO p f.blk)[f.pc]?=some o) (hpc:pc=f.pc+1) (hv:∀ v∈st,VOk m.funs.length m.classes.length v) (hl:st.length≤pc) (hok:zB st.length ((jO p f.blk).drop (f.pc+1))) (h0:o.1≠0):MOk p m fs { f with pc:=pc,stack:=st }:=by
 subst hpc
 have hd:=uD ho
 have hpl:=(gS ho).1
 have hp1:jk p { f with pc:=f.pc+1,stack:=st }≤jk p f:=by
  simp only [jk,hd,zy,if_neg h0]
  omega
 have h1:=h.made
 have h2:=h.nf
 have h3:=h.out
 refine⟨h.cells,h.glob,h.cls,h.funs,h.low,⟨h.top.blk,h.top.fl,h.top.fv,h.top.cl,h.top.cr,h.top.nm,hv,hl,hpl,hok⟩,by omega,by omega,h.nk,h.nc,by omega,h.tr,h.deep,fun g hg=>?_⟩
 cases fs with
 | nil=>simp at hg;subst hg;exact h.b0 f (by simp)
 | cons a l=>exact h.b0 g (by simpa using hg)
theorem MOk.frames {X:List Frm} (h:MOk p m fs f):MOk p { m with frames:=X } fs f :=
 ⟨h.cells,h.glob,h.cls,h.funs,h.low,h.top,h.made,h.nf,h.nk,h.nc,h.out,h.tr,h.deep,h.b0⟩
def qPa (p:Prg) (m:Mch):Prop:=∃ fs f,m.frames=fs++[f]∧MOk p m fs f
theorem qPa.of (h:MOk p m fs f):qPa p (m.top fs f):=⟨fs,f,rfl,h.frames⟩
theorem qR9 (h:MOk p m fs f) (hg:qA5 m f o=some v):VOk m.funs.length m.classes.length v:=by
 unfold qA5 at hg
 split at hg
 ·exact h.top.fv v (kw hg)
 ·split at hg
  ·exact h.cells v (kw hg)
  ·split at hg
   ·exact h.glob.2 v (kw hg)
   ·exact h.top.nm.2 v (kw hg)
theorem qKy (h:MOk p m fs f) (ho:(jO p f.blk)[f.pc]?=some o) (h0:o.1≠0) (hok:zB (f.stack.length+1) ((jO p f.blk).drop (f.pc+1))) (hv:VOk m.funs.length m.classes.length v):MOk p m fs (f.next.push v):=by
 have hsl:=h.top.sl
 refine h.re ho rfl (fun u hu=>?_) ?_ ?_ h0
 ·rcases List.mem_append.1 hu with e|e
  ·exact h.top.sv u e
  ·simp only [List.mem_singleton] at e;subst e;exact hv
 ·simp [Frm.next];omega
 ·simpa [Frm.next] using hok
theorem qEH {l:List Slt} {i:Nat} {s:Slt} {u:Val} (h:some u∈l.set i s):some u∈l∨s=some u:=by
 rcases List.mem_or_eq_of_mem_set h with e|e
 ·exact .inl e
 ·exact .inr e.symm
theorem qKb {s:Slt} (h:MOk p m fs f) (hs:∀ v,s=some v→VOk m.funs.length m.classes.length v):qPa p (setS m fs f o s):=by
 unfold setS
 split
 ·refine .of ⟨h.cells,h.glob,h.cls,h.funs,h.low,⟨h.top.blk,by simp [h.top.fl],fun v hv=>?_,h.top.cl,h.top.cr,h.top.nm,h.top.sv,h.top.sl,h.top.pc,h.top.ok⟩,h.made,h.nf,h.nk,h.nc,h.out,h.tr,h.deep,fun g hg=>?_⟩
  ·rcases qEH hv with e|e
   ·exact h.top.fv v e
   ·exact hs v e
  ·cases fs with
   | nil=>simp at hg;subst hg;exact h.b0 f (by simp)
   | cons a l=>exact h.b0 g (by simpa using hg)
 ·split
  ·refine⟨fs,f,rfl,⟨fun v hv=>?_,h.glob,h.cls,fun g hg=>?_,fun g hg=>(h.low g hg).mono (Nat.le_refl _) (Nat.le_refl _) (by simp),h.top.mono (Nat.le_refl _) (Nat.le_refl _) (by simp),h.made,h.nf,h.nk,?_,h.out,h.tr,h.deep,h.b0⟩⟩
   ·rcases qEH hv with e|e
    ·exact h.cells v e
    ·exact hs v e
   ·obtain⟨q,q1,q2,q3,q4⟩:=h.funs g hg
    exact⟨q,q1,q2,q3,fun c hc=>by have:=q4 c hc;simpa using this⟩
   ·have:=h.nc
    simpa [Mch.top] using this
  ·split
   ·exact⟨fs,f,rfl,⟨h.cells,h.glob.set hs,h.cls,h.funs,h.low,h.top,h.made,h.nf,h.nk,h.nc,h.out,h.tr,h.deep,h.b0⟩⟩
   ·refine .of ⟨h.cells,h.glob,h.cls,h.funs,h.low,⟨h.top.blk,h.top.fl,h.top.fv,h.top.cl,h.top.cr,h.top.nm.set hs,h.top.sv,h.top.sl,h.top.pc,h.top.ok⟩,h.made,h.nf,h.nk,h.nc,h.out,h.tr,h.deep,fun g hg=>?_⟩
    cases fs with
    | nil=>simp at hg;subst hg;exact h.b0 f (by simp)
    | cons a l=>exact h.b0 g (by simpa using hg)
theorem qMG (hh:z6 p) (hk:p[b]?=some k):∀ y∈zE p b,0≤y∧y<((qE p (vt p b)).length:Int)+(qU p (vt p b)).length:=by
 intro y hy
 simp only [zE,List.mem_map] at hy
 obtain⟨x,hx,rfl⟩:=hy
 obtain⟨o,_,_,_,_,ho,_⟩:=qCs hh hk hx
 obtain⟨_,_,_,_,hcase⟩:=qOm hh hk hx ho
 rcases hcase with⟨_,e2⟩|⟨_,e2,e3,_⟩
 ·obtain⟨j,hj1,hj2,_⟩:=ju e2
  rw [vS,if_pos e2,hj1]
  omega
 ·obtain⟨j,hj1,hj2,_⟩:=ju e3
  rw [vS,if_neg e2,hj1]
  omega
theorem qFH (hh:z6 p) (h:FOk p nf nk nc f e) (hk:p[b]?=some k) (hpar:k.parent=f.blk):(y8 p f b).length=(qU p b).length∧∀ c∈y8 p f b,c<nc:=by
 have hpa:vt p b=f.blk:=by simp [vt,hk,hpar]
 refine⟨by simp [y8,zE],fun c hc=>?_⟩
 simp only [y8,List.mem_map] at hc
 obtain⟨y,hy,rfl⟩:=hc
 have hr:=qMG hh hk y hy
 rw [hpa] at hr
 have hcl:=h.cl
 obtain⟨c,hc⟩:∃ c,f.cells[y.toNat]?=some c:=⟨_,gE (by omega)⟩
 rw [List.getD_eq_getElem?_getD,hc]
 exact h.cr c (gM hc)
theorem qGM (hp:ShapeP p) (hb:b<p.length):zB 0 (jO p b)∧zy (jO p b)=0:=by
 obtain⟨k,hk⟩:∃ k,p[b]?=some k:=⟨_,gE hb⟩
 have:=qUV hp hk
 exact⟨this.ok,this.pend⟩
theorem qAo {u:Val} {n:Nat}:some u∉List.replicate n (none:Slt):=by
 intro h
 have:=List.eq_of_mem_replicate h
 cases this
theorem qC2 (hp:ValP p) (hk:p[b]?=some k) (hx:x∈k.params):x∈qI p b∨x∈qE p b:=by
 have hkm:=gM hk
 have hxr:=(hp.sh.names k hkm).params x hx
 have how:=hp.pm b k hk x hx
 have hhd:=hp.sh.head b k hk
 have hk1:k.kind=1∧0<b:=by
  unfold jJ at hhd
  have hne:k.params.length≠0:=fun e=>by rw [List.eq_nil_of_length_eq_zero e] at hx;cases hx
  split at hhd
  ·omega
  ·omega
 have hka:qi p b=1:=by simp [qi,hk,hk1.1]
 by_cases hc:x∈qE p b
 ·exact .inr hc
 ·refine .inl (qIE hp.sh hk hxr ?_)
  unfold zl
  rw [if_neg (by omega),if_neg (fun h=>h how),if_neg (by omega),if_neg hc]
theorem qOv {cs:List Nat} {vs:List Val} {pd:Nat} (hp:ValP p) (hb:b<p.length) (h0:0<b)
  (hcells:∀ v,some v∈m.cells→VOk m.funs.length m.classes.length v) (hglob:SOk m.funs.length m.classes.length m.globals) (hcls:∀ c∈m.classes,SOk m.funs.length m.classes.length c)
  (hfuns:∀ g∈m.funs,∃ k,p[g.1]?=some k∧k.kind=1∧g.2.length=(qU p g.1).length∧∀ c∈g.2,c<m.cells.length)
  (hlow:∀ g∈m.frames,FOk p m.funs.length m.classes.length m.cells.length g 1) (hne:m.frames≠[]) (hpd:qE8 p m.frames=pd)
  (hmade:m.made+1+m.left+pd≤151) (hnf:m.funs.length+m.left+pd≤150) (hnk:m.classes.length+m.frames.length≤m.made) (hnc:m.cells.length≤8 * m.made) (hout:m.out.length+m.left+pd≤150) (htr:m.trace.length+m.left≤150) (hdeep:m.frames.length≤m.deep∧m.deep≤m.made) (hb0:∀ g,m.frames[0]?=some g→g.blk=0)
  (hcsl:cs.length=(qU p b).length) (hcs:∀ c∈cs,c<m.cells.length) (hvs:∀ v∈vs,VOk m.funs.length m.classes.length v):qPa p (qk p m b cs vs):=by
 obtain⟨k,hk⟩:∃ k,p[b]?=some k:=⟨_,gE hb⟩
 have hpar:(q8 p b).params=k.params:=by simp [q8,hk]
 obtain⟨o1,o2⟩:=qGM hp.sh hb
 have c8:=zV (p:=p) (b:=b)
 have base:∀ (F:Frm) (C:List Slt),F.blk=b→F.pc=0→F.stack=[]→F.names=qe→F.cells=((List.range (qE p b).length).map (m.cells.length+·))++cs→F.fasts.length=(qI p b).length→(∀ v,some v∈F.fasts→VOk m.funs.length m.classes.length v)→C.length=m.cells.length+(qE p b).length→(∀ v,some v∈C→VOk m.funs.length m.classes.length v) →
   qPa p { m with cells:=C,made:=m.made+1,deep:=max m.deep (m.frames.length+1),frames:=m.frames++[F] }:=by
  intro F C f1 f2 f3 f4 f5 f6 f7 c1 c2
  have hpF:jk p F=0:=by simp only [jk,f1,f2,List.drop_zero,o2]
  refine⟨m.frames,F,rfl,⟨c2,hglob,hcls,fun g hg=>?_,fun g hg=>(hlow g hg).mono (Nat.le_refl _) (Nat.le_refl _) (by simp only [c1];omega),⟨by rw [f1];exact hb,by rw [f1];exact f6,f7,?_,fun c hc=>?_,by rw [f4];exact SOk.none,by rw [f3];simp,by rw [f3];simp,by rw [f2];omega,?_⟩,?_,?_,?_,?_,?_,htr,?_,fun g hg=>?_⟩⟩
  ·obtain⟨q,q1,q2,q3,q4⟩:=hfuns g hg
   exact⟨q,q1,q2,q3,fun c hc=>by have:=q4 c hc;simp only [c1];omega⟩
  ·rw [f5,f1];simp [hcsl]
  ·rw [f5] at hc
   rcases List.mem_append.1 hc with e|e
   ·simp only [List.mem_map,List.mem_range] at e
    obtain⟨j,hj,rfl⟩:=e
    simp only [c1];omega
   ·have:=hcs c e
    simp only [c1];omega
  ·rw [f1,f2,f3];simpa using o1
  ·simp only [hpF,hpd];omega
  ·simp only [hpF,hpd];omega
  ·simp only;omega
  ·simp only [c1];omega
  ·simp only [hpF,hpd];omega
  ·simp only;omega
  ·cases hm:m.frames with
   | nil=>exact absurd hm hne
   | cons a l =>
    rw [hm] at hg
    exact hb0 g (by rw [hm];simpa using hg)
 unfold qk
 split
 ·rename_i x v hps
  rw [hpar] at hps
  have hx:x∈k.params:=by rw [hps];simp
  have hv:VOk m.funs.length m.classes.length v:=hvs v (by simp)
  by_cases hf:x∈qI p b
  ·rw [if_pos hf]
   refine base _ _ rfl rfl rfl rfl rfl (by simp) (fun u hu=>?_) (by simp) (fun u hu=>?_)
   ·rcases qEH hu with e|e
    ·exact absurd e qAo
    ·obtain rfl:=sI e;exact hv
   ·rcases List.mem_append.1 hu with e|e
    ·exact hcells u e
    ·exact absurd e qAo
  ·rw [if_neg hf]
   refine base _ _ rfl rfl rfl rfl rfl (by simp) (fun u hu=>absurd hu qAo) (by simp) (fun u hu=>?_)
   rcases qEH hu with e|e
   ·rcases List.mem_append.1 e with e|e
    ·exact hcells u e
    ·exact absurd e qAo
   ·obtain rfl:=sI e;exact hv
 ·refine base _ _ rfl rfl rfl rfl rfl (by simp) (fun u hu=>absurd hu qAo) (by simp) (fun u hu=>?_)
  rcases List.mem_append.1 hu with e|e
  ·exact hcells u e
  ·exact absurd e qAo
end
end Go.Hm
end
