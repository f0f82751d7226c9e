/-
  Own texts, joined by mkclaim.py: Hm99, Hm100, Hm101, Hm102, Hm103, Hm105, Hm106, Hm108, Hm109, Hm110, Hm111, Hm112.
-/
import Derived.Test.YtbgmnmnoaamgkaaGreatDoorC12
import Derived.Test.YtbgmnmnoaamgkaaGreatDoorC11
set_option linter.unusedSimpArgs false
set_option linter.unusedVariables false
set_option maxRecDepth 100000
set_option maxHeartbeats 4000000

section
namespace Go.Hm
open Go Go.RowKit
structure Frm where
 blk:Nat
 pc:Nat
 fasts:List Slt
 cells:List Nat
 names:List Slt
 stack:List Val
structure Mch where
 cells:List Slt
 globals:List Slt
 funs:List (Nat×List Nat)
 classes:List (List Slt)
 frames:List Frm
 made:Nat
 deep:Nat
 out:List Int
 trace:List (Nat×Nat)
 en:Int
 left:Nat
def uD (p:Prg) (b:Nat):Nat:=match p[b]? with|some k=>k.parent.toNat|none=>0
def zL (p:Prg) (b:Nat):List Int:=(q9 p b).map (vZ p (uD p b))
theorem ug {p:Prg} {b:Nat}:(zL p b).length≤8:=by simp [zL,jS]
section
variable (p:Prg) (m:Mch) (fs:List Frm) (f:Frm) (o:Int×Int)
def Mch.top:Mch:={ m with frames:=fs++[f] }
def Mch.stop (e:Int):Mch:={ m.top fs f with en:=e }
def Frm.push (v:Val):Frm:={ f with stack:=f.stack++[v] }
def Frm.pop:Frm:={ f with stack:=f.stack.dropLast }
def Frm.tos:Val:=f.stack.getLastD (0,0)
def yt (l:List Slt) (i:Nat):Slt:=match l[i]? with|some s=>s|none=>none
def qBc:Slt :=
 if o.1≤4 then yt f.fasts o.2.toNat
 else if o.1≤7 then yt m.cells (f.cells.getD o.2.toNat 0)
 else if o.1≤10 then yt m.globals o.2.toNat else yt f.names o.2.toNat
def wH:Int:=if o.1≤4 then 2 else if o.1≤7 then (if o.2<(qF p f.blk).length then 2 else 3) else 4
def setS (s:Slt):Mch :=
 if o.1≤4 then m.top fs { f with fasts:=f.fasts.set o.2.toNat s }
 else if o.1≤7 then { m.top fs f with cells:=m.cells.set (f.cells.getD o.2.toNat 0) s }
 else if o.1≤10 then { m.top fs f with globals:=m.globals.set o.2.toNat s } else m.top fs { f with names:=f.names.set o.2.toNat s }
def yj:Mch:=match qBc m f o with
 | some v=>m.top fs (f.push v)
 | none=>if wH p f o=4 then
   match yt m.globals o.2.toNat with
   | some v=>m.top fs (f.push v)
   | none=>if o.2=7 then m.top fs (f.push (1,70)) else m.stop fs f 4
  else m.stop fs f (wH p f o)
def qF4:Mch:=setS m fs f.pop o (some f.tos)
def qIh:Mch:=match qBc m f o with
 | some _=>setS m fs f o none
 | none=>m.stop fs f (wH p f o)
def z6 (b:Nat) (cs:List Nat) (vs:List Val):Mch :=
 let F:Frm:=⟨b,0,List.replicate (qT p b).length none,((List.range (qF p b).length).map (m.cells.length+·))++cs,qm,[]⟩
 let M:Mch:={ m with cells:=m.cells++List.replicate (qF p b).length none,made:=m.made+1,deep:=max m.deep (m.frames.length+1),frames:=m.frames++[F] }
 match (qk p b).params,vs with
 | [x],[v]=>if x∈qT p b then { M with frames:=m.frames++[{ F with fasts:=F.fasts.set (qx (qT p b) x).toNat (some v) }] }
  else { M with cells:=M.cells.set (m.cells.length+(qx (qF p b) x).toNat) (some v) }
 | _,_=>M
def qA9:Mch :=
 let n:=o.2.toNat
 let k:=f.stack.length - n - 1
 let F:Frm:={ f with stack:=f.stack.take k }
 let g:=f.stack.getD k (0,0)
 if g.1≠2 then m.stop fs F 5 else
 match m.funs[g.2.toNat]? with
 | some h=>if qIP p h.1≠n then m.stop fs F 6 else z6 p (m.top fs F) h.1 h.2 (f.stack.drop (k+1))
 | none=>m.stop fs F 5
def y9 (b:Nat):List Nat:=(zL p b).map fun k=>f.cells.getD k.toNat 0
def qBD:Mch :=
 let v:=f.tos
 if v.1≠3 then m.stop fs f.pop 5 else
 match yt (m.classes.getD v.2.toNat []) o.2.toNat with
 | some u=>m.top fs (f.pop.push u)
 | none=>m.stop fs f.pop 7
def qMV:Mch :=
 let b:=f.tos
 let a:=f.pop.tos
 if a.1≠1∨b.1≠1 then m.stop fs f.pop.pop 5 else m.top fs (f.pop.pop.push (1,(a.2+b.2).tmod 1000))
def zf (v:Val):Mch:=match fs.getLast? with
 | some g=>{ m with frames:=fs.dropLast++[g.push v] }
 | none=>{ m with frames:=[] }
def qG5:Mch:=if qt p f.blk=2 then zf { m with classes:=m.classes++[f.names] } fs (3,m.classes.length) else zf m fs (0,0)
def un:Mch:=if m.left=0 then m.stop fs f 1 else
 { m.top fs f with left:=m.left - 1,trace:=m.trace++[(f.blk,vI ((jx p f.blk).take (f.pc - 1)))] }
def zS:Mch :=
 if o.1=1 then m.top fs (f.push (1,o.2))
 else if o.1=14 then qMV m fs f
 else if o.1=15 then { m.top fs (f.push (2,m.funs.length)) with funs:=m.funs++[(o.2.toNat,y9 p f o.2.toNat)] }
 else if o.1=16 then z6 p (m.top fs f) o.2.toNat (y9 p f o.2.toNat) []
 else if o.1=17 then qA9 p m fs f o
 else if o.1=18 then qBD m fs f o
 else if o.1=19 then { m.top fs f.pop with out:=m.out++[shown f.tos] }
 else zf m fs f.tos
def vQ:Mch :=
 if o.1=0 then un p m fs f
 else if 2≤o.1∧o.1≤13 then
  (if (o.1 - 2) % 3=0 then yj p m fs f o else if (o.1 - 2) % 3=1 then qF4 m fs f o else qIh p m fs f o)
 else zS p m fs f o
end
def uQ (p:Prg) (m:Mch):Mch:=match m.frames.getLast? with
 | some f=>match (jx p f.blk)[f.pc]? with
  | some o=>vQ p m m.frames.dropLast { f with pc:=f.pc+1 } o
  | none=>qG5 p m m.frames.dropLast f
 | none=>m
def Mch.ended (m:Mch):Prop:=m.frames=[]∨m.en≠0
instance (m:Mch):Decidable m.ended:=decidable_of_iff (m.frames.length=0∨m.en≠0) (by simp [Mch.ended])
def jN (p:Prg):Nat→Mch→Mch
 | 0,m=>m
 | n+1,m=>if m.ended then m else jN p n (uQ p m)
def qi (fuel:Nat):Mch:=⟨[],qm,[],[],[],0,0,[],[],0,fuel⟩
def qb (p:Prg) (fuel:Nat):Mch:=z6 p (qi fuel) 0 [] []
section
variable {p:Prg} {b o c:Nat} {k q:Blk} {x:Int}
theorem qGS (hh:zj p):∀ c:Nat,c<p.length→zP p c b=true→zP p b o=true→zP p c o=true:=by
 intro c
 induction c using Nat.strongRecOn with
 | ind c ih =>
  intro hl h1 h2
  have g1:=jb h1
  have g2:=jb h2
  by_cases e:c=b
  ·subst e;exact h2
  ·obtain⟨q,hq⟩:∃ q,p[c]?=some q:=⟨_,gE hl⟩
   obtain⟨f1,f2,f3⟩:=hh c q hq
   have f4:=f3 (by omega)
   obtain⟨m,hm⟩:∃ m:Nat,q.parent=m:=⟨q.parent.toNat,by omega⟩
   have hs:=jD hh (b:=(b:Int)) (by omega) hq (by omega)
   have ht:=jD hh (b:=(o:Int)) (by omega) hq (by omega)
   rw [hm] at hs ht
   rw [ht]
   exact ih m (by omega) (by omega) (hs.symm.trans h1) h2
theorem qHZ (hh:zj p) (hk:p[b]?=some k) (hb0:0<b) {o:Int} (h0:0<o) (hob:o<b):∀ c:Nat,zP p c b=true→zN p x p.length c=o→outer p b x=o:=by
 intro c
 induction c using Nat.strongRecOn with
 | ind c ih =>
  intro hi h
  have hbc:=jb hi
  have hc0:0<c:=by omega
  cases hq:p[c]? with
  | none =>
   by_cases e:c=b
   ·subst e
    rw [hk] at hq
    cases hq
   ·have:p.length=0∨∃ n,p.length=n+1:=by
     cases p.length with
     | zero=>exact .inl rfl
     | succ n=>exact .inr ⟨n,rfl⟩
    rcases this with e0|⟨n,hn⟩
    ·rw [e0] at h
     simp [zN] at h
     omega
    ·rw [hn] at h
     simp only [zN,Int.toNat_natCast,hq] at h
     split at h <;> omega
  | some q =>
   rw [j5 hh hq hc0] at h
   obtain⟨g1,g2,g3⟩:=hh c q hq
   have g4:=g3 hc0
   obtain⟨m,hm⟩:∃ m:Nat,q.parent=m:=⟨q.parent.toNat,by omega⟩
   by_cases e:c=b
   ·subst e
    rw [hk] at hq
    obtain rfl:=sI hq
    rw [jw hh hk]
    split at h
    ·exact h
    ·split at h
     ·omega
     ·split at h
      ·omega
      ·exact h
   ·have hs:=jD hh (b:=(b:Int)) (by omega) hq (by omega)
    rw [hi,hm] at hs
    rw [hm] at h
    split at h
    ·exact ih m (by omega) hs.symm h
    ·split at h
     ·omega
     ·split at h
      ·omega
      ·exact ih m (by omega) hs.symm h
theorem wh (hh:zj p):∀ (n:Nat) (j:Int),zN p x n j=o→0<o→qt p o=1
 | 0,j,h,h0=>by simp only [zN] at h;omega
 | n+1,j,h,h0=>by
  simp only [zN] at h
  split at h
  ·omega
  ·split at h
   ·omega
   ·rename_i q hq
    split at h
    ·exact wh hh n _ h h0
    ·rename_i hk1
     split at h
     ·omega
     ·split at h
      ·have:j.toNat=o:=by omega
       rw [this] at hq
       simp only [qt,hq]
       simpa using hk1
      ·exact wh hh n _ h h0
theorem qO6 (hq:p[c]?=some q) (hx:x∈q.us) (ho:zE p c x=o) (h0:0<o) (hob:o<b) (hi:zP p c b=true):x∈q9 p b:=by
 have hbc:=jb hi
 have hcl:=(gS hq).1
 simp only [q9,mem_sorted,zo,jI]
 refine⟨⟨c - b,by omega,?_⟩,(mem_sorted.1 hx).2⟩
 have e:b+(c - b)=c:=by omega
 rw [e]
 simp only [vu,hq,hi,if_true,List.mem_filter,yL,ho,Bool.and_eq_true,decide_eq_true_eq]
 exact⟨hx,by omega,by omega⟩
theorem qOo (hk:qt p o=1) (hq:p[c]?=some q) (hx:x∈q.us) (ho:zE p c x=o) (hc:o<c):x∈qF p o:=by
 have hcl:=(gS hq).1
 simp only [qF,hk,if_true,mem_sorted,jG,jI]
 refine⟨⟨c - (o+1),by omega,?_⟩,(mem_sorted.1 hx).2⟩
 have e:o+1+(c - (o+1))=c:=by omega
 rw [e]
 simp only [kI,hq,List.mem_filter,vP,ho,beq_self_eq_true,and_true]
 exact hx
theorem qJy (h:x∈qF p o) (hk:p[o]?=some k):za o k x=true∧x∉k.dc 9∧k.kind=1:=by
 unfold qF at h
 split at h
 ·rename_i h1
  simp only [mem_sorted,jG,jI] at h
  obtain⟨⟨i,_,h⟩,_⟩:=h
  unfold kI at h
  cases hq:p[o+1+i]? with
  | none=>rw [hq] at h;simp at h
  | some q =>
   rw [hq] at h
   have hf:=(List.mem_filter.1 h).2
   simp only [vP,beq_iff_eq] at hf
   obtain⟨k',hk',h2,h3⟩:=we hf
   rw [hk] at hk'
   obtain rfl:=sI hk'
   exact⟨h2,h3,by simpa [qt,hk] using h1⟩
 ·simp at h
theorem qA3 (h:x∈q9 p b):0<b:=by
 simp only [q9,mem_sorted,zo,jI] at h
 obtain⟨⟨i,_,h⟩,_⟩:=h
 unfold vu at h
 cases hq:p[b+i]? with
 | none=>rw [hq] at h;simp at h
 | some q =>
  rw [hq] at h
  simp only at h
  split at h
  ·have hf:=(List.mem_filter.1 h).2
   simp only [yL,Bool.and_eq_true,decide_eq_true_eq] at hf
   omega
  ·simp at h
theorem qCu (hh:zj p) (hk:p[b]?=some k) (hx:x∈q9 p b):∃ (o c:Nat) (q:Blk),0<o∧o<b∧outer p b x=o∧zP p b o=true∧p[c]?=some q∧x∈q.us∧zE p c x=o∧zP p c b=true:=by
 have hb0:=qA3 hx
 simp only [q9,mem_sorted,zo,jI] at hx
 obtain⟨⟨i,hi,hx⟩,_⟩:=hx
 unfold vu at hx
 cases hq:p[b+i]? with
 | none=>rw [hq] at hx;simp at hx
 | some q =>
  rw [hq] at hx
  simp only at hx
  split at hx
  case isFalse=>simp at hx
  rename_i hin
  obtain⟨hus,hf⟩:=List.mem_filter.1 hx
  simp only [yL,Bool.and_eq_true,decide_eq_true_eq] at hf
  obtain⟨o,hO⟩:∃ o:Nat,zE p (b+i) x=o:=⟨(zE p (b+i) x).toNat,by omega⟩
  rw [hO] at hf
  have key:outer p b x=o:=by
   have hO':=hO
   simp only [zE,hq] at hO'
   split at hO'
   ·omega
   ·split at hO'
    ·omega
    ·by_cases e:i=0
     ·subst e
      exact hO'
     ·rw [jw hh hq] at hO'
      obtain⟨g1,g2,g3⟩:=hh (b+i) q hq
      have g4:=g3 (by omega)
      obtain⟨m,hm⟩:∃ m:Nat,q.parent=m:=⟨q.parent.toNat,by omega⟩
      have hs:=jD hh (b:=(b:Int)) (by omega) hq (by omega)
      rw [hin,hm] at hs
      rw [hm] at hO'
      exact qHZ hh hk hb0 (by omega) (by omega) m hs.symm hO'
  exact⟨o,b+i,q,by omega,by omega,key,ki hh (by omega) hk hb0 key,hq,hus,hO,hin⟩
theorem qLi (hh:zj p) (hk:p[b]?=some k) (hx:x∈q9 p b) {o:Nat} (ho:outer p b x=o):x∈qF p o:=by
 obtain⟨o',c,q,h0,hob,e,hi,hq,hu,hw,hc⟩:=qCu hh hk hx
 obtain rfl:o=o':=by omega
 have hk1:qt p o=1:=by
  rw [jw hh hk] at e
  exact wh hh _ _ e h0
 have:=jb hc
 exact qOo hk1 hq hu hw (by omega)
theorem qOq (hh:zj p) (hk:p[b]?=some k) (hx:x∈q9 p b) {o:Nat} (ho:outer p b x=o) :
  uD p b<b∧(p[uD p b]?).isSome∧0<o∧zP p (uD p b) o=true∧((o=uD p b∧x∈qF p (uD p b))∨(o<uD p b∧x∉qF p (uD p b)∧x∈q9 p (uD p b)∧outer p (uD p b) x=o)):=by
 have hcl:=qLi hh hk hx ho
 obtain⟨o',c,q,h0,hob,e,hi,hq,hu,hw,hc⟩:=qCu hh hk hx
 obtain rfl:o=o':=by omega
 have hbl:=(gS hk).1
 have hcl':=(gS hq).1
 obtain⟨g1,g2,g3⟩:=hh b k hk
 have g4:=g3 (by omega)
 obtain⟨P,hP⟩:∃ P:Nat,k.parent=P:=⟨k.parent.toNat,by omega⟩
 have hpa:uD p b=P:=by simp [uD,hk,hP]
 rw [hpa]
 obtain⟨kp,hkp⟩:∃ kp,p[P]?=some kp:=⟨_,gE (by omega)⟩
 have hs:=jD hh (b:=(o:Int)) (by omega) hk (by omega)
 rw [hi,hP] at hs
 have hge:=jb hs.symm
 refine⟨by omega,by simp [hkp],h0,hs.symm,?_⟩
 by_cases eo:o=P
 ·subst eo
  exact .inl ⟨rfl,hcl⟩
 have hbp:zP p b P=true:=by
  have:=jD hh (b:=(P:Int)) (by omega) hk (by omega)
  rw [this,hP,jR (by omega)]
  simp
 have hcp:=qGS hh c hcl' hc hbp
 refine .inr ⟨by omega,fun hm=>?_,qO6 hq hu hw h0 (by omega) hcp,?_⟩
 ·obtain⟨l1,l2,l3⟩:=qJy hm hkp
  rw [jw hh hk,hP,j5 hh hkp (by omega),if_neg (by simp [l3]),if_neg l2,if_pos l1] at e
  omega
 ·rw [jw hh hk,hP,j5 hh hkp (by omega)] at e
  rw [jw hh hkp]
  split at e
  ·exact e
  ·split at e
   ·omega
   ·split at e
    ·omega
    ·exact e
end
end Go.Hm
end
section
namespace Go.Hm
open Go Go.RowKit
def Steps (p:Prg) (m m':Mch):Prop:=∃ N,∀ k,jN p (N+k) m=jN p k m'
theorem step_ord {p:Prg} {m:Mch} {fs:List Frm} {f:Frm} {o:Int×Int} (hf:m.frames=fs++[f]) (ho:(jx p f.blk)[f.pc]?=some o):uQ p m=vQ p m fs { f with pc:=f.pc+1 } o:=by
 simp [uQ,hf,ho]
theorem step_end {p:Prg} {m:Mch} {fs:List Frm} {f:Frm} (hf:m.frames=fs++[f]) (ho:(jx p f.blk)[f.pc]?=none):uQ p m=qG5 p m fs f:=by
 simp [uQ,hf,ho]
def qVA (p:Prg) (acts:List Act) (B:List Nat) (x:Int) (o a:Nat):Nat:=B.getD (qRl acts o a a) 0+(qx (qF p o) x).toNat
def qOr (p:Prg) (acts:List Act) (B:List Nat) (b up:Nat):List Nat:=(q9 p b).map fun x=>qVA p acts B x (outer p b x).toNat up
def qIr (p:Prg) (acts:List Act) (B:List Nat) (a:Nat) (c:Act):List Nat:=(List.range (qF p c.blk).length).map (B.getD a 0+·)++qOr p acts B c.blk c.up
structure FrOk (p:Prg) (acts:List Act) (B:List Nat) (a:Nat) (c:Act) (f:Frm):Prop where
 blk:f.blk=c.blk
 cells:f.cells=qIr p acts B a c
 fasts:f.fasts=(qT p c.blk).map fun x=>yt c.vars x.toNat
 names:qt p c.blk=2→f.names=c.vars
structure RSim (p:Prg) (w:Wld) (m:Mch) (B:List Nat):Prop where
 en:m.en=w.en
 out:m.out=w.out
 tr:m.trace=w.trace
 left:m.left=w.left
 glob:m.globals=w.globals
 cls:m.classes=w.classes
 funs:m.funs=w.funs.map fun g=>(g.1,qOr p w.acts B g.1 g.2)
 made:m.made=w.acts.length
 blen:B.length=w.acts.length
 top:∀ (a:Nat) c,w.acts[a]?=some c→B.getD a 0+(qF p c.blk).length≤m.cells.length
 dis:∀ (a a':Nat) c,a<a'→a'<w.acts.length→w.acts[a]?=some c→B.getD a 0+(qF p c.blk).length≤B.getD a' 0
 val:∀ (a j:Nat) c x,w.acts[a]?=some c→(qF p c.blk)[j]?=some x→m.cells[B.getD a 0+j]?=some (yt c.vars x.toNat)
 frl:m.frames.length=w.stack.length
 frs:∀ (i a:Nat) c f,w.stack[i]?=some a→w.acts[a]?=some c→m.frames[i]?=some f→FrOk p w.acts B a c f
 stk:w.stack.Pairwise (·<·)
 fk:∀ g∈w.funs,qt p g.1=1
section
variable {p:Prg} {w:Wld} {m:Mch} {B:List Nat} {a b o:Nat} {c:Act} {k:Blk} {f:Frm} {x:Int} {fs:List Frm}
theorem qEt (h:x∈qT p b):x∉qF p b:=by
 unfold qT at h
 split at h
 ·obtain⟨n,hn,hf,rfl⟩:=u6.1 h
  unfold jz at hf
  split at hf
  ·simp only [Bool.and_eq_true,Bool.not_eq_true',decide_eq_false_iff_not] at hf
   exact hf.2
  ·cases hf
 ·simp at h
theorem qHy {l:List Slt} {i j:Nat} {s:Slt} (hi:i<l.length):yt (l.set i s) j=if j=i then s else yt l j:=by
 simp only [yt,List.getElem?_set]
 by_cases e:i=j
 ·subst e;simp [hi]
 ·rw [if_neg e,if_neg fun h=>e h.symm]
theorem wD (hp:ShapeP p) (hk:p[b]?=some k):k.kind=0∨k.kind=1∨k.kind=2:=by
 have h:=hp.head b k hk
 unfold jL at h
 split at h <;> omega
end
end Go.Hm
end
section

end
section
namespace Go.Hm
open Go Go.RowKit
section
variable {p:Prg} {w:Wld} {m:Mch} {B:List Nat} {a b o d up:Nat} {c e:Act} {k:Blk} {f:Frm} {x:Int} {fs:List Frm} {vs:List Val} {cs:List Nat}
theorem qKA {acts:List Act}:qOr p acts B 0 up=[]:=by
 have:q9 p 0=[]:=by
  rw [List.eq_nil_iff_forall_not_mem]
  intro x hx
  exact absurd (qA3 hx) (by decide)
 simp [qOr,this]
end
section
variable {p:Prg} {w:Wld} {m:Mch} {B:List Nat} {a b o d up:Nat} {c e:Act} {k:Blk} {f:Frm} {x:Int} {fs:List Frm} {vs:List Val} {cs:List Nat} {st:List Nat} {s:Stm}
def Frm.next (f:Frm):Frm:={ f with pc:=f.pc+1 }
end
end Go.Hm
end
section

end
section

end
section

end
section
namespace Go.Hm
open Go Go.RowKit
section
variable {p:Prg} {m:Mch} {n i j:Nat}
theorem qJX (h:m.ended):∀ k,jN p k m=m
 | 0=>rfl
 | k+1=>by rw [jN,if_pos h]
theorem vK:∀ (i:Nat) (m:Mch),jN p (i+1) m=if (jN p i m).ended then jN p i m else uQ p (jN p i m)
 | 0,m=>rfl
 | i+1,m=>by
  rw [jN]
  by_cases h:m.ended
  ·rw [if_pos h,qJX h,if_pos h]
  ·rw [if_neg h,vK i,jN,if_neg h]
theorem qCK (h:(jN p i m).ended) (hij:i≤j):jN p j m=jN p i m:=by
 induction hij with
 | refl=>rfl
 | step _ ih=>rw [vK,ih,if_pos h]
theorem qK0 (hp:ValP p):RSim p (qCA n) (qb p n) [0]∧∃ f,(qb p n).frames=[]++[f]∧f.blk=0∧f.pc=0∧f.stack=[]:=by
 have hl:=hp.sh.len
 obtain⟨k,hk⟩:∃ k,p[0]?=some k:=⟨_,gE (by omega)⟩
 have hk0:=(hp.sh.kind0 hk).2 rfl
 have hka:qt p 0=0:=by simp [qt,hk,hk0]
 have hc0:qF p 0=[]:=by unfold qF;rw [if_neg (by omega)]
 have hf0:qT p 0=[]:=by unfold qT;rw [if_neg (by omega)]
 have hps:(qk p 0).params=[]:=by
  have:=hp.sh.head 0 k hk
  unfold jL at this
  rw [if_pos rfl] at this
  simp only [qk,hk]
  exact List.eq_nil_of_length_eq_zero this.2.2
 have hM:qb p n=⟨[],qm,[],[],[⟨0,0,[],[],qm,[]⟩],1,1,[],[],0,n⟩:=by
  unfold qb z6
  rw [hps]
  simp [qi,hc0,hf0]
 rw [hM]
 have hone:∀ (i:Nat) c,(qCA n).acts[i]?=some c→i=0∧c=⟨0,0,qm⟩:=by
  intro i c h
  have hi:=(gS h).1
  simp only [qCA,List.length_singleton] at hi
  obtain rfl:i=0:=by omega
  simp only [qCA,List.getElem?_cons_zero,Option.some.injEq] at h
  exact⟨rfl,h.symm⟩
 refine⟨⟨rfl,rfl,rfl,rfl,rfl,rfl,rfl,rfl,rfl,fun a c hc=>?_,fun a a' c h1 h2 hc=>?_,fun a j c x hc hx=>?_,rfl,fun i a c f hi hc hf=>?_,by simp [qCA],fun g hg=>by simp [qCA] at hg⟩,_,rfl,rfl,rfl,rfl⟩
 ·obtain⟨rfl,rfl⟩:=hone a c hc
  simp [hc0]
 ·simp only [qCA,List.length_singleton] at h2
  omega
 ·obtain⟨rfl,rfl⟩:=hone a c hc
  rw [hc0] at hx
  simp at hx
 ·obtain⟨rfl,rfl⟩:=hone a c hc
  have hil:=(gS hf).1
  simp only [List.length_singleton] at hil
  obtain rfl:i=0:=by omega
  simp only [List.getElem?_cons_zero,Option.some.injEq] at hf
  subst hf
  refine⟨rfl,?_,by simp [hf0],fun h=>by simp only at h;omega⟩
  simp [qIr,hc0,qKA]
end
def jA:List (Int×Int)→Nat
 | []=>0
 | o::l=>if o.1=0 then 0 else (if o.1=15∨o.1=16∨o.1=17∨o.1=19 then 1 else 0)+jA l
def zJ:Nat→List (Int×Int)→Prop
 | h,[]=>h=0
 | h,o::l =>
  if o.1=0 then h=0∧jA l≤1∧zJ 0 l
  else if o.1=1∨o.1=2∨o.1=5∨o.1=8∨o.1=11∨o.1=15∨o.1=16 then zJ (h+1) l
  else if o.1=3∨o.1=6∨o.1=9∨o.1=12∨o.1=19∨o.1=20 then 1≤h∧zJ (h - 1) l
  else if o.1=14 then 2≤h∧zJ (h - 1) l
  else if o.1=17 then o.2.toNat+1≤h∧zJ (h - o.2.toNat) l
  else if o.1=18 then 1≤h∧zJ h l
  else zJ h l
structure OrdOk (p:Prg) (b:Nat) (o:Int×Int):Prop where
 code:0≤o.1∧o.1≤20
 arg:0≤o.2∧o.2≤1000
 fast:2≤o.1→o.1≤4→o.2<(qT p b).length
 cell:5≤o.1→o.1≤7→o.2<((qF p b).length:Int)+(q9 p b).length
 name:8≤o.1→o.1≤13→o.2≤7
 attr:o.1=18→o.2≤7
 blk:o.1=15∨o.1=16→∃ q,p[o.2.toNat]?=some q∧q.parent=b∧0<o.2∧q.kind=o.1 - 14
 call:o.1=17→o.2≤1
 ret:o.1=20→qt p b=1
section
variable {p:Prg} {b:Nat} {k:Blk} {s:Stm} {x:Int} {h:Nat} {l:List (Int×Int)}
theorem ut (hr:zJ (h+1) l):zJ h (zU p b x 0::l):=by
 have key:∀ c:Int,c=8∨c=11∨c=2∨c=5→∀ a,zJ h ((c,a)::l):=by
  intro c hc a
  rcases hc with rfl|rfl|rfl|rfl <;> simpa [zJ] using hr
 unfold zU
 split
 ·exact key _ (by simp) _
 ·split
  ·exact key _ (by simp) _
  ·split
   ·exact key _ (by simp) _
   ·exact key _ (by simp) _
theorem qOO (hr:zJ h l):zJ (h+1) (zU p b x 1::l):=by
 have key:∀ c:Int,c=9∨c=12∨c=3∨c=6→∀ a,zJ (h+1) ((c,a)::l):=by
  intro c hc a
  rcases hc with rfl|rfl|rfl|rfl <;> simpa [zJ] using hr
 unfold zU
 split
 ·exact key _ (by simp) _
 ·split
  ·exact key _ (by simp) _
  ·split
   ·exact key _ (by simp) _
   ·exact key _ (by simp) _
theorem qUV (hr:zJ h l):zJ h (zU p b x 2::l):=by
 have key:∀ c:Int,c=10∨c=13∨c=4∨c=7→∀ a,zJ h ((c,a)::l):=by
  intro c hc a
  rcases hc with rfl|rfl|rfl|rfl <;> simpa [zJ] using hr
 unfold zU
 split
 ·exact key _ (by simp) _
 ·split
  ·exact key _ (by simp) _
  ·split
   ·exact key _ (by simp) _
   ·exact key _ (by simp) _
theorem qCX {v:Int} (hv:v=0∨v=1∨v=2):jA (zU p b x v::l)=jA l:=by
 have key:∀ c:Int,2≤c∧c≤13→∀ a,jA ((c,a)::l)=jA l:=by
  intro c hc a
  simp only [jA]
  rw [if_neg (by omega),if_neg (by omega),Nat.zero_add]
 unfold zU
 split
 ·exact key _ (by rcases hv with rfl|rfl|rfl <;> decide) _
 ·split
  ·exact key _ (by rcases hv with rfl|rfl|rfl <;> decide) _
  ·split
   ·exact key _ (by rcases hv with rfl|rfl|rfl <;> decide) _
   ·exact key _ (by rcases hv with rfl|rfl|rfl <;> decide) _
structure BodyOk (l:List (Int×Int)):Prop where
 ok:zJ 0 l
 pend:jA l=0
theorem qQ6 (hk:0≤s.kind∧s.kind≤11) (hl:BodyOk l):BodyOk (wK p b s++l):=by
 obtain⟨h1,h2⟩:=hl
 have e:wK p b s++l=(0,0)::(uR p b s++(yb s++(qAe p b s++l))):=by simp [wK]
 rw [e]
 refine⟨?_,by simp [jA]⟩
 have g:jA (uR p b s++(yb s++(qAe p b s++l)))≤1∧zJ 0 (uR p b s++(yb s++(qAe p b s++l))):=by
  obtain⟨kd,to,a,c⟩:=s
  simp only at hk
  have p0:=fun x l=>qCX (p:=p) (b:=b) (x:=x) (l:=l) (v:=0) (.inl rfl)
  have p1:=fun x l=>qCX (p:=p) (b:=b) (x:=x) (l:=l) (v:=1) (.inr (.inl rfl))
  have p2:=fun x l=>qCX (p:=p) (b:=b) (x:=x) (l:=l) (v:=2) (.inr (.inr rfl))
  have s1:zJ 1 (zU p b to 1::l):=qOO h1
  have q1:∀ (a:Int) (l:List (Int×Int)),jA ((1,a)::l)=jA l:=fun a l=>by simp [jA]
  have q14:∀ (a:Int) (l:List (Int×Int)),jA ((14,a)::l)=jA l:=fun a l=>by simp [jA]
  have q18:∀ (a:Int) (l:List (Int×Int)),jA ((18,a)::l)=jA l:=fun a l=>by simp [jA]
  have q20:∀ (a:Int) (l:List (Int×Int)),jA ((20,a)::l)=jA l:=fun a l=>by simp [jA]
  have q15:∀ (a:Int) (l:List (Int×Int)),jA ((15,a)::l)=1+jA l:=fun a l=>by simp [jA]
  have q16:∀ (a:Int) (l:List (Int×Int)),jA ((16,a)::l)=1+jA l:=fun a l=>by simp [jA]
  have q17:∀ (a:Int) (l:List (Int×Int)),jA ((17,a)::l)=1+jA l:=fun a l=>by simp [jA]
  have q19:∀ (a:Int) (l:List (Int×Int)),jA ((19,a)::l)=1+jA l:=fun a l=>by simp [jA]
  have hd:kd=0∨kd=1∨kd=2∨kd=3∨kd=4∨kd=5∨kd=6∨kd=7∨kd=8∨kd=9∨kd=10∨kd=11:=by omega
  rcases hd with rfl|rfl|rfl|rfl|rfl|rfl|rfl|rfl|rfl|rfl|rfl|rfl
  ·simp [uR,Stm.reads,yb,qAe]
   exact⟨by simp [q1,q14,q15,q16,q17,q18,q19,q20,p1,h2],by simpa [zJ] using s1⟩
  ·simp [uR,Stm.reads,yb,qAe]
   exact⟨by simp [p0,p1,h2],ut s1⟩
  ·simp [uR,Stm.reads,yb,qAe]
   exact⟨by simp [q1,q14,q15,q16,q17,q18,q19,q20,p0,p1,h2],ut (ut (by simpa [zJ] using s1))⟩
  ·simp [uR,Stm.reads,yb,qAe]
   exact⟨by simp [q1,q14,q15,q16,q17,q18,q19,q20,p1,h2],by simpa [zJ] using s1⟩
  ·simp [uR,Stm.reads,yb,qAe]
   exact⟨by simp [q1,q14,q15,q16,q17,q18,q19,q20,p1,h2],by simpa [zJ] using s1⟩
  ·by_cases hc:c=-1
   ·simp [uR,Stm.reads,yb,qAe,hc]
    exact⟨by simp [q1,q14,q15,q16,q17,q18,q19,q20,p0,p1,h2],ut (by simpa [zJ] using s1)⟩
   ·simp [uR,Stm.reads,yb,qAe,hc]
    exact⟨by simp [q1,q14,q15,q16,q17,q18,q19,q20,p0,p1,h2],ut (ut (by simpa [zJ] using s1))⟩
  ·simp [uR,Stm.reads,yb,qAe]
   exact⟨by simp [q1,q14,q15,q16,q17,q18,q19,q20,p0,p1,h2],ut (by simpa [zJ] using s1)⟩
  ·simp [uR,Stm.reads,yb,qAe]
   exact⟨by simp [q1,q14,q15,q16,q17,q18,q19,q20,p0,h2],ut (by simpa [zJ] using h1)⟩
  ·simp [uR,Stm.reads,yb,qAe]
   exact⟨by simp [q1,q14,q15,q16,q17,q18,q19,q20,p0,h2],ut (by simpa [zJ] using h1)⟩
  ·simp [uR,Stm.reads,yb,qAe]
   exact⟨by omega,h1⟩
  ·simp [uR,Stm.reads,yb,qAe]
   exact⟨by omega,h1⟩
  ·simp [uR,Stm.reads,yb,qAe]
   exact⟨by simp [p2,h2],qUV h1⟩
 simp only [zJ,if_true]
 exact⟨trivial,g⟩
theorem qMO:∀ ss:List Stm,(∀ s∈ss,0≤s.kind∧s.kind≤11)→BodyOk (uE p b ss)
 | [],_=>⟨rfl,rfl⟩
 | s::ss,h=>by
  have e:uE p b (s::ss)=wK p b s++uE p b ss:=by simp [uE]
  rw [e]
  exact qQ6 (h s (by simp)) (qMO ss fun t ht=>h t (by simp [ht]))
theorem qUU (hp:ShapeP p) (hk:p[b]?=some k):BodyOk (jx p b):=by
 rw [jx,hk]
 exact qMO _ (hp.names k (gM hk)).kinds
theorem qC6 (hp:ShapeP p) (hk:p[b]?=some k) (hu:x∈k.us) {v:Int} (h0:0≤v) (h2:v≤2):OrdOk p b (zU p b x v):=by
 have hx:0≤x∧x≤7:=by
  rw [Blk.us,mem_sorted] at hu
  exact hu.2
 have f1:=yy (p:=p) (b:=b)
 have f2:=jB (p:=p) (b:=b)
 have f3:=jS (p:=p) (b:=b)
 rcases qJb (w:=v) hp hk hu with⟨_,e⟩|⟨_,e⟩|⟨_,i,e,hi,_⟩|⟨_,i,e,hi,_⟩|⟨_,i,e,hi,_⟩ <;> rw [e] <;> refine⟨?_,?_,?_,?_,?_,?_,?_,?_,?_⟩ <;> simp only [] <;> omega
theorem qIS (hp:ShapeP p) (hk:p[b]?=some k):∀ o∈jx p b,OrdOk p b o:=by
 have hn:=hp.names k (gM hk)
 intro o ho
 simp only [jx,hk,uE,List.mem_flatMap] at ho
 obtain⟨s,hs,ho⟩:=ho
 have hst:=hp.stm b k hk s hs
 have hkd:=hn.kinds s hs
 have hka:qt p b=k.kind:=by simp [qt,hk]
 simp only [wK,List.mem_cons,List.mem_append] at ho
 rcases ho with rfl|ho|ho|ho
 ·refine⟨?_,?_,?_,?_,?_,?_,?_,?_,?_⟩ <;> simp only [] <;> omega
 ·simp only [uR,List.mem_map] at ho
  obtain⟨x,hx,rfl⟩:=ho
  exact qC6 hp hk (qNx hn hs hx) (by decide) (by decide)
 ·unfold yb at ho
  by_cases k0:s.kind=0
  ·rw [if_pos k0] at ho
   obtain rfl:=List.mem_singleton.1 ho
   have:=zt.num hst k0
   refine⟨?_,?_,?_,?_,?_,?_,?_,?_,?_⟩ <;> simp only [] <;> omega
  rw [if_neg k0] at ho
  by_cases k2:s.kind=2
  ·rw [if_pos k2] at ho
   obtain rfl:=List.mem_singleton.1 ho
   refine⟨?_,?_,?_,?_,?_,?_,?_,?_,?_⟩ <;> simp only [] <;> omega
  rw [if_neg k2] at ho
  by_cases k3:s.kind=3
  ·rw [if_pos k3] at ho
   obtain rfl:=List.mem_singleton.1 ho
   obtain⟨q,q1,q2,q3,q4⟩:=zt.made hst (.inl k3)
   have hql:=(gS q1).1
   have:=hp.len
   refine⟨?_,?_,?_,?_,?_,?_,fun _=>⟨q,q1,q2,q3,?_⟩,?_,?_⟩ <;> simp only [] <;> omega
  rw [if_neg k3] at ho
  by_cases k4:s.kind=4
  ·rw [if_pos k4] at ho
   obtain rfl:=List.mem_singleton.1 ho
   obtain⟨q,q1,q2,q3,q4⟩:=zt.made hst (.inr k4)
   have hql:=(gS q1).1
   have:=hp.len
   refine⟨?_,?_,?_,?_,?_,?_,fun _=>⟨q,q1,q2,q3,?_⟩,?_,?_⟩ <;> simp only [] <;> omega
  rw [if_neg k4] at ho
  by_cases k5:s.kind=5
  ·rw [if_pos k5] at ho
   obtain rfl:=List.mem_singleton.1 ho
   have:s.reads.length=1∨s.reads.length=2:=by
    simp only [Stm.reads,k5]
    by_cases e:s.b=-1 <;> simp [e]
   refine⟨?_,?_,?_,?_,?_,?_,?_,?_,?_⟩ <;> simp only [] <;> omega
  rw [if_neg k5] at ho
  by_cases k6:s.kind=6
  ·rw [if_pos k6] at ho
   obtain rfl:=List.mem_singleton.1 ho
   have:0≤s.b∧s.b≤7:=by
    simp only [zt,k6] at hst
    simp at hst
    omega
   refine⟨?_,?_,?_,?_,?_,?_,?_,?_,?_⟩ <;> simp only [] <;> omega
  rw [if_neg k6] at ho
  by_cases k7:s.kind=7
  ·rw [if_pos k7] at ho
   obtain rfl:=List.mem_singleton.1 ho
   refine⟨?_,?_,?_,?_,?_,?_,?_,?_,?_⟩ <;> simp only [] <;> omega
  rw [if_neg k7] at ho
  by_cases k8:s.kind=8
  ·rw [if_pos k8] at ho
   obtain rfl:=List.mem_singleton.1 ho
   have:k.kind=1:=by
    simp only [zt,k8] at hst
    simp at hst
    exact hst.2.2
   refine⟨?_,?_,?_,?_,?_,?_,?_,?_,?_⟩ <;> simp only [] <;> omega
  rw [if_neg k8] at ho
  cases ho
 ·unfold qAe at ho
  split at ho
  ·rename_i e
   obtain rfl:=List.mem_singleton.1 ho
   exact qC6 hp hk (qTX hn hs (.inr e)) (by decide) (by decide)
  ·split at ho
   ·rename_i e
    obtain rfl:=List.mem_singleton.1 ho
    exact qC6 hp hk (qTX hn hs (.inl e)) (by decide) (by decide)
   ·cases ho
end
end Go.Hm
end
section
namespace Go.Hm
open Go Go.RowKit
structure FOk (p:Prg) (nf nk nc:Nat) (f:Frm) (e:Nat):Prop where
 blk:f.blk<p.length
 fl:f.fasts.length=(qT p f.blk).length
 fv:∀ v,some v∈f.fasts→VOk nf nk v
 cl:f.cells.length=(qF p f.blk).length+(q9 p f.blk).length
 cr:∀ c∈f.cells,c<nc
 nm:SOk nf nk f.names
 sv:∀ v∈f.stack,VOk nf nk v
 sl:f.stack.length+e≤f.pc
 pc:f.pc≤(jx p f.blk).length
 ok:zJ (f.stack.length+e) ((jx p f.blk).drop f.pc)
def jk (p:Prg) (f:Frm):Nat:=jA ((jx p f.blk).drop f.pc)
def qE4 (p:Prg) (fs:List Frm):Nat:=(fs.map (jk p)).sum
structure MOk (p:Prg) (m:Mch) (fs:List Frm) (f:Frm):Prop where
 cells:∀ v,some v∈m.cells→VOk m.funs.length m.classes.length v
 glob:SOk m.funs.length m.classes.length m.globals
 cls:∀ c∈m.classes,SOk m.funs.length m.classes.length c
 funs:∀ g∈m.funs,∃ k,p[g.1]?=some k∧k.kind=1∧g.2.length=(q9 p g.1).length∧∀ c∈g.2,c<m.cells.length
 low:∀ g∈fs,FOk p m.funs.length m.classes.length m.cells.length g 1
 top:FOk p m.funs.length m.classes.length m.cells.length f 0
 made:m.made+m.left+(qE4 p fs+jk p f)≤151
 nf:m.funs.length+m.left+(qE4 p fs+jk p f)≤150
 nk:m.classes.length+(fs.length+1)≤m.made
 nc:m.cells.length≤8 * m.made
 out:m.out.length+m.left+(qE4 p fs+jk p f)≤150
 tr:m.trace.length+m.left≤150
 deep:fs.length+1≤m.deep∧m.deep≤m.made
 b0:∀ g,(fs++[f])[0]?=some g→g.blk=0
section
variable {p:Prg} {m:Mch} {nf nk nc nf' nk' nc' b e:Nat} {fs:List Frm} {f g:Frm} {o:Int×Int} {v:Val} {k:Blk} {x:Int}
theorem FOk.mono (h:FOk p nf nk nc f e) (h1:nf≤nf') (h2:nk≤nk') (h3:nc≤nc'):FOk p nf' nk' nc' f e :=
 ⟨h.blk,h.fl,fun v hv=>(h.fv v hv).mono h1 h2,h.cl,fun c hc=>Nat.lt_of_lt_of_le (h.cr c hc) h3,h.nm.mono h1 h2,fun v hv=>(h.sv v hv).mono h1 h2,h.sl,h.pc,h.ok⟩
theorem kC (ho:(jx p f.blk)[f.pc]?=some o):(jx p f.blk).drop f.pc=o::(jx p f.blk).drop (f.pc+1):=by
 obtain⟨hl,hE⟩:=gS ho
 rw [← hE]
 exact List.drop_eq_getElem_cons hl
theorem kx {l:List Slt} {i:Nat} (h:yt l i=some v):some v∈l:=by
 unfold yt at h
 split at h
 ·rename_i s hs
  subst h
  exact gM hs
 ·cases h
theorem uP (h:1≤f.stack.length):f.tos∈f.stack:=by
 unfold Frm.tos
 cases hs:f.stack.getLast? with
 | none =>
  rw [List.getLast?_eq_none_iff] at hs
  rw [hs] at h
  simp at h
 | some v =>
  rw [List.getLastD_eq_getLast?,hs]
  exact List.mem_of_getLast? hs
theorem uT:f.pop.stack.length=f.stack.length - 1:=by simp [Frm.pop]
theorem kV {v:Val} (h:v∈f.pop.stack):v∈f.stack:=List.dropLast_subset _ h
theorem MOk.re {pc:Nat} {st:List Val} (h:MOk p m fs f) (ho:(jx p f.blk)[f.pc]?=some o) (hpc:pc=f.pc+1) (hv:∀ v∈st,VOk m.funs.length m.classes.length v) (hl:st.length≤pc) (hok:zJ st.length ((jx p f.blk).drop (f.pc+1))) (h0:o.1≠0):MOk p m fs { f with pc:=pc,stack:=st }:=by
 subst hpc
 have hd:=kC ho
 have hpl:=(gS ho).1
 have hp1:jk p { f with pc:=f.pc+1,stack:=st }≤jk p f:=by
  simp only [jk,hd,jA,if_neg h0]
  omega
 have h1:=h.made
 have h2:=h.nf
 have h3:=h.out
 refine⟨h.cells,h.glob,h.cls,h.funs,h.low,⟨h.top.blk,h.top.fl,h.top.fv,h.top.cl,h.top.cr,h.top.nm,hv,hl,hpl,hok⟩,by omega,by omega,h.nk,h.nc,by omega,h.tr,h.deep,fun g hg=>?_⟩
 cases fs with
 | nil=>simp at hg;subst hg;exact h.b0 f (by simp)
 | cons a l=>exact h.b0 g (by simpa using hg)
theorem MOk.frames {X:List Frm} (h:MOk p m fs f):MOk p { m with frames:=X } fs f :=
 ⟨h.cells,h.glob,h.cls,h.funs,h.low,h.top,h.made,h.nf,h.nk,h.nc,h.out,h.tr,h.deep,h.b0⟩
def qP3 (p:Prg) (m:Mch):Prop:=∃ fs f,m.frames=fs++[f]∧MOk p m fs f
theorem qP3.of (h:MOk p m fs f):qP3 p (m.top fs f):=⟨fs,f,rfl,h.frames⟩
theorem qRc (h:MOk p m fs f) (hg:qBc m f o=some v):VOk m.funs.length m.classes.length v:=by
 unfold qBc at hg
 split at hg
 ·exact h.top.fv v (kx hg)
 ·split at hg
  ·exact h.cells v (kx hg)
  ·split at hg
   ·exact h.glob.2 v (kx hg)
   ·exact h.top.nm.2 v (kx hg)
theorem qKw (h:MOk p m fs f) (ho:(jx p f.blk)[f.pc]?=some o) (h0:o.1≠0) (hok:zJ (f.stack.length+1) ((jx p f.blk).drop (f.pc+1))) (hv:VOk m.funs.length m.classes.length v):MOk p m fs (f.next.push v):=by
 have hsl:=h.top.sl
 refine h.re ho rfl (fun u hu=>?_) ?_ ?_ h0
 ·rcases List.mem_append.1 hu with e|e
  ·exact h.top.sv u e
  ·simp only [List.mem_singleton] at e;subst e;exact hv
 ·simp [Frm.next];omega
 ·simpa [Frm.next] using hok
theorem qED {l:List Slt} {i:Nat} {s:Slt} {u:Val} (h:some u∈l.set i s):some u∈l∨s=some u:=by
 rcases List.mem_or_eq_of_mem_set h with e|e
 ·exact .inl e
 ·exact .inr e.symm
theorem qK9 {s:Slt} (h:MOk p m fs f) (hs:∀ v,s=some v→VOk m.funs.length m.classes.length v):qP3 p (setS m fs f o s):=by
 unfold setS
 split
 ·refine .of ⟨h.cells,h.glob,h.cls,h.funs,h.low,⟨h.top.blk,by simp [h.top.fl],fun v hv=>?_,h.top.cl,h.top.cr,h.top.nm,h.top.sv,h.top.sl,h.top.pc,h.top.ok⟩,h.made,h.nf,h.nk,h.nc,h.out,h.tr,h.deep,fun g hg=>?_⟩
  ·rcases qED hv with e|e
   ·exact h.top.fv v e
   ·exact hs v e
  ·cases fs with
   | nil=>simp at hg;subst hg;exact h.b0 f (by simp)
   | cons a l=>exact h.b0 g (by simpa using hg)
 ·split
  ·refine⟨fs,f,rfl,⟨fun v hv=>?_,h.glob,h.cls,fun g hg=>?_,fun g hg=>(h.low g hg).mono (Nat.le_refl _) (Nat.le_refl _) (by simp),h.top.mono (Nat.le_refl _) (Nat.le_refl _) (by simp),h.made,h.nf,h.nk,?_,h.out,h.tr,h.deep,h.b0⟩⟩
   ·rcases qED hv with e|e
    ·exact h.cells v e
    ·exact hs v e
   ·obtain⟨q,q1,q2,q3,q4⟩:=h.funs g hg
    exact⟨q,q1,q2,q3,fun c hc=>by have:=q4 c hc;simpa using this⟩
   ·have:=h.nc
    simpa [Mch.top] using this
  ·split
   ·exact⟨fs,f,rfl,⟨h.cells,h.glob.set hs,h.cls,h.funs,h.low,h.top,h.made,h.nf,h.nk,h.nc,h.out,h.tr,h.deep,h.b0⟩⟩
   ·refine .of ⟨h.cells,h.glob,h.cls,h.funs,h.low,⟨h.top.blk,h.top.fl,h.top.fv,h.top.cl,h.top.cr,h.top.nm.set hs,h.top.sv,h.top.sl,h.top.pc,h.top.ok⟩,h.made,h.nf,h.nk,h.nc,h.out,h.tr,h.deep,fun g hg=>?_⟩
    cases fs with
    | nil=>simp at hg;subst hg;exact h.b0 f (by simp)
    | cons a l=>exact h.b0 g (by simpa using hg)
theorem qME (hh:zj p) (hk:p[b]?=some k):∀ y∈zL p b,0≤y∧y<((qF p (uD p b)).length:Int)+(q9 p (uD p b)).length:=by
 intro y hy
 simp only [zL,List.mem_map] at hy
 obtain⟨x,hx,rfl⟩:=hy
 obtain⟨o,_,_,_,_,ho,_⟩:=qCu hh hk hx
 obtain⟨_,_,_,_,hcase⟩:=qOq hh hk hx ho
 rcases hcase with⟨_,e2⟩|⟨_,e2,e3,_⟩
 ·obtain⟨j,hj1,hj2,_⟩:=jv e2
  rw [vZ,if_pos e2,hj1]
  omega
 ·obtain⟨j,hj1,hj2,_⟩:=jv e3
  rw [vZ,if_neg e2,hj1]
  omega
theorem qFB (hh:zj p) (h:FOk p nf nk nc f e) (hk:p[b]?=some k) (hpar:k.parent=f.blk):(y9 p f b).length=(q9 p b).length∧∀ c∈y9 p f b,c<nc:=by
 have hpa:uD p b=f.blk:=by simp [uD,hk,hpar]
 refine⟨by simp [y9,zL],fun c hc=>?_⟩
 simp only [y9,List.mem_map] at hc
 obtain⟨y,hy,rfl⟩:=hc
 have hr:=qME hh hk y hy
 rw [hpa] at hr
 have hcl:=h.cl
 obtain⟨c,hc⟩:∃ c,f.cells[y.toNat]?=some c:=⟨_,gE (by omega)⟩
 rw [List.getD_eq_getElem?_getD,hc]
 exact h.cr c (gM hc)
theorem qGE (hp:ShapeP p) (hb:b<p.length):zJ 0 (jx p b)∧jA (jx p b)=0:=by
 obtain⟨k,hk⟩:∃ k,p[b]?=some k:=⟨_,gE hb⟩
 have:=qUU hp hk
 exact⟨this.ok,this.pend⟩
theorem qAm {u:Val} {n:Nat}:some u∉List.replicate n (none:Slt):=by
 intro h
 have:=List.eq_of_mem_replicate h
 cases this
theorem qCY (hp:ValP p) (hk:p[b]?=some k) (hx:x∈k.params):x∈qT p b∨x∈qF p b:=by
 have hkm:=gM hk
 have hxr:=(hp.sh.names k hkm).params x hx
 have how:=hp.pm b k hk x hx
 have hhd:=hp.sh.head b k hk
 have hk1:k.kind=1∧0<b:=by
  unfold jL at hhd
  have hne:k.params.length≠0:=fun e=>by rw [List.eq_nil_of_length_eq_zero e] at hx;cases hx
  split at hhd
  ·omega
  ·omega
 have hka:qt p b=1:=by simp [qt,hk,hk1.1]
 by_cases hc:x∈qF p b
 ·exact .inr hc
 ·refine .inl (qHv hp.sh hk hxr ?_)
  unfold zq
  rw [if_neg (by omega),if_neg (fun h=>h how),if_neg (by omega),if_neg hc]
theorem qOx {cs:List Nat} {vs:List Val} {pd:Nat} (hp:ValP p) (hb:b<p.length) (h0:0<b)
  (hcells:∀ v,some v∈m.cells→VOk m.funs.length m.classes.length v) (hglob:SOk m.funs.length m.classes.length m.globals) (hcls:∀ c∈m.classes,SOk m.funs.length m.classes.length c)
  (hfuns:∀ g∈m.funs,∃ k,p[g.1]?=some k∧k.kind=1∧g.2.length=(q9 p g.1).length∧∀ c∈g.2,c<m.cells.length)
  (hlow:∀ g∈m.frames,FOk p m.funs.length m.classes.length m.cells.length g 1) (hne:m.frames≠[]) (hpd:qE4 p m.frames=pd)
  (hmade:m.made+1+m.left+pd≤151) (hnf:m.funs.length+m.left+pd≤150) (hnk:m.classes.length+m.frames.length≤m.made) (hnc:m.cells.length≤8 * m.made) (hout:m.out.length+m.left+pd≤150) (htr:m.trace.length+m.left≤150) (hdeep:m.frames.length≤m.deep∧m.deep≤m.made) (hb0:∀ g,m.frames[0]?=some g→g.blk=0)
  (hcsl:cs.length=(q9 p b).length) (hcs:∀ c∈cs,c<m.cells.length) (hvs:∀ v∈vs,VOk m.funs.length m.classes.length v):qP3 p (z6 p m b cs vs):=by
 obtain⟨k,hk⟩:∃ k,p[b]?=some k:=⟨_,gE hb⟩
 have hpar:(qk p b).params=k.params:=by simp [qk,hk]
 obtain⟨o1,o2⟩:=qGE hp.sh hb
 have c8:=jB (p:=p) (b:=b)
 have base:∀ (F:Frm) (C:List Slt),F.blk=b→F.pc=0→F.stack=[]→F.names=qm→F.cells=((List.range (qF p b).length).map (m.cells.length+·))++cs→F.fasts.length=(qT p b).length→(∀ v,some v∈F.fasts→VOk m.funs.length m.classes.length v)→C.length=m.cells.length+(qF p b).length→(∀ v,some v∈C→VOk m.funs.length m.classes.length v) →
   qP3 p { m with cells:=C,made:=m.made+1,deep:=max m.deep (m.frames.length+1),frames:=m.frames++[F] }:=by
  intro F C f1 f2 f3 f4 f5 f6 f7 c1 c2
  have hpF:jk p F=0:=by simp only [jk,f1,f2,List.drop_zero,o2]
  refine⟨m.frames,F,rfl,⟨c2,hglob,hcls,fun g hg=>?_,fun g hg=>(hlow g hg).mono (Nat.le_refl _) (Nat.le_refl _) (by simp only [c1];omega),⟨by rw [f1];exact hb,by rw [f1];exact f6,f7,?_,fun c hc=>?_,by rw [f4];exact SOk.none,by rw [f3];simp,by rw [f3];simp,by rw [f2];omega,?_⟩,?_,?_,?_,?_,?_,htr,?_,fun g hg=>?_⟩⟩
  ·obtain⟨q,q1,q2,q3,q4⟩:=hfuns g hg
   exact⟨q,q1,q2,q3,fun c hc=>by have:=q4 c hc;simp only [c1];omega⟩
  ·rw [f5,f1];simp [hcsl]
  ·rw [f5] at hc
   rcases List.mem_append.1 hc with e|e
   ·simp only [List.mem_map,List.mem_range] at e
    obtain⟨j,hj,rfl⟩:=e
    simp only [c1];omega
   ·have:=hcs c e
    simp only [c1];omega
  ·rw [f1,f2,f3];simpa using o1
  ·simp only [hpF,hpd];omega
  ·simp only [hpF,hpd];omega
  ·simp only;omega
  ·simp only [c1];omega
  ·simp only [hpF,hpd];omega
  ·simp only;omega
  ·cases hm:m.frames with
   | nil=>exact absurd hm hne
   | cons a l =>
    rw [hm] at hg
    exact hb0 g (by rw [hm];simpa using hg)
 unfold z6
 split
 ·rename_i x v hps
  rw [hpar] at hps
  have hx:x∈k.params:=by rw [hps];simp
  have hv:VOk m.funs.length m.classes.length v:=hvs v (by simp)
  by_cases hf:x∈qT p b
  ·rw [if_pos hf]
   refine base _ _ rfl rfl rfl rfl rfl (by simp) (fun u hu=>?_) (by simp) (fun u hu=>?_)
   ·rcases qED hu with e|e
    ·exact absurd e qAm
    ·obtain rfl:=sI e;exact hv
   ·rcases List.mem_append.1 hu with e|e
    ·exact hcells u e
    ·exact absurd e qAm
  ·rw [if_neg hf]
   refine base _ _ rfl rfl rfl rfl rfl (by simp) (fun u hu=>absurd hu qAm) (by simp) (fun u hu=>?_)
   rcases qED hu with e|e
   ·rcases List.mem_append.1 e with e|e
    ·exact hcells u e
    ·exact absurd e qAm
   ·obtain rfl:=sI e;exact hv
 ·refine base _ _ rfl rfl rfl rfl rfl (by simp) (fun u hu=>absurd hu qAm) (by simp) (fun u hu=>?_)
  rcases List.mem_append.1 hu with e|e
  ·exact hcells u e
  ·exact absurd e qAm
end
end Go.Hm
end
