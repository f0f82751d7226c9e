/-
  Own texts, joined by mkclaim.py: Hm61, Hm62, Hm63, Hm64, Hm65.
-/
import Derived.Test.YtbgmnmnoaamgkaaGreatDoorC10
import Derived.Test.YtbgmnmnoaamgkaaGreatDoorC09
import Derived.OpenShut
import Derived.FnData
set_option linter.unusedSimpArgs false
set_option linter.unusedVariables false
set_option maxRecDepth 100000
set_option maxHeartbeats 4000000

section
namespace Go.Hm
open Go Go.RowKit
def qz (f:Nat→Bool):Nat→List Int
 | 0=>[]
 | n+1=>if f n=true then qz f n++[(n:Int)] else qz f n
theorem u6 {f:Nat→Bool} {x:Int}:∀ {n:Nat},x∈qz f n↔∃ m:Nat,m<n∧f m=true∧x=m
 | 0=>by simp [qz]
 | n+1=>by
  simp only [qz]
  split
  ·rename_i h
   rw [List.mem_append,u6 (n:=n),List.mem_singleton]
   constructor
   ·rintro (⟨m,h1,h2,h3⟩|h')
    ·exact⟨m,by omega,h2,h3⟩
    ·exact⟨n,by omega,h,h'⟩
   ·rintro⟨m,h1,h2,h3⟩
    rcases Nat.lt_succ_iff_lt_or_eq.1 h1 with e|rfl
    ·exact .inl ⟨m,e,h2,h3⟩
    ·exact .inr h3
  ·rename_i h
   rw [u6 (n:=n)]
   constructor
   ·rintro⟨m,h1,h2,h3⟩;exact⟨m,by omega,h2,h3⟩
   ·rintro⟨m,h1,h2,h3⟩
    rcases Nat.lt_succ_iff_lt_or_eq.1 h1 with e|rfl
    ·exact⟨m,e,h2,h3⟩
    ·exact absurd h2 h
theorem jg {f:Nat→Bool} {x n:Nat}:(x:Int)∈qz f n↔x<n∧f x=true:=by
 rw [u6]
 constructor
 ·rintro⟨m,h1,h2,h3⟩
  obtain rfl:x=m:=by omega
  exact⟨h1,h2⟩
 ·rintro⟨h1,h2⟩;exact⟨x,h1,h2,rfl⟩
theorem qAt {f:Nat→Bool}:∀ n:Nat,(qz f n).length≤n
 | 0=>by simp [qz]
 | n+1=>by
  have:=qAt (f:=f) n
  simp only [qz]
  split <;> simp <;> omega
theorem kW {f g:Nat→Bool}:∀ {n:Nat},(∀ x,x<n→f x=g x)→qz f n=qz g n
 | 0,_=>rfl
 | n+1,h=>by
  simp only [qz]
  rw [h n (by omega),kW (n:=n) fun x hx=>h x (by omega)]
theorem yd {l:List Int}:∀ n:Nat,zC l n=qz (fun x=>decide ((x:Int)∈l)) n
 | 0=>rfl
 | n+1=>by
  simp only [zC,qz,yd n,decide_eq_true_eq]
theorem qEC {f:Nat→Bool}:sorted (qz f 8)=qz f 8:=by
 rw [sorted,yd]
 exact kW fun x hx=>by
  rw [Bool.eq_iff_iff,decide_eq_true_eq,jg]
  simp [hx]
theorem w9 {l l':List Int} (h:∀ x:Nat,x<8→((x:Int)∈l↔(x:Int)∈l')):sorted l=sorted l':=by
 rw [sorted,sorted,yd,yd]
 exact kW fun x hx=>by
  rw [Bool.eq_iff_iff,decide_eq_true_eq,decide_eq_true_eq,h x hx]
def vo (g:Nat→List Int):Nat→List Int
 | 0=>[]
 | n+1=>vo g n++g n
theorem jI {g:Nat→List Int} {x:Int}:∀ {n:Nat},x∈vo g n↔∃ m:Nat,m<n∧x∈g m
 | 0=>by simp [vo]
 | n+1=>by
  simp only [vo,List.mem_append,jI (n:=n)]
  constructor
  ·rintro (⟨m,h1,h2⟩|h)
   ·exact⟨m,by omega,h2⟩
   ·exact⟨n,by omega,h⟩
  ·rintro⟨m,h1,h2⟩
   rcases Nat.lt_succ_iff_lt_or_eq.1 h1 with e|rfl
   ·exact .inl ⟨m,e,h2⟩
   ·exact .inr h2
theorem qBA {g:Nat→List Int} (h:∀ i,(g i).length≤8):∀ n:Nat,(vo g n).length≤8 * n
 | 0=>by simp [vo]
 | n+1=>by
  have:=qBA h n
  have:=h n
  simp only [vo,List.length_append]
  omega
theorem qAu {p:Prg} {x:Int}:∀ (n:Nat) (j:Int),zN p x n j=-1∨0<zN p x n j
 | 0,_=>.inl rfl
 | n+1,j=>by
  simp only [zN]
  split
  ·exact .inl rfl
  ·rename_i hj
   split
   ·exact .inl rfl
   ·split
    ·exact qAu n _
    ·split
     ·exact .inl rfl
     ·split
      ·exact .inr (by omega)
      ·exact qAu n _
theorem vL {p:Prg} {c:Nat} {x:Int}:zE p c x=-1∨0<zE p c x:=by
 unfold zE
 split
 ·split
  ·exact .inl rfl
  ·rename_i h
   split
   ·exact .inr (by omega)
   ·unfold outer
    split
    ·exact qAu _ _
    ·exact .inl rfl
 ·exact .inl rfl
def yL (p:Prg) (b c:Nat) (x:Int):Bool:=decide (0<zE p c x)&&decide (zE p c x<b)
def vu (p:Prg) (b c:Nat):List Int:=match p[c]? with
 | some k=>if zP p c b=true then k.us.filter (yL p b c) else []
 | none=>[]
def zo (p:Prg) (b:Nat):Nat→List Int:=vo fun i=>vu p b (b+i)
def q9 (p:Prg) (b:Nat):List Int:=sorted (zo p b (p.length - b))
def vP (p:Prg) (b c:Nat) (x:Int):Bool:=zE p c x==b
def kI (p:Prg) (b c:Nat):List Int:=match p[c]? with
 | some k=>k.us.filter (vP p b c)
 | none=>[]
def jG (p:Prg) (b:Nat):Nat→List Int:=vo fun i=>kI p b (b+1+i)
def qt (p:Prg) (b:Nat):Int:=match p[b]? with|some k=>k.kind|none=>-1
def qF (p:Prg) (b:Nat):List Int:=if qt p b=1 then sorted (jG p b (p.length - (b+1))) else []
def jz (p:Prg) (b:Nat) (x:Nat):Bool:=match p[b]? with
 | some k=>za b k x&&!decide ((x:Int)∈qF p b)
 | none=>false
def qT (p:Prg) (b:Nat):List Int:=if qt p b=1 then qz (jz p b) 8 else []
def zq (p:Prg) (b:Nat) (x:Int):Int :=
 if zE p b x<0 then 0 else if zE p b x≠b then 1 else if qt p b=2 then 2 else if x∈qF p b then 3 else 4
def vZ (p:Prg) (b:Nat) (x:Int):Int:=if x∈qF p b then qx (qF p b) x else (qF p b).length+qx (q9 p b) x
def zU (p:Prg) (b:Nat) (x w:Int):Int×Int :=
 if zq p b x=0 then (8+w,x) else if zq p b x=2 then (11+w,x) else if zq p b x=4 then (2+w,qx (qT p b) x) else (5+w,vZ p b x)
theorem kB {l:List Int} {f:Int→Bool} (h:l.length≤8):(l.filter f).length≤8:=Nat.le_trans (List.length_filter_le _ _) h
theorem qJn {p:Prg} {b c:Nat}:(vu p b c).length≤8:=by
 unfold vu
 split
 ·split
  ·exact kB (Blk.us_len _)
  ·simp
 ·simp
theorem qJz {p:Prg} {b c:Nat}:(kI p b c).length≤8:=by
 unfold kI
 split
 ·exact kB (Blk.us_len _)
 ·simp
theorem qBZ {p:Prg} {b n:Nat}:(zo p b n).length≤8 * n:=qBA (fun _=>qJn) n
theorem qG8 {p:Prg} {b n:Nat}:(jG p b n).length≤8 * n:=qBA (fun _=>qJz) n
theorem jS {p:Prg} {b:Nat}:(q9 p b).length≤8:=vd
theorem jB {p:Prg} {b:Nat}:(qF p b).length≤8:=by
 unfold qF
 split
 ·exact vd
 ·simp
theorem yy {p:Prg} {b:Nat}:(qT p b).length≤8:=by
 unfold qT
 split
 ·exact qAt 8
 ·simp
theorem qEp {p:Prg} {b n:Nat}:zo p b (n+1)=zo p b n++vu p b (b+n):=rfl
theorem qEy {p:Prg} {b n:Nat}:jG p b (n+1)=jG p b n++kI p b (b+1+n):=rfl
theorem wC {xs:List Int} {x:Int}:-1≤qx xs x∧qx xs x≤xs.length:=by
 unfold qx
 split
 ·rename_i i h
  have:=(List.findIdx?_eq_some_iff_findIdx_eq.1 h).1
  constructor <;> omega
 ·constructor <;> omega
theorem qJA {p:Prg} {b:Nat} {k:Blk} {x:Int} (hk:p[b]?=some k) (hk0:b=0↔k.kind=0) (hk2:k.kind=0∨k.kind=1∨k.kind=2) (h:zq p b x=3∨zq p b x=4):k.kind=1:=by
 have hka:qt p b=k.kind:=by simp [qt,hk]
 unfold zq at h
 rw [hka] at h
 split at h
 ·omega
 ·rename_i ho
  split at h
  ·omega
  ·rename_i hb
   split at h
   ·omega
   ·rename_i h2
    rcases vL (p:=p) (c:=b) (x:=x) with e|e
    ·omega
    ·have:b≠0:=by omega
     omega
def qBd (p:Prg) (b c:Nat) (x:Nat):Bool:=match p[c]? with
 | some k=>zP p c b&&decide ((x:Int)∈k.us)&&(zE p c x != -1)&&!zP p (zE p c x) b
 | none=>false
def qCt (p:Prg) (b:Nat):Nat→List Int:=vo fun c=>qz (qBd p b c) 8
def qBe (p:Prg) (b c:Nat) (x:Nat):Bool:=match p[c]? with
 | some k=>(c != b)&&decide ((x:Int)∈k.us)&&(zE p c x==b)
 | none=>false
def qCz (p:Prg) (b:Nat):Nat→List Int:=vo fun c=>qz (qBe p b c) 8
theorem qGT {p:Prg} (hh:zj p) {b o:Nat}:∀ c:Nat,c<p.length→zP p c b=true→zP p c o=true→b≤o→zP p o b=true:=by
 intro c
 induction c using Nat.strongRecOn with
 | ind c ih =>
  intro hc h1 h2 hbo
  have g2:=jb h2
  by_cases e:o=c
  ·subst e;exact h1
  ·obtain⟨q,hq⟩:∃ q,p[c]?=some q:=⟨_,gE hc⟩
   obtain⟨a1,a2,a3⟩:=hh c q hq
   have a4:=a3 (by omega)
   obtain⟨m,hm⟩:∃ m:Nat,q.parent=m:=⟨q.parent.toNat,by omega⟩
   rw [jD hh (by omega) hq (by omega),hm] at h1 h2
   exact ih m (by omega) (by omega) h1 h2 hbo
theorem qBV {p:Prg} (hh:zj p) {b c:Nat} {k:Blk} {x:Int} (hk:p[c]?=some k) (hi:zP p c b=true) (ho:zE p c x ≠ -1):zP p (zE p c x) b=!decide (zE p c x<b):=by
 rcases vL (p:=p) (c:=c) (x:=x) with h|h
 ·exact absurd h ho
 ·obtain⟨o,e⟩:∃ o:Nat,zE p c x=o:=⟨(zE p c x).toNat,by omega⟩
  have h2:zP p c o=true:=vq hh (by omega) hk e
  rw [e]
  by_cases hb:o<b
  ·rw [jR (by omega),decide_eq_false (by omega),decide_eq_true (by omega)]
   rfl
  ·rw [qGT hh c (gS hk).1 hi h2 (by omega),decide_eq_false (by omega)]
   rfl
theorem qO5 {p:Prg} (hh:zj p) {b:Nat} (hb:b<p.length):sorted (qCt p b p.length)=q9 p b:=by
 unfold q9
 apply w9
 intro x hx
 unfold qCt zo
 rw [jI,jI]
 constructor
 ·rintro⟨c,hc,hm⟩
  obtain⟨k,hk⟩:∃ k,p[c]?=some k:=⟨_,gE hc⟩
  rw [jg] at hm
  obtain⟨_,hm⟩:=hm
  simp only [qBd,hk,Bool.and_eq_true,decide_eq_true_eq,bne_iff_ne,ne_eq,Bool.not_eq_true'] at hm
  obtain⟨⟨⟨h1,h2⟩,h3⟩,h4⟩:=hm
  have hge:=jb h1
  rw [qBV hh hk h1 h3] at h4
  refine⟨c - b,by omega,?_⟩
  rw [show b+(c - b)=c by omega]
  simp only [vu,hk,h1,if_true,List.mem_filter,yL,Bool.and_eq_true,decide_eq_true_eq]
  refine⟨h2,?_,by simpa using h4⟩
  rcases vL (p:=p) (c:=c) (x:=(x:Int)) with h|h
  ·exact absurd h h3
  ·exact h
 ·rintro⟨n,hn,hm⟩
  have hc:b+n<p.length:=by omega
  obtain⟨k,hk⟩:∃ k,p[b+n]?=some k:=⟨_,gE hc⟩
  simp only [vu,hk] at hm
  split at hm
  ·rename_i hi
   simp only [List.mem_filter,yL,Bool.and_eq_true,decide_eq_true_eq] at hm
   obtain⟨h2,h3,h4⟩:=hm
   refine⟨b+n,hc,jg.2 ⟨hx,?_⟩⟩
   have h5:zE p (b+n) x ≠ -1:=by omega
   simp only [qBd,hk,hi,Bool.true_and,qBV hh hk hi h5,Bool.and_eq_true,decide_eq_true_eq,bne_iff_ne,ne_eq,Bool.not_not]
   exact⟨⟨h2,h5⟩,h4⟩
  ·simp at hm
theorem qOn {p:Prg} (hh:zj p) {b:Nat} (h0:0<b) (hb:b<p.length):sorted (qCz p b p.length)=sorted (jG p b (p.length - (b+1))):=by
 apply w9
 intro x hx
 unfold qCz jG
 rw [jI,jI]
 constructor
 ·rintro⟨c,hc,hm⟩
  obtain⟨k,hk⟩:∃ k,p[c]?=some k:=⟨_,gE hc⟩
  rw [jg] at hm
  obtain⟨_,hm⟩:=hm
  simp only [qBe,hk,Bool.and_eq_true,decide_eq_true_eq,bne_iff_ne,ne_eq,beq_iff_eq] at hm
  obtain⟨⟨h1,h2⟩,h3⟩:=hm
  have hge:=jb (vq hh h0 hk h3)
  refine⟨c - (b+1),by omega,?_⟩
  rw [show b+1+(c - (b+1))=c by omega]
  simp only [kI,hk,List.mem_filter,vP,beq_iff_eq]
  exact⟨h2,h3⟩
 ·rintro⟨n,hn,hm⟩
  have hc:b+1+n<p.length:=by omega
  obtain⟨k,hk⟩:∃ k,p[b+1+n]?=some k:=⟨_,gE hc⟩
  simp only [kI,hk,List.mem_filter,vP,beq_iff_eq] at hm
  refine⟨b+1+n,hc,jg.2 ⟨hx,?_⟩⟩
  simp only [qBe,hk,Bool.and_eq_true,decide_eq_true_eq,bne_iff_ne,ne_eq,beq_iff_eq]
  exact⟨⟨by omega,hm.1⟩,hm.2⟩
end Go.Hm
end
section
namespace Go.Hm
open Go Go.RowKit Go.ChangeShapes Go.WideShapes Go.Deep
theorem qW.rawG {P:Program} {gl:Nat→Option (List AV)} {f:FuncId} {az:List AV} {v0:Value} (h:qW P gl f az (fun _ y _=>y=.sc v0)) {W:World} {g:Gh} {args:Array Value} (hC:∀ b,g.C b→b<W.heap.size)
  (hgl:∀ i row,gl i=some row→(RV g W (.pointer (some ⟨i,0,none⟩)) (.el row 0)∧Exw W i row)∧∀ f:Nm→Option Nm,row.map (AV.tr f)=row) (hsz:args.size=az.length)
  (hargs:∀ (j:Nat) v x,args[j]?=some v→az[j]?=some x→RV g W v x):Calls P f args W fun e W'=>e=.returned v0∧Below W.heap.size W W':=by
 have hinv:Inv (qB8 g noH) g.C W g noH W:=⟨rfl,rfl,rfl,Nat.le_refl _,fun _ _ _=>rfl,rfl,hC,fun _ _ e=>(by cases e),fun _ _ _ e=>(by cases e),fun _ _ _ _ _ e=>(by cases e)⟩
 refine (h.2 (.s 0) g.C W g args (fun _ _=>rfl) rfl (fun _ e=>absurd rfl e) hinv hgl hsz hargs).mono fun e w' he=>?_
 cases e with
 | returned v =>
  obtain⟨C',g',H',x,hA,hv,rfl⟩:=he
  refine⟨by rw [hv.sc_eq],hA.inv.os,hA.inv.tape,hA.inv.output,hA.inv.size,fun b hb=>hA.inv.keep b hb ?_⟩
  rintro⟨n,hn,_⟩
  exact hn rfl
 | panicked ch=>obtain⟨_,_,_,_,_,_,_,_,e⟩:=he;exact e.elim
 | outgrown=>exact he.elim
abbrev glI (g:Nat) (l:List Int):Nat→Option (List AV):=fun i=>if i=g then some (l.map iv) else none
theorem qRa {W:World} {g:Nat} {l:List Int} (hl:0<l.length) (h:∀ i k,l[i]?=some k→W.cell? ⟨g,i,none⟩=some (.int .i64 k)) :
  ∀ i row,glI g l i=some row→(RV (g0 W) W (.pointer (some ⟨i,0,none⟩)) (.el row 0)∧Exw W i row)∧∀ f:Nm→Option Nm,row.map (AV.tr f)=row:=by
 intro i row hr
 by_cases hi:i=g
 ·subst hi
  simp only [glI,if_true,Option.some.injEq] at hr
  subst hr
  have hat:∀ j,j<(l.map iv).length→∃ k,l[j]?=some k∧(l.map iv)[j]?=some (iv k)∧W.cell? ⟨i,j,none⟩=some (.int .i64 k):=by
   intro j hj
   have hj':j<l.length:=by simpa using hj
   exact⟨l[j],gE hj',by simp [hj'],h j _ (gE hj')⟩
  refine⟨⟨?_,fun zs hz e=>?_⟩,fun f=>?_⟩
  rotate_left
  ·cases l with
   | nil=>simp at hl
   | cons a l=>cases zs with
    | nil=>exact absurd rfl hz
    | cons z zs=>simp at e
  rotate_left
  ·obtain⟨k0,_,_,hc0⟩:=hat 0 (by simpa using hl)
   have:=RV.el (g:=g0 W) (w:=W) i 0 0 (l.map iv) (fun j=>(W.cell? ⟨i,0+j,none⟩).getD undef) (qMA hc0).1 (fun j hj=>?_) (fun j hj=>?_) (fun j a ha=>?_)
   ·simpa using this
   ·obtain⟨k,_,_,hc⟩:=hat j hj
    simp [hc]
   ·obtain⟨k,_,_,hc⟩:=hat j hj
    simp [hc,Value.oneCell']
   ·have hj:j<(l.map iv).length:=(gS ha).1
    obtain⟨k,_,h2,hc⟩:=hat j hj
    rw [h2] at ha
    cases ha
    simp only [Nat.zero_add,hc,Option.getD_some]
    exact .sc _
  ·simp [AV.tr,Function.comp_def]
 ·simp [glI,hi] at hr
theorem qBj {H:Type} {enc:TypeId×Value→H} {P:Program} {w:World} {base:Nat} {spare:Nat→Bool} {held:Bool} {m n g:Nat} {t e:TypeId} {s:String} {cs:Array Value} {l:List Int} {x:List MemPlace}
  (ht:P.underlying t=some (.array n e)) (he:P.underlying e=some (.int .i64)) (hc:P.cellsOf e=1) (hg:P.globalNamed s=some g) (hv:w.var? P s=some cs)
  (h:DataW.trod enc P w base spare held m t cs.toList=some (.agg (l.map fun k=>.lit (.int .i64 k)),x)):∀ i k,l[i]?=some k→w.cell? ⟨g,i,none⟩=some (.int .i64 k):=by
 intro i k hk
 obtain⟨xs,m1,rfl,hx,hlen,hn,hel⟩:=DataW.trod_array ht h
 simp only [Prod.mk.injEq,DataW.agg.injEq] at hx
 have hil:i<l.length:=(gS hk).1
 have hxl:l.length=xs.length:=by simpa using congrArg List.length hx.1
 obtain⟨y,hy⟩:∃ y,xs[i]?=some y:=⟨_,gE (by omega)⟩
 have h0:=hel i (by omega)
 rw [hy,hc] at h0
 obtain⟨k',e1,e2,_⟩:=DataW.trod_int he h0
 have h3:=congrArg (fun z=>z[i]?) hx.1
 simp only [List.getElem?_map,hk,hy,Option.map_some,Option.some.injEq] at h3
 rw [e2] at h3
 have hkk:k'=k:=by simpa using h3.symm
 subst hkk
 rw [World.var?_cell hg hv i]
 have e3:=congrArg (fun z=>z[0]?) e1
 simp [List.getElem?_take,List.getElem?_drop] at e3
 simpa using e3
end Go.Hm
end
section
namespace Go.Hm
open Go Go.RowKit
def zb (l:List (Int×Int)):List (List AV):=l.map fun o=>[iv o.1,iv o.2]
section
variable {l m:List (Int×Int)} {o:Int×Int} {i:Nat} {f:Nm→Option Nm}
@[simp] theorem orows_len:(zb l).length=l.length:=by simp [zb]
@[simp] theorem qLE:(zb l)[i]?=(l[i]?).map fun o=>[iv o.1,iv o.2]:=by simp [zb]
@[simp] theorem orows_getE {h:i<(zb l).length}:(zb l)[i]=[iv (l[i]'(by simpa using h)).1,iv (l[i]'(by simpa using h)).2]:=by simp [zb]
@[simp] theorem orows_tr:(zb l).map (fun r=>r.map (AV.tr f))=zb l:=by simp [zb]
@[simp] theorem orows_take:(zb l).take i=zb (l.take i):=by simp [zb]
@[simp] theorem orows_drop:(zb l).drop i=zb (l.drop i):=by simp [zb]
@[simp] theorem orows_app:zb l++zb m=zb (l++m):=by simp [zb]
@[simp] theorem orows_nil:zb []=[]:=rfl
@[simp] theorem orows_cln:(zb l).all (fun r=>r.all AV.cln)=true:=by simp [zb]
theorem qLD:∀ r∈zb l,r.length=2:=by
 intro r hr
 obtain⟨o,_,rfl⟩:=List.mem_map.1 hr
 rfl
abbrev osl (l:List (Int×Int)):AV:=.sl 2 (zb l)
theorem qFD {hp:Nm→Option AO} {n:Nm} {len:Nat} (hn:hp n=some (.row 2 (zb l))) (hl:len=l.length):Bw hp noD (.hs n 2 0 len) (osl l):=jt hn (by simp [hl]) qLD
end
def uR (p:Prg) (b:Nat) (s:Stm):List (Int×Int):=s.reads.map fun x=>zU p b x 0
def yb (s:Stm):List (Int×Int) :=
 if s.kind=0 then [(1,s.a)] else if s.kind=2 then [(14,0)] else if s.kind=3 then [(15,s.a)] else if s.kind=4 then [(16,s.a)] else if s.kind=5 then [(17,(s.reads.length:Int) - 1)]
 else if s.kind=6 then [(18,s.b)] else if s.kind=7 then [(19,0)] else if s.kind=8 then [(20,0)] else []
def qAe (p:Prg) (b:Nat) (s:Stm):List (Int×Int):=if s.kind=11 then [zU p b s.to 2] else if 0≤s.kind∧s.kind≤6 then [zU p b s.to 1] else []
def wK (p:Prg) (b:Nat) (s:Stm):List (Int×Int):=(0,0)::(uR p b s++(yb s++qAe p b s))
def uE (p:Prg) (b:Nat) (ss:List Stm):List (Int×Int):=ss.flatMap (wK p b)
def jx (p:Prg) (b:Nat):List (Int×Int):=match p[b]? with|some k=>uE p b k.body|none=>[]
theorem qFV (s:Stm):(yb s).length≤1:=by
 unfold yb
 repeat' split
 all_goals simp
theorem qNq {p:Prg} {b:Nat} {s:Stm}:(qAe p b s).length≤1:=by
 unfold qAe
 repeat' split
 all_goals simp
theorem qKm {p:Prg} {b:Nat} {s:Stm}:(uR p b s).length≤2:=by
 have:=s.reads_len
 simpa [uR] using this
theorem qBy {p:Prg} {b:Nat} {s:Stm}:(wK p b s).length≤5:=by
 have h1:=qFV s
 have h2:=qNq (p:=p) (b:=b) (s:=s)
 have h3:=qKm (p:=p) (b:=b) (s:=s)
 simp only [wK,List.length_cons,List.length_append]
 omega
theorem qAc {p:Prg} {b:Nat}:∀ ss:List Stm,(uE p b ss).length≤5 * ss.length
 | []=>by simp [uE]
 | s::l=>by
  have h1:=qBy (p:=p) (b:=b) (s:=s)
  have h2:=qAc (p:=p) (b:=b) l
  simp only [uE,List.flatMap_cons,List.length_append,List.length_cons] at h2 ⊢
  omega
theorem qKE {p:Prg} {b:Nat} {ss:List Stm} {s:Stm}:uE p b (ss++[s])=uE p b ss++wK p b s:=by simp [uE]
theorem qDk {p:Prg} {b:Nat} {ss:List Stm} {i:Nat} {s:Stm} (h:ss[i]?=some s):uE p b (ss.take (i+1))=uE p b (ss.take i)++wK p b s:=by
 rw [← qKE,List.take_add_one,h]
 rfl
def vI (l:List (Int×Int)):Nat:=l.countP fun o=>o.1==0
theorem qKU {l m:List (Int×Int)}:vI (l++m)=vI l+vI m:=by simp [vI]
theorem jv {xs:List Int} {x:Int} (h:x∈xs):∃ i:Nat,qx xs x=i∧i<xs.length∧xs[i]?=some x:=by
 have h0:=zi.2 h
 unfold qx at h0 ⊢
 cases hf:xs.findIdx? (·==x) with
 | none=>rw [hf] at h0;simp at h0
 | some i =>
  obtain⟨h1,h2,_⟩:=List.findIdx?_eq_some_iff_getElem.1 hf
  refine⟨i,rfl,h1,?_⟩
  rw [gE h1]
  simpa using h2
theorem kX {p:Prg} {x:Int} {b:Nat}:∀ (n:Nat) (j:Int),zN p x n j=b→∃ k,p[b]?=some k∧za b k x=true∧x∉k.dc 9
 | 0,_,h=>by simp only [zN] at h;omega
 | n+1,j,h=>by
  simp only [zN] at h
  split at h
  ·omega
  ·split at h
   ·omega
   ·rename_i q hq
    split at h
    ·exact kX n _ h
    ·split at h
     ·omega
     ·rename_i hd
      split at h
      ·rename_i hl
       have hj:j.toNat=b:=by omega
       rw [hj] at hq hl
       exact⟨q,hq,hl,hd⟩
      ·exact kX n _ h
theorem we {p:Prg} {x:Int} {b c:Nat} (h:zE p c x=b):∃ k,p[b]?=some k∧za b k x=true∧x∉k.dc 9:=by
 unfold zE at h
 split at h
 ·rename_i k hk
  split at h
  ·omega
  ·rename_i h0
   split at h
   ·rename_i hl
    obtain rfl:c=b:=by omega
    exact⟨k,hk,hl,fun hd=>h0 (.inr hd)⟩
   ·unfold outer at h
    split at h
    ·exact kX _ _ h
    ·omega
 ·omega
theorem qD6 {p:Prg} {x:Int} {b:Nat} {k:Blk} (hk:p[b]?=some k) (hl:za b k x=true) (hd:x∉k.dc 9):zE p b x=b:=by
 have hb:b≠0:=by
  rintro rfl
  simp [za] at hl
 simp [zE,hk,hl,hd,hb]
theorem qGC {p:Prg} {x:Int} (hh:zj p):∀ (n:Nat) (j:Int),zN p x n j=-1∨zN p x n j≤j
 | 0,_=>.inl rfl
 | n+1,j=>by
  simp only [zN]
  split
  ·exact .inl rfl
  ·split
   ·exact .inl rfl
   ·rename_i q hq
    have h1:=(hh _ q hq).2.1
    have ih:=qGC hh (x:=x) n q.parent
    split
    ·rcases ih with e|e
     ·exact .inl e
     ·exact .inr (by omega)
    ·split
     ·exact .inl rfl
     ·split
      ·exact .inr (Int.le_refl _)
      ·rcases ih with e|e
       ·exact .inl e
       ·exact .inr (by omega)
theorem qOI {p:Prg} {x:Int} {b:Nat} {k:Blk} (hh:zj p) (hk:p[b]?=some k) (h:zE p b x≠b):zE p b x<b:=by
 unfold zE at h ⊢
 rw [hk] at h ⊢
 simp only at h ⊢
 split at h <;> rename_i h0
 ·rw [if_pos h0];omega
 ·rw [if_neg h0]
  split at h <;> rename_i h1
  ·exact absurd rfl h
  ·rw [if_neg h1]
   simp only [outer,hk]
   have h2:=(hh _ k hk).2.1
   rcases qGC hh (x:=x) b k.parent with e|e <;> omega
theorem qNm {p:Prg} {b:Nat} {x:Int}:0≤zq p b x∧zq p b x≤4:=by
 unfold zq
 repeat' split
 all_goals decide
theorem qNl {p:Prg} {b:Nat} {x:Int} (h:zq p b x=3):x∈qF p b:=by
 unfold zq at h
 split at h
 ·omega
 ·split at h
  ·omega
  ·split at h
   ·omega
   ·split at h
    ·assumption
    ·omega
theorem qHv {p:Prg} {b:Nat} {k:Blk} {x:Int} (hp:ShapeP p) (hk:p[b]?=some k) (hx:0≤x∧x≤7) (h:zq p b x=4):x∈qT p b:=by
 have hka:qt p b=k.kind:=by simp [qt,hk]
 unfold zq at h
 split at h
 ·omega
 ·rename_i h1
  split at h
  ·omega
  ·rename_i h2
   split at h
   ·omega
   ·rename_i h3
    split at h
    ·omega
    ·rename_i h4
     have ho:zE p b x=b:=by omega
     have hb:0<b:=by
      rcases vL (p:=p) (c:=b) (x:=x) with e|e <;> omega
     obtain⟨k',hk',hl,_⟩:=we ho
     obtain rfl:k=k':=sI (hk.symm.trans hk')
     have hhd:=hp.head b k hk
     unfold jL at hhd
     rw [if_neg (by omega)] at hhd
     have hk1:qt p b=1:=by omega
     unfold qT
     rw [if_pos hk1,u6]
     refine⟨x.toNat,by omega,?_,by omega⟩
     have e:((x.toNat:Nat):Int)=x:=by omega
     simp only [jz,hk,e,hl,h4,decide_false,Bool.not_false,Bool.and_self]
theorem qNk {p:Prg} {b:Nat} {k:Blk} {x:Int} (hp:ShapeP p) (hk:p[b]?=some k) (hu:x∈k.us) (h:zq p b x=1):x∈q9 p b∧x∉qF p b:=by
 have hbl:=(gS hk).1
 have hx:0≤x∧x≤7:=by
  rw [Blk.us,mem_sorted] at hu
  exact hu.2
 unfold zq at h
 split at h
 ·omega
 ·rename_i h1
  split at h
  rotate_left
  ·split at h
   ·omega
   ·split at h <;> omega
  ·rename_i h2
   have hpos:0<zE p b x:=by
    rcases vL (p:=p) (c:=b) (x:=x) with e|e <;> omega
   have hlt:=qOI hp.heads hk h2
   refine⟨?_,fun hc=>h2 ?_⟩
   ·unfold q9 zo
    rw [mem_sorted,jI]
    refine⟨⟨0,by omega,?_⟩,hx⟩
    simp only [Nat.add_zero,vu,hk,jR (Int.le_refl _),decide_true,if_true,List.mem_filter,yL,Bool.and_eq_true,decide_eq_true_eq]
    exact⟨hu,hpos,hlt⟩
   ·unfold qF at hc
    split at hc
    ·unfold jG at hc
     rw [mem_sorted,jI] at hc
     obtain⟨⟨m,_,hm⟩,_⟩:=hc
     unfold kI at hm
     split at hm
     ·rw [List.mem_filter] at hm
      have ho:zE p (b+1+m) x=b:=by simpa [vP] using hm.2
      obtain⟨k',hk',hl,hd⟩:=we ho
      exact qD6 hk' hl hd
     ·cases hm
    ·cases hc
theorem qJb {p:Prg} {b:Nat} {k:Blk} {x w:Int} (hp:ShapeP p) (hk:p[b]?=some k) (hu:x∈k.us) :
  (zq p b x=0∧zU p b x w=(8+w,x))∨(zq p b x=2∧zU p b x w=(11+w,x)) ∨
  (zq p b x=4∧∃ i:Nat,zU p b x w=(2+w,(i:Int))∧i<(qT p b).length∧(qT p b)[i]?=some x) ∨
  (zq p b x=3∧∃ i:Nat,zU p b x w=(5+w,(i:Int))∧i<(qF p b).length∧(qF p b++q9 p b)[i]?=some x) ∨
  (zq p b x=1∧∃ i:Nat,zU p b x w=(5+w,(((qF p b).length+i:Nat):Int))∧i<(q9 p b).length∧(qF p b++q9 p b)[(qF p b).length+i]?=some x):=by
 have hx:0≤x∧x≤7:=by
  rw [Blk.us,mem_sorted] at hu
  exact hu.2
 obtain⟨s0,s4⟩:=qNm (p:=p) (b:=b) (x:=x)
 by_cases e0:zq p b x=0
 ·exact .inl ⟨e0,by simp [zU,e0]⟩
 by_cases e2:zq p b x=2
 ·exact .inr (.inl ⟨e2,by simp [zU,e2]⟩)
 by_cases e4:zq p b x=4
 ·obtain⟨i,h1,h2,h3⟩:=jv (qHv hp hk hx e4)
  exact .inr (.inr (.inl ⟨e4,i,by simp [zU,e4,h1],h2,h3⟩))
 by_cases e3:zq p b x=3
 ·have hc:=qNl e3
  obtain⟨i,h1,h2,h3⟩:=jv hc
  exact .inr (.inr (.inr (.inl ⟨e3,i,by simp [zU,e3,vZ,hc,h1],h2,by rw [List.getElem?_append_left h2];exact h3⟩)))
 have e1:zq p b x=1:=by omega
 obtain⟨hf,hc⟩:=qNk hp hk hu e1
 obtain⟨i,h1,h2,h3⟩:=jv hf
 exact .inr (.inr (.inr (.inr ⟨e1,i,by simp [zU,e1,vZ,hc,h1],h2,by rw [List.getElem?_append_right (by omega)];simpa using h3⟩)))
theorem qNx {k:Blk} {s:Stm} {x:Int} (hn:NmOk k) (hs:s∈k.body) (hx:x∈s.reads):x∈k.us:=by
 have h1:=hn.reads s hs x hx
 simp only [Blk.us,mem_sorted,List.mem_append,Blk.rd,zw,List.mem_flatMap]
 exact⟨.inl (.inl (.inl ⟨⟨s,hs,hx⟩,h1⟩)),h1⟩
theorem qTX {k:Blk} {s:Stm} (hn:NmOk k) (hs:s∈k.body) (h:s.sets∨s.kind=11):s.to∈k.us:=by
 have h1:=hn.tos s hs
 simp only [Blk.us,mem_sorted,List.mem_append,Blk.bd,kH,List.mem_map,List.mem_filter,decide_eq_true_eq]
 exact⟨.inl (.inl (.inr ⟨.inr ⟨s,⟨hs,h⟩,rfl⟩,h1⟩)),h1⟩
end Go.Hm
end
section
namespace Go.Hm
open Go Go.RowKit
theorem u5 {l:List (Int×Int)} {x y:Int}:zb l++[[iv x,iv y]]=zb (l++[(x,y)]):=by simp [zb]
structure Cod where
 kind:Int
 params:List Int
 fasts:List Int
 cells:List Int
 frees:List Int
 ops:List (Int×Int)
 deriving DecidableEq,Inhabited
def kY:Cod:=⟨0,[],[],[],[],[]⟩
@[simp] theorem noCode_kind:kY.kind=0:=rfl
@[simp] theorem noCode_params:kY.params=[]:=rfl
@[simp] theorem noCode_fasts:kY.fasts=[]:=rfl
@[simp] theorem noCode_cells:kY.cells=[]:=rfl
@[simp] theorem noCode_frees:kY.frees=[]:=rfl
@[simp] theorem noCode_ops:kY.ops=[]:=rfl
def qk (p:Prg) (b:Nat):Cod:=match p[b]? with|some k=>⟨k.kind,k.params,qT p b,qF p b,q9 p b,jx p b⟩|none=>kY
def qf (p:Prg) (n:Nat):List Cod:=(List.range n).map (qk p)
theorem qB0 {p:Prg} {n:Nat}:qf p (n+1)=qf p n++[qk p n]:=by simp [qf,List.range_succ]
@[simp] theorem codesTo_len {p:Prg} {n:Nat}:(qf p n).length=n:=by simp [qf]
@[simp] theorem codesTo_zero {p:Prg}:qf p 0=[]:=rfl
abbrev Cod.row (c:Cod):List AV:=[iv c.kind,isl c.params,isl c.fasts,isl c.cells,isl c.frees,osl c.ops]
abbrev Cod.av (c:Cod):AV:=.agg c.row
def wW (cs:List Cod):List (List AV):=cs.map Cod.row
abbrev csl (cs:List Cod):AV:=.sl 6 (wW cs)
def Cod.own (n:Nm) (i:Nat) (c:Cod):List AV :=
 [iv c.kind,.hs (.c n i 1) 1 0 c.params.length,.hs (.c n i 2) 1 0 c.fasts.length,.hs (.c n i 3) 1 0 c.cells.length,.hs (.c n i 4) 1 0 c.frees.length,.hs (.c n i 5) 2 0 c.ops.length]
@[simp] theorem Cod.own_eq {n:Nm} {i:Nat} {c:Cod}:c.own n i=[iv c.kind,.hs (.c n i 1) 1 0 c.params.length,.hs (.c n i 2) 1 0 c.fasts.length,.hs (.c n i 3) 1 0 c.cells.length,.hs (.c n i 4) 1 0 c.frees.length,.hs (.c n i 5) 2 0 c.ops.length]:=rfl
structure OwnK (hp:Nm→Option AO) (n:Nm) (i:Nat) (c:Cod):Prop where
 params:hp (.c n i 1)=some (.row 1 (qY c.params))
 fasts:hp (.c n i 2)=some (.row 1 (qY c.fasts))
 cells:hp (.c n i 3)=some (.row 1 (qY c.cells))
 frees:hp (.c n i 4)=some (.row 1 (qY c.frees))
 ops:hp (.c n i 5)=some (.row 2 (zb c.ops))
def jy (n:Nm) (cs:List Cod):List (List AV):=cs.mapIdx fun i c=>c.own n i
structure OwnC (hp:Nm→Option AO) (n:Nm) (cs:List Cod):Prop where
 top:hp n=some (.row 6 (jy n cs))
 each:∀ (i:Nat) c,cs[i]?=some c→OwnK hp n i c
section
variable {cs:List Cod} {i a b d l:Nat} {n q k1:Nm} {c:Cod}
@[simp] theorem kcrows_len:(wW cs).length=cs.length:=by simp [wW]
@[simp] theorem qJh:(wW cs)[i]?=(cs[i]?).map Cod.row:=by simp [wW]
@[simp] theorem kcrows_tr {f:Nm→Option Nm}:(wW cs).map (fun r=>r.map (AV.tr f))=wW cs:=by simp [wW]
@[simp] theorem kdRows_len:(jy n cs).length=cs.length:=by simp [jy]
@[simp] theorem qDc:(jy n cs)[i]?=(cs[i]?).map (fun c=>c.own n i):=by simp [jy]
@[simp] theorem kdRows_nil:jy n []=[]:=rfl
@[simp] theorem kdRows_take:(jy n cs).take cs.length=jy n cs:=List.take_of_length_le (by simp)
theorem qDd:jy n (cs++[c])=jy n cs++[c.own n cs.length]:=by simp [jy]
theorem ub {f:Nm→Option Nm} {m:Nm} (h:∀ i j,i<cs.length→f (.c n i j)=some (.c m i j)):(jy n cs).map (fun r=>r.map (AV.tr f))=jy m cs:=by
 apply List.ext_getElem?
 intro i
 simp only [List.getElem?_map,qDc,Option.map_map]
 cases hx:cs[i]? with
 | none=>rfl
 | some x=>simp [Cod.own,h i _ (gS hx).1]
@[simp] theorem kdRows_kl (h:Nm.under (.s d) n=false):(jy n cs).map (fun r=>r.map (AV.tr (kl (.s d))))=jy n cs:=ub (by simp [h])
@[simp] theorem kdRows_mv1 (h:Nm.under (.s a) n=true):(jy n cs).map (fun r=>r.map (AV.tr (mv (.s a) k1)))=jy (Nm.ren (.s a) k1 n) cs:=ub (by simp [h])
@[simp] theorem kdRows_mvc:(jy n cs).map (fun r=>r.map (AV.tr (mvc n k1)))=jy k1 cs:=by
 refine ub fun i j _=>?_
 have:Nm.c n i j≠n:=Nm.not_under_c (Nm.under_self n)
 simp [this]
@[simp] theorem kdRows_mv4 {j:Nat} (hq:(q=n)=False) (hq':Nm.under (.c q a b) n=false) (hl:cs.length≤l):(jy n cs).map (fun r=>r.map (AV.tr (mv (.c q a b) (.c n l j))))=jy n cs:=by
 have h1:¬ n=q:=fun e=>by simp [e] at hq
 have h2:Nm.under (.c n l j) n=false:=by
  cases h:Nm.under (.c n l j) n with
  | false=>rfl
  | true=>exact absurd rfl (Nm.under_not_c h).2
 refine ub fun i j hi=>?_
 have h3:¬ i=l:=by omega
 simp [h1,hq',h2,h3]
end
theorem qML {hp:Nm→Option AO} {n:Nm} {i:Nat} {c:Cod} (h:OwnK hp n i c):∀ (j:Nat) a a',(c.own n i)[j]?=some a→c.row[j]?=some a'→Bw hp noD a a'
 | 0,a,a',ha,ha'=>by obtain rfl:=sI ha;obtain rfl:=sI ha';exact .refl _
 | 1,a,a',ha,ha'=>by obtain rfl:=sI ha;obtain rfl:=sI ha';exact jF h.params rfl
 | 2,a,a',ha,ha'=>by obtain rfl:=sI ha;obtain rfl:=sI ha';exact jF h.fasts rfl
 | 3,a,a',ha,ha'=>by obtain rfl:=sI ha;obtain rfl:=sI ha';exact jF h.cells rfl
 | 4,a,a',ha,ha'=>by obtain rfl:=sI ha;obtain rfl:=sI ha';exact jF h.frees rfl
 | 5,a,a',ha,ha'=>by obtain rfl:=sI ha;obtain rfl:=sI ha';exact qFD h.ops rfl
 | j+6,a,a',ha,_=>by simp [Cod.own] at ha
theorem wE {hp:Nm→Option AO} {n:Nm} {i:Nat} {c:Cod} (h:OwnK hp n i c):Bw hp noD (.agg (c.own n i)) c.av:=.agg _ _ rfl (qML h)
theorem ym {hp:Nm→Option AO} {n:Nm} {len:Nat} {cs:List Cod} (h:OwnC hp n cs) (hl:len=cs.length):Bw hp noD (.hs n 6 0 len) (csl cs):=by
 subst hl
 refine .hs n 6 0 cs.length (jy n cs) (wW cs) rfl h.top (by simp) (by simp) (by simp [wW]) fun i r r' hr hr' j a a' ha ha'=>?_
 rw [Nat.zero_add,qDc] at hr
 rw [qJh] at hr'
 obtain⟨x,hx,rfl⟩:=Option.map_eq_some_iff.1 hr
 rw [hx] at hr'
 obtain rfl:=sI hr'
 exact qML (h.each i x hx) j a a' ha ha'
theorem OwnK.hcln {H':Nm→Option AO} {n:Nm} {i:Nat} {c:Cod} (h:OwnK H' n i c):OwnK (hcln H') n i c :=
 ⟨jj h.params (by simp),jj h.fasts (by simp),jj h.cells (by simp),jj h.frees (by simp),jj h.ops (by simp)⟩
theorem kv {l:List (Int×Int)} {i:Nat} {o:Int×Int} (h:l[i]?=some o):vI (l.take (i+1))=vI (l.take i)+(if o.1=0 then 1 else 0):=by
 rw [List.take_add_one,h,qKU]
 by_cases e:o.1=0 <;> simp [vI,e]
theorem qHs {l:List (Int×Int)}:vI l≤l.length:=List.countP_le_length
theorem ur {p:Prg} {b:Nat} (hp:ShapeP p):(jx p b).length≤60:=by
 unfold jx
 split
 ·rename_i k hk
  have h1:=qAc (p:=p) (b:=b) k.body
  have h2:=hp.body k (gM hk)
  omega
 ·simp
end Go.Hm
end
