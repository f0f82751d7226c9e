/-
  Own texts, joined by mkclaim.py: Hm61, Hm62, Hm63, Hm64, Hm65.
-/
import Derived.Test.YtbgmnmnoaamgkaaGreatDoorD10
import Derived.Test.YtbgmnmnoaamgkaaGreatDoorD09
import Derived.OpenShut
import Derived.FnData
set_option linter.unusedSimpArgs false
set_option linter.unusedVariables false
set_option maxRecDepth 100000
set_option maxHeartbeats 4000000

section
namespace Go.Hm
open Go Go.RowKit
def qq (f:Nat→Bool):Nat→List Int
 | 0=>[]
 | n+1=>if f n=true then qq f n++[(n:Int)] else qq f n
theorem uW {f:Nat→Bool} {x:Int}:∀ {n:Nat},x∈qq f n↔∃ m:Nat,m<n∧f m=true∧x=m
 | 0=>by simp [qq]
 | n+1=>by
  simp only [qq]
  split
  ·rename_i h
   rw [List.mem_append,uW (n:=n),List.mem_singleton]
   constructor
   ·rintro (⟨m,h1,h2,h3⟩|h')
    ·exact⟨m,by omega,h2,h3⟩
    ·exact⟨n,by omega,h,h'⟩
   ·rintro⟨m,h1,h2,h3⟩
    rcases Nat.lt_succ_iff_lt_or_eq.1 h1 with e|rfl
    ·exact .inl ⟨m,e,h2,h3⟩
    ·exact .inr h3
  ·rename_i h
   rw [uW (n:=n)]
   constructor
   ·rintro⟨m,h1,h2,h3⟩;exact⟨m,by omega,h2,h3⟩
   ·rintro⟨m,h1,h2,h3⟩
    rcases Nat.lt_succ_iff_lt_or_eq.1 h1 with e|rfl
    ·exact⟨m,e,h2,h3⟩
    ·exact absurd h2 h
theorem jd {f:Nat→Bool} {x n:Nat}:(x:Int)∈qq f n↔x<n∧f x=true:=by
 rw [uW]
 constructor
 ·rintro⟨m,h1,h2,h3⟩
  obtain rfl:x=m:=by omega
  exact⟨h1,h2⟩
 ·rintro⟨h1,h2⟩;exact⟨x,h1,h2,rfl⟩
theorem qAu {f:Nat→Bool}:∀ n:Nat,(qq f n).length≤n
 | 0=>by simp [qq]
 | n+1=>by
  have:=qAu (f:=f) n
  simp only [qq]
  split <;> simp <;> omega
theorem kS {f g:Nat→Bool}:∀ {n:Nat},(∀ x,x<n→f x=g x)→qq f n=qq g n
 | 0,_=>rfl
 | n+1,h=>by
  simp only [qq]
  rw [h n (by omega),kS (n:=n) fun x hx=>h x (by omega)]
theorem ye {l:List Int}:∀ n:Nat,qv l n=qq (fun x=>decide ((x:Int)∈l)) n
 | 0=>rfl
 | n+1=>by
  simp only [qv,qq,ye n,decide_eq_true_eq]
theorem qEG {f:Nat→Bool}:sorted (qq f 8)=qq f 8:=by
 rw [sorted,ye]
 exact kS fun x hx=>by
  rw [Bool.eq_iff_iff,decide_eq_true_eq,jd]
  simp [hx]
theorem w4 {l l':List Int} (h:∀ x:Nat,x<8→((x:Int)∈l↔(x:Int)∈l')):sorted l=sorted l':=by
 rw [sorted,sorted,ye,ye]
 exact kS fun x hx=>by
  rw [Bool.eq_iff_iff,decide_eq_true_eq,decide_eq_true_eq,h x hx]
def vj (g:Nat→List Int):Nat→List Int
 | 0=>[]
 | n+1=>vj g n++g n
theorem jF {g:Nat→List Int} {x:Int}:∀ {n:Nat},x∈vj g n↔∃ m:Nat,m<n∧x∈g m
 | 0=>by simp [vj]
 | n+1=>by
  simp only [vj,List.mem_append,jF (n:=n)]
  constructor
  ·rintro (⟨m,h1,h2⟩|h)
   ·exact⟨m,by omega,h2⟩
   ·exact⟨n,by omega,h⟩
  ·rintro⟨m,h1,h2⟩
   rcases Nat.lt_succ_iff_lt_or_eq.1 h1 with e|rfl
   ·exact .inl ⟨m,e,h2⟩
   ·exact .inr h2
theorem qBE {g:Nat→List Int} (h:∀ i,(g i).length≤8):∀ n:Nat,(vj g n).length≤8 * n
 | 0=>by simp [vj]
 | n+1=>by
  have:=qBE h n
  have:=h n
  simp only [vj,List.length_append]
  omega
theorem qAv {p:Prg} {x:Int}:∀ (n:Nat) (j:Int),zF p x n j=-1∨0<zF p x n j
 | 0,_=>.inl rfl
 | n+1,j=>by
  simp only [zF]
  split
  ·exact .inl rfl
  ·rename_i hj
   split
   ·exact .inl rfl
   ·split
    ·exact qAv n _
    ·split
     ·exact .inl rfl
     ·split
      ·exact .inr (by omega)
      ·exact qAv n _
theorem vE {p:Prg} {c:Nat} {x:Int}:qz p c x=-1∨0<qz p c x:=by
 unfold qz
 split
 ·split
  ·exact .inl rfl
  ·rename_i h
   split
   ·exact .inr (by omega)
   ·unfold outer
    split
    ·exact qAv _ _
    ·exact .inl rfl
 ·exact .inl rfl
def yK (p:Prg) (b c:Nat) (x:Int):Bool:=decide (0<qz p c x)&&decide (qz p c x<b)
def vm (p:Prg) (b c:Nat):List Int:=match p[c]? with
 | some k=>if zJ p c b=true then k.us.filter (yK p b c) else []
 | none=>[]
def zi (p:Prg) (b:Nat):Nat→List Int:=vj fun i=>vm p b (b+i)
def qU (p:Prg) (b:Nat):List Int:=sorted (zi p b (p.length - b))
def vI (p:Prg) (b c:Nat) (x:Int):Bool:=qz p c x==b
def uy (p:Prg) (b c:Nat):List Int:=match p[c]? with
 | some k=>k.us.filter (vI p b c)
 | none=>[]
def jD (p:Prg) (b:Nat):Nat→List Int:=vj fun i=>uy p b (b+1+i)
def qi (p:Prg) (b:Nat):Int:=match p[b]? with|some k=>k.kind|none=>-1
def qE (p:Prg) (b:Nat):List Int:=if qi p b=1 then sorted (jD p b (p.length - (b+1))) else []
def jz (p:Prg) (b:Nat) (x:Nat):Bool:=match p[b]? with
 | some k=>zZ b k x&&!decide ((x:Int)∈qE p b)
 | none=>false
def qI (p:Prg) (b:Nat):List Int:=if qi p b=1 then qq (jz p b) 8 else []
def zl (p:Prg) (b:Nat) (x:Int):Int :=
 if qz p b x<0 then 0 else if qz p b x≠b then 1 else if qi p b=2 then 2 else if x∈qE p b then 3 else 4
def vS (p:Prg) (b:Nat) (x:Int):Int:=if x∈qE p b then qm (qE p b) x else (qE p b).length+qm (qU p b) x
def zG (p:Prg) (b:Nat) (x w:Int):Int×Int :=
 if zl p b x=0 then (8+w,x) else if zl p b x=2 then (11+w,x) else if zl p b x=4 then (2+w,qm (qI p b) x) else (5+w,vS p b x)
theorem um {l:List Int} {f:Int→Bool} (h:l.length≤8):(l.filter f).length≤8:=Nat.le_trans (List.length_filter_le _ _) h
theorem qJr {p:Prg} {b c:Nat}:(vm p b c).length≤8:=by
 unfold vm
 split
 ·split
  ·exact um (Blk.us_len _)
  ·simp
 ·simp
theorem qKB {p:Prg} {b c:Nat}:(uy p b c).length≤8:=by
 unfold uy
 split
 ·exact um (Blk.us_len _)
 ·simp
theorem qB3 {p:Prg} {b n:Nat}:(zi p b n).length≤8 * n:=qBE (fun _=>qJr) n
theorem qGg {p:Prg} {b n:Nat}:(jD p b n).length≤8 * n:=qBE (fun _=>qKB) n
theorem jW {p:Prg} {b:Nat}:(qU p b).length≤8:=v6
theorem zV {p:Prg} {b:Nat}:(qE p b).length≤8:=by
 unfold qE
 split
 ·exact v6
 ·simp
theorem yv {p:Prg} {b:Nat}:(qI p b).length≤8:=by
 unfold qI
 split
 ·exact qAu 8
 ·simp
theorem qEv {p:Prg} {b n:Nat}:zi p b (n+1)=zi p b n++vm p b (b+n):=rfl
theorem qFE {p:Prg} {b n:Nat}:jD p b (n+1)=jD p b n++uy p b (b+1+n):=rfl
theorem wA {xs:List Int} {x:Int}:-1≤qm xs x∧qm xs x≤xs.length:=by
 unfold qm
 split
 ·rename_i i h
  have:=(List.findIdx?_eq_some_iff_findIdx_eq.1 h).1
  constructor <;> omega
 ·constructor <;> omega
theorem qJH {p:Prg} {b:Nat} {k:Blk} {x:Int} (hk:p[b]?=some k) (hk0:b=0↔k.kind=0) (hk2:k.kind=0∨k.kind=1∨k.kind=2) (h:zl p b x=3∨zl p b x=4):k.kind=1:=by
 have hka:qi p b=k.kind:=by simp [qi,hk]
 unfold zl at h
 rw [hka] at h
 split at h
 ·omega
 ·rename_i ho
  split at h
  ·omega
  ·rename_i hb
   split at h
   ·omega
   ·rename_i h2
    rcases vE (p:=p) (c:=b) (x:=x) with e|e
    ·omega
    ·have:b≠0:=by omega
     omega
def qBh (p:Prg) (b c:Nat) (x:Nat):Bool:=match p[c]? with
 | some k=>zJ p c b&&decide ((x:Int)∈k.us)&&(qz p c x != -1)&&!zJ p (qz p c x) b
 | none=>false
def qCr (p:Prg) (b:Nat):Nat→List Int:=vj fun c=>qq (qBh p b c) 8
def qBi (p:Prg) (b c:Nat) (x:Nat):Bool:=match p[c]? with
 | some k=>(c != b)&&decide ((x:Int)∈k.us)&&(qz p c x==b)
 | none=>false
def qCv (p:Prg) (b:Nat):Nat→List Int:=vj fun c=>qq (qBi p b c) 8
theorem qG2 {p:Prg} (hh:z6 p) {b o:Nat}:∀ c:Nat,c<p.length→zJ p c b=true→zJ p c o=true→b≤o→zJ p o b=true:=by
 intro c
 induction c using Nat.strongRecOn with
 | ind c ih =>
  intro hc h1 h2 hbo
  have g2:=ja h2
  by_cases e:o=c
  ·subst e;exact h1
  ·obtain⟨q,hq⟩:∃ q,p[c]?=some q:=⟨_,gE hc⟩
   obtain⟨a1,a2,a3⟩:=hh c q hq
   have a4:=a3 (by omega)
   obtain⟨m,hm⟩:∃ m:Nat,q.parent=m:=⟨q.parent.toNat,by omega⟩
   rw [jB hh (by omega) hq (by omega),hm] at h1 h2
   exact ih m (by omega) (by omega) h1 h2 hbo
theorem qBZ {p:Prg} (hh:z6 p) {b c:Nat} {k:Blk} {x:Int} (hk:p[c]?=some k) (hi:zJ p c b=true) (ho:qz p c x ≠ -1):zJ p (qz p c x) b=!decide (qz p c x<b):=by
 rcases vE (p:=p) (c:=c) (x:=x) with h|h
 ·exact absurd h ho
 ·obtain⟨o,e⟩:∃ o:Nat,qz p c x=o:=⟨(qz p c x).toNat,by omega⟩
  have h2:zJ p c o=true:=vk hh (by omega) hk e
  rw [e]
  by_cases hb:o<b
  ·rw [jU (by omega),decide_eq_false (by omega),decide_eq_true (by omega)]
   rfl
  ·rw [qG2 hh c (gS hk).1 hi h2 (by omega),decide_eq_false (by omega)]
   rfl
theorem qOZ {p:Prg} (hh:z6 p) {b:Nat} (hb:b<p.length):sorted (qCr p b p.length)=qU p b:=by
 unfold qU
 apply w4
 intro x hx
 unfold qCr zi
 rw [jF,jF]
 constructor
 ·rintro⟨c,hc,hm⟩
  obtain⟨k,hk⟩:∃ k,p[c]?=some k:=⟨_,gE hc⟩
  rw [jd] at hm
  obtain⟨_,hm⟩:=hm
  simp only [qBh,hk,Bool.and_eq_true,decide_eq_true_eq,bne_iff_ne,ne_eq,Bool.not_eq_true'] at hm
  obtain⟨⟨⟨h1,h2⟩,h3⟩,h4⟩:=hm
  have hge:=ja h1
  rw [qBZ hh hk h1 h3] at h4
  refine⟨c - b,by omega,?_⟩
  rw [show b+(c - b)=c by omega]
  simp only [vm,hk,h1,if_true,List.mem_filter,yK,Bool.and_eq_true,decide_eq_true_eq]
  refine⟨h2,?_,by simpa using h4⟩
  rcases vE (p:=p) (c:=c) (x:=(x:Int)) with h|h
  ·exact absurd h h3
  ·exact h
 ·rintro⟨n,hn,hm⟩
  have hc:b+n<p.length:=by omega
  obtain⟨k,hk⟩:∃ k,p[b+n]?=some k:=⟨_,gE hc⟩
  simp only [vm,hk] at hm
  split at hm
  ·rename_i hi
   simp only [List.mem_filter,yK,Bool.and_eq_true,decide_eq_true_eq] at hm
   obtain⟨h2,h3,h4⟩:=hm
   refine⟨b+n,hc,jd.2 ⟨hx,?_⟩⟩
   have h5:qz p (b+n) x ≠ -1:=by omega
   simp only [qBh,hk,hi,Bool.true_and,qBZ hh hk hi h5,Bool.and_eq_true,decide_eq_true_eq,bne_iff_ne,ne_eq,Bool.not_not]
   exact⟨⟨h2,h5⟩,h4⟩
  ·simp at hm
theorem qOj {p:Prg} (hh:z6 p) {b:Nat} (h0:0<b) (hb:b<p.length):sorted (qCv p b p.length)=sorted (jD p b (p.length - (b+1))):=by
 apply w4
 intro x hx
 unfold qCv jD
 rw [jF,jF]
 constructor
 ·rintro⟨c,hc,hm⟩
  obtain⟨k,hk⟩:∃ k,p[c]?=some k:=⟨_,gE hc⟩
  rw [jd] at hm
  obtain⟨_,hm⟩:=hm
  simp only [qBi,hk,Bool.and_eq_true,decide_eq_true_eq,bne_iff_ne,ne_eq,beq_iff_eq] at hm
  obtain⟨⟨h1,h2⟩,h3⟩:=hm
  have hge:=ja (vk hh h0 hk h3)
  refine⟨c - (b+1),by omega,?_⟩
  rw [show b+1+(c - (b+1))=c by omega]
  simp only [uy,hk,List.mem_filter,vI,beq_iff_eq]
  exact⟨h2,h3⟩
 ·rintro⟨n,hn,hm⟩
  have hc:b+1+n<p.length:=by omega
  obtain⟨k,hk⟩:∃ k,p[b+1+n]?=some k:=⟨_,gE hc⟩
  simp only [uy,hk,List.mem_filter,vI,beq_iff_eq] at hm
  refine⟨b+1+n,hc,jd.2 ⟨hx,?_⟩⟩
  simp only [qBi,hk,Bool.and_eq_true,decide_eq_true_eq,bne_iff_ne,ne_eq,beq_iff_eq]
  exact⟨⟨by omega,hm.1⟩,hm.2⟩
end Go.Hm
end
section
namespace Go.Hm
open Go Go.RowKit Go.ChangeShapes Go.WideShapes Go.Deep
theorem qV.rawG {P:Program} {gl:Nat→Option (List AV)} {f:FuncId} {az:List AV} {v0:Value} (h:qV P gl f az (fun _ y _=>y=.sc v0)) {W:World} {g:Gh} {args:Array Value} (hC:∀ b,g.C b→b<W.heap.size)
  (hgl:∀ i row,gl i=some row→(RV g W (.pointer (some ⟨i,0,none⟩)) (.el row 0)∧Exw W i row)∧∀ f:Nm→Option Nm,row.map (AV.tr f)=row) (hsz:args.size=az.length)
  (hargs:∀ (j:Nat) v x,args[j]?=some v→az[j]?=some x→RV g W v x):Calls P f args W fun e W'=>e=.returned v0∧Below W.heap.size W W':=by
 have hinv:Inv (qBe g noH) g.C W g noH W:=⟨rfl,rfl,rfl,Nat.le_refl _,fun _ _ _=>rfl,rfl,hC,fun _ _ e=>(by cases e),fun _ _ _ e=>(by cases e),fun _ _ _ _ _ e=>(by cases e)⟩
 refine (h.2 (.s 0) g.C W g args (fun _ _=>rfl) rfl (fun _ e=>absurd rfl e) hinv hgl hsz hargs).mono fun e w' he=>?_
 cases e with
 | returned v =>
  obtain⟨C',g',H',x,hA,hv,rfl⟩:=he
  refine⟨by rw [hv.sc_eq],hA.inv.os,hA.inv.tape,hA.inv.output,hA.inv.size,fun b hb=>hA.inv.keep b hb ?_⟩
  rintro⟨n,hn,_⟩
  exact hn rfl
 | panicked ch=>obtain⟨_,_,_,_,_,_,_,_,e⟩:=he;exact e.elim
 | outgrown=>exact he.elim
abbrev glI (g:Nat) (l:List Int):Nat→Option (List AV):=fun i=>if i=g then some (l.map iv) else none
theorem qR7 {W:World} {g:Nat} {l:List Int} (hl:0<l.length) (h:∀ i k,l[i]?=some k→W.cell? ⟨g,i,none⟩=some (.int .i64 k)) :
  ∀ i row,glI g l i=some row→(RV (g0 W) W (.pointer (some ⟨i,0,none⟩)) (.el row 0)∧Exw W i row)∧∀ f:Nm→Option Nm,row.map (AV.tr f)=row:=by
 intro i row hr
 by_cases hi:i=g
 ·subst hi
  simp only [glI,if_true,Option.some.injEq] at hr
  subst hr
  have hat:∀ j,j<(l.map iv).length→∃ k,l[j]?=some k∧(l.map iv)[j]?=some (iv k)∧W.cell? ⟨i,j,none⟩=some (.int .i64 k):=by
   intro j hj
   have hj':j<l.length:=by simpa using hj
   exact⟨l[j],gE hj',by simp [hj'],h j _ (gE hj')⟩
  refine⟨⟨?_,fun zs hz e=>?_⟩,fun f=>?_⟩
  rotate_left
  ·cases l with
   | nil=>simp at hl
   | cons a l=>cases zs with
    | nil=>exact absurd rfl hz
    | cons z zs=>simp at e
  rotate_left
  ·obtain⟨k0,_,_,hc0⟩:=hat 0 (by simpa using hl)
   have:=RV.el (g:=g0 W) (w:=W) i 0 0 (l.map iv) (fun j=>(W.cell? ⟨i,0+j,none⟩).getD undef) (qMC hc0).1 (fun j hj=>?_) (fun j hj=>?_) (fun j a ha=>?_)
   ·simpa using this
   ·obtain⟨k,_,_,hc⟩:=hat j hj
    simp [hc]
   ·obtain⟨k,_,_,hc⟩:=hat j hj
    simp [hc,Value.oneCell']
   ·have hj:j<(l.map iv).length:=(gS ha).1
    obtain⟨k,_,h2,hc⟩:=hat j hj
    rw [h2] at ha
    cases ha
    simp only [Nat.zero_add,hc,Option.getD_some]
    exact .sc _
  ·simp [AV.tr,Function.comp_def]
 ·simp [glI,hi] at hr
theorem qIM {H:Type} {enc:TypeId×Value→H} {P:Program} {w:World} {base:Nat} {spare:Nat→Bool} {held:Bool} {m n g:Nat} {t e:TypeId} {s:String} {cs:Array Value} {l:List Int} {x:List MemPlace}
  (ht:P.underlying t=some (.array n e)) (he:P.underlying e=some (.int .i64)) (hc:P.cellsOf e=1) (hg:P.globalNamed s=some g) (hv:w.var? P s=some cs)
  (h:DataW.trod enc P w base spare held m t cs.toList=some (.agg (l.map fun k=>.lit (.int .i64 k)),x)):∀ i k,l[i]?=some k→w.cell? ⟨g,i,none⟩=some (.int .i64 k):=by
 intro i k hk
 obtain⟨xs,m1,rfl,hx,hlen,hn,hel⟩:=DataW.trod_array ht h
 simp only [Prod.mk.injEq,DataW.agg.injEq] at hx
 have hil:i<l.length:=(gS hk).1
 have hxl:l.length=xs.length:=by simpa using congrArg List.length hx.1
 obtain⟨y,hy⟩:∃ y,xs[i]?=some y:=⟨_,gE (by omega)⟩
 have h0:=hel i (by omega)
 rw [hy,hc] at h0
 obtain⟨k',e1,e2,_⟩:=DataW.trod_int he h0
 have h3:=congrArg (fun z=>z[i]?) hx.1
 simp only [List.getElem?_map,hk,hy,Option.map_some,Option.some.injEq] at h3
 rw [e2] at h3
 have hkk:k'=k:=by simpa using h3.symm
 subst hkk
 rw [World.var?_cell hg hv i]
 have e3:=congrArg (fun z=>z[0]?) e1
 simp [List.getElem?_take,List.getElem?_drop] at e3
 simpa using e3
end Go.Hm
end
section
namespace Go.Hm
open Go Go.RowKit
def j9 (l:List (Int×Int)):List (List AV):=l.map fun o=>[iv o.1,iv o.2]
section
variable {l m:List (Int×Int)} {o:Int×Int} {i:Nat} {f:Nm→Option Nm}
@[simp] theorem orows_len:(j9 l).length=l.length:=by simp [j9]
@[simp] theorem orows_getE {h:i<(j9 l).length}:(j9 l)[i]=[iv (l[i]'(by simpa using h)).1,iv (l[i]'(by simpa using h)).2]:=by simp [j9]
@[simp] theorem orows_tr:(j9 l).map (fun r=>r.map (AV.tr f))=j9 l:=by simp [j9]
@[simp] theorem orows_take:(j9 l).take i=j9 (l.take i):=by simp [j9]
@[simp] theorem orows_drop:(j9 l).drop i=j9 (l.drop i):=by simp [j9]
@[simp] theorem orows_app:j9 l++j9 m=j9 (l++m):=by simp [j9]
@[simp] theorem orows_nil:j9 []=[]:=rfl
@[simp] theorem orows_cln:(j9 l).all (fun r=>r.all AV.cln)=true:=by simp [j9]
theorem qLE:∀ r∈j9 l,r.length=2:=by
 intro r hr
 obtain⟨o,_,rfl⟩:=List.mem_map.1 hr
 rfl
abbrev osl (l:List (Int×Int)):AV:=.sl 2 (j9 l)
theorem qFJ {hp:Nm→Option AO} {n:Nm} {len:Nat} (hn:hp n=some (.row 2 (j9 l))) (hl:len=l.length):Bw hp noD (.hs n 2 0 len) (osl l):=ur hn (by simp [hl]) qLE
end
def yg (p:Prg) (b:Nat) (s:Stm):List (Int×Int):=s.reads.map fun x=>zG p b x 0
def jh (s:Stm):List (Int×Int) :=
 if s.kind=0 then [(1,s.a)] else if s.kind=2 then [(14,0)] else if s.kind=3 then [(15,s.a)] else if s.kind=4 then [(16,s.a)] else if s.kind=5 then [(17,(s.reads.length:Int) - 1)]
 else if s.kind=6 then [(18,s.b)] else if s.kind=7 then [(19,0)] else if s.kind=8 then [(20,0)] else []
def kD (p:Prg) (b:Nat) (s:Stm):List (Int×Int):=if s.kind=11 then [zG p b s.to 2] else if 0≤s.kind∧s.kind≤6 then [zG p b s.to 1] else []
def vC (p:Prg) (b:Nat) (s:Stm):List (Int×Int):=(0,0)::(yg p b s++(jh s++kD p b s))
def yE (p:Prg) (b:Nat) (ss:List Stm):List (Int×Int):=ss.flatMap (vC p b)
def jO (p:Prg) (b:Nat):List (Int×Int):=match p[b]? with|some k=>yE p b k.body|none=>[]
theorem qF3 (s:Stm):(jh s).length≤1:=by
 unfold jh
 repeat' split
 all_goals simp
theorem qNl {p:Prg} {b:Nat} {s:Stm}:(kD p b s).length≤1:=by
 unfold kD
 repeat' split
 all_goals simp
theorem qKo {p:Prg} {b:Nat} {s:Stm}:(yg p b s).length≤2:=by
 have:=s.reads_len
 simpa [yg] using this
theorem qCB {p:Prg} {b:Nat} {s:Stm}:(vC p b s).length≤5:=by
 have h1:=qF3 s
 have h2:=qNl (p:=p) (b:=b) (s:=s)
 have h3:=qKo (p:=p) (b:=b) (s:=s)
 simp only [vC,List.length_cons,List.length_append]
 omega
theorem qAe {p:Prg} {b:Nat}:∀ ss:List Stm,(yE p b ss).length≤5 * ss.length
 | []=>by simp [yE]
 | s::l=>by
  have h1:=qCB (p:=p) (b:=b) (s:=s)
  have h2:=qAe (p:=p) (b:=b) l
  simp only [yE,List.flatMap_cons,List.length_append,List.length_cons] at h2 ⊢
  omega
theorem qKE {p:Prg} {b:Nat} {ss:List Stm} {s:Stm}:yE p b (ss++[s])=yE p b ss++vC p b s:=by simp [yE]
theorem qDm {p:Prg} {b:Nat} {ss:List Stm} {i:Nat} {s:Stm} (h:ss[i]?=some s):yE p b (ss.take (i+1))=yE p b (ss.take i)++vC p b s:=by
 rw [← qKE,List.take_add_one,h]
 rfl
def j7 (l:List (Int×Int)):Nat:=l.countP fun o=>o.1==0
theorem qCA {l m:List (Int×Int)}:j7 (l++m)=j7 l+j7 m:=by simp [j7]
theorem ju {xs:List Int} {x:Int} (h:x∈xs):∃ i:Nat,qm xs x=i∧i<xs.length∧xs[i]?=some x:=by
 have h0:=ze.2 h
 unfold qm at h0 ⊢
 cases hf:xs.findIdx? (·==x) with
 | none=>rw [hf] at h0;simp at h0
 | some i =>
  obtain⟨h1,h2,_⟩:=List.findIdx?_eq_some_iff_getElem.1 hf
  refine⟨i,rfl,h1,?_⟩
  rw [gE h1]
  simpa using h2
theorem kV {p:Prg} {x:Int} {b:Nat}:∀ (n:Nat) (j:Int),zF p x n j=b→∃ k,p[b]?=some k∧zZ b k x=true∧x∉k.dc 9
 | 0,_,h=>by simp only [zF] at h;omega
 | n+1,j,h=>by
  simp only [zF] at h
  split at h
  ·omega
  ·split at h
   ·omega
   ·rename_i q hq
    split at h
    ·exact kV n _ h
    ·split at h
     ·omega
     ·rename_i hd
      split at h
      ·rename_i hl
       have hj:j.toNat=b:=by omega
       rw [hj] at hq hl
       exact⟨q,hq,hl,hd⟩
      ·exact kV n _ h
theorem wd {p:Prg} {x:Int} {b c:Nat} (h:qz p c x=b):∃ k,p[b]?=some k∧zZ b k x=true∧x∉k.dc 9:=by
 unfold qz at h
 split at h
 ·rename_i k hk
  split at h
  ·omega
  ·rename_i h0
   split at h
   ·rename_i hl
    obtain rfl:c=b:=by omega
    exact⟨k,hk,hl,fun hd=>h0 (.inr hd)⟩
   ·unfold outer at h
    split at h
    ·exact kV _ _ h
    ·omega
 ·omega
theorem qD8 {p:Prg} {x:Int} {b:Nat} {k:Blk} (hk:p[b]?=some k) (hl:zZ b k x=true) (hd:x∉k.dc 9):qz p b x=b:=by
 have hb:b≠0:=by
  rintro rfl
  simp [zZ] at hl
 simp [qz,hk,hl,hd,hb]
theorem qGK {p:Prg} {x:Int} (hh:z6 p):∀ (n:Nat) (j:Int),zF p x n j=-1∨zF p x n j≤j
 | 0,_=>.inl rfl
 | n+1,j=>by
  simp only [zF]
  split
  ·exact .inl rfl
  ·split
   ·exact .inl rfl
   ·rename_i q hq
    have h1:=(hh _ q hq).2.1
    have ih:=qGK hh (x:=x) n q.parent
    split
    ·rcases ih with e|e
     ·exact .inl e
     ·exact .inr (by omega)
    ·split
     ·exact .inl rfl
     ·split
      ·exact .inr (Int.le_refl _)
      ·rcases ih with e|e
       ·exact .inl e
       ·exact .inr (by omega)
theorem qOF {p:Prg} {x:Int} {b:Nat} {k:Blk} (hh:z6 p) (hk:p[b]?=some k) (h:qz p b x≠b):qz p b x<b:=by
 unfold qz at h ⊢
 rw [hk] at h ⊢
 simp only at h ⊢
 split at h <;> rename_i h0
 ·rw [if_pos h0];omega
 ·rw [if_neg h0]
  split at h <;> rename_i h1
  ·exact absurd rfl h
  ·rw [if_neg h1]
   simp only [outer,hk]
   have h2:=(hh _ k hk).2.1
   rcases qGK hh (x:=x) b k.parent with e|e <;> omega
theorem qNf {p:Prg} {b:Nat} {x:Int}:0≤zl p b x∧zl p b x≤4:=by
 unfold zl
 repeat' split
 all_goals decide
theorem qNe {p:Prg} {b:Nat} {x:Int} (h:zl p b x=3):x∈qE p b:=by
 unfold zl at h
 split at h
 ·omega
 ·split at h
  ·omega
  ·split at h
   ·omega
   ·split at h
    ·assumption
    ·omega
theorem qIE {p:Prg} {b:Nat} {k:Blk} {x:Int} (hp:ShapeP p) (hk:p[b]?=some k) (hx:0≤x∧x≤7) (h:zl p b x=4):x∈qI p b:=by
 have hka:qi p b=k.kind:=by simp [qi,hk]
 unfold zl at h
 split at h
 ·omega
 ·rename_i h1
  split at h
  ·omega
  ·rename_i h2
   split at h
   ·omega
   ·rename_i h3
    split at h
    ·omega
    ·rename_i h4
     have ho:qz p b x=b:=by omega
     have hb:0<b:=by
      rcases vE (p:=p) (c:=b) (x:=x) with e|e <;> omega
     obtain⟨k',hk',hl,_⟩:=wd ho
     obtain rfl:k=k':=sI (hk.symm.trans hk')
     have hhd:=hp.head b k hk
     unfold jJ at hhd
     rw [if_neg (by omega)] at hhd
     have hk1:qi p b=1:=by omega
     unfold qI
     rw [if_pos hk1,uW]
     refine⟨x.toNat,by omega,?_,by omega⟩
     have e:((x.toNat:Nat):Int)=x:=by omega
     simp only [jz,hk,e,hl,h4,decide_false,Bool.not_false,Bool.and_self]
theorem qNd {p:Prg} {b:Nat} {k:Blk} {x:Int} (hp:ShapeP p) (hk:p[b]?=some k) (hu:x∈k.us) (h:zl p b x=1):x∈qU p b∧x∉qE p b:=by
 have hbl:=(gS hk).1
 have hx:0≤x∧x≤7:=by
  rw [Blk.us,mem_sorted] at hu
  exact hu.2
 unfold zl at h
 split at h
 ·omega
 ·rename_i h1
  split at h
  rotate_left
  ·split at h
   ·omega
   ·split at h <;> omega
  ·rename_i h2
   have hpos:0<qz p b x:=by
    rcases vE (p:=p) (c:=b) (x:=x) with e|e <;> omega
   have hlt:=qOF hp.heads hk h2
   refine⟨?_,fun hc=>h2 ?_⟩
   ·unfold qU zi
    rw [mem_sorted,jF]
    refine⟨⟨0,by omega,?_⟩,hx⟩
    simp only [Nat.add_zero,vm,hk,jU (Int.le_refl _),decide_true,if_true,List.mem_filter,yK,Bool.and_eq_true,decide_eq_true_eq]
    exact⟨hu,hpos,hlt⟩
   ·unfold qE at hc
    split at hc
    ·unfold jD at hc
     rw [mem_sorted,jF] at hc
     obtain⟨⟨m,_,hm⟩,_⟩:=hc
     unfold uy at hm
     split at hm
     ·rw [List.mem_filter] at hm
      have ho:qz p (b+1+m) x=b:=by simpa [vI] using hm.2
      obtain⟨k',hk',hl,hd⟩:=wd ho
      exact qD8 hk' hl hd
     ·cases hm
    ·cases hc
theorem qJe {p:Prg} {b:Nat} {k:Blk} {x w:Int} (hp:ShapeP p) (hk:p[b]?=some k) (hu:x∈k.us) :
  (zl p b x=0∧zG p b x w=(8+w,x))∨(zl p b x=2∧zG p b x w=(11+w,x)) ∨
  (zl p b x=4∧∃ i:Nat,zG p b x w=(2+w,(i:Int))∧i<(qI p b).length∧(qI p b)[i]?=some x) ∨
  (zl p b x=3∧∃ i:Nat,zG p b x w=(5+w,(i:Int))∧i<(qE p b).length∧(qE p b++qU p b)[i]?=some x) ∨
  (zl p b x=1∧∃ i:Nat,zG p b x w=(5+w,(((qE p b).length+i:Nat):Int))∧i<(qU p b).length∧(qE p b++qU p b)[(qE p b).length+i]?=some x):=by
 have hx:0≤x∧x≤7:=by
  rw [Blk.us,mem_sorted] at hu
  exact hu.2
 obtain⟨s0,s4⟩:=qNf (p:=p) (b:=b) (x:=x)
 by_cases e0:zl p b x=0
 ·exact .inl ⟨e0,by simp [zG,e0]⟩
 by_cases e2:zl p b x=2
 ·exact .inr (.inl ⟨e2,by simp [zG,e2]⟩)
 by_cases e4:zl p b x=4
 ·obtain⟨i,h1,h2,h3⟩:=ju (qIE hp hk hx e4)
  exact .inr (.inr (.inl ⟨e4,i,by simp [zG,e4,h1],h2,h3⟩))
 by_cases e3:zl p b x=3
 ·have hc:=qNe e3
  obtain⟨i,h1,h2,h3⟩:=ju hc
  exact .inr (.inr (.inr (.inl ⟨e3,i,by simp [zG,e3,vS,hc,h1],h2,by rw [List.getElem?_append_left h2];exact h3⟩)))
 have e1:zl p b x=1:=by omega
 obtain⟨hf,hc⟩:=qNd hp hk hu e1
 obtain⟨i,h1,h2,h3⟩:=ju hf
 exact .inr (.inr (.inr (.inr ⟨e1,i,by simp [zG,e1,vS,hc,h1],h2,by rw [List.getElem?_append_right (by omega)];simpa using h3⟩)))
theorem qCc {p:Prg} {b:Nat} {x w:Int} (hw:0≤w):2≤(zG p b x w).1:=by
 unfold zG
 split
 ·simp only [];omega
 ·split
  ·simp only [];omega
  ·split <;> simp only [] <;> omega
theorem qNq {k:Blk} {s:Stm} {x:Int} (hn:NmOk k) (hs:s∈k.body) (hx:x∈s.reads):x∈k.us:=by
 have h1:=hn.reads s hs x hx
 simp only [Blk.us,mem_sorted,List.mem_append,Blk.rd,zq,List.mem_flatMap]
 exact⟨.inl (.inl (.inl ⟨⟨s,hs,hx⟩,h1⟩)),h1⟩
theorem qTZ {k:Blk} {s:Stm} (hn:NmOk k) (hs:s∈k.body) (h:s.sets∨s.kind=11):s.to∈k.us:=by
 have h1:=hn.tos s hs
 simp only [Blk.us,mem_sorted,List.mem_append,Blk.bd,uv,List.mem_map,List.mem_filter,decide_eq_true_eq]
 exact⟨.inl (.inl (.inr ⟨.inr ⟨s,⟨hs,h⟩,rfl⟩,h1⟩)),h1⟩
theorem qJF {l:List (Int×Int)} (h:∀ o∈l,0<o.1):j7 l=0:=by
 simp only [j7,List.countP_eq_zero,beq_iff_eq]
 intro o ho
 have:=h o ho
 omega
theorem qDX {p:Prg} {b:Nat} {s:Stm}:∀ o∈yg p b s++(jh s++kD p b s),0<o.1:=by
 intro o ho
 simp only [List.mem_append] at ho
 rcases ho with ho|ho|ho
 ·simp only [yg,List.mem_map] at ho
  obtain⟨x,_,rfl⟩:=ho
  have:=qCc (p:=p) (b:=b) (x:=x) (w:=0) (by decide)
  omega
 ·unfold jh at ho
  repeat' split at ho
  all_goals first|(obtain rfl:=List.mem_singleton.1 ho;simp;done)|(simp at ho;done)
 ·unfold kD at ho
  split at ho
  ·obtain rfl:=List.mem_singleton.1 ho
   have:=qCc (p:=p) (b:=b) (x:=s.to) (w:=2) (by decide)
   omega
  ·split at ho
   ·obtain rfl:=List.mem_singleton.1 ho
    have:=qCc (p:=p) (b:=b) (x:=s.to) (w:=1) (by decide)
    omega
   ·cases ho
theorem qJG {p:Prg} {b:Nat} {s:Stm}:j7 (vC p b s)=1:=by
 have h:=qJF (qDX (p:=p) (b:=b) (s:=s))
 have h1:j7 (vC p b s)=j7 [((0:Int),(0:Int))]+j7 (yg p b s++(jh s++kD p b s)):=by rw [← qCA];rfl
 rw [h1,h]
 rfl
end Go.Hm
end
section
namespace Go.Hm
open Go Go.RowKit
theorem uV {l:List (Int×Int)} {x y:Int}:j9 l++[[iv x,iv y]]=j9 (l++[(x,y)]):=by simp [j9]
structure Cod where
 kind:Int
 params:List Int
 fasts:List Int
 cells:List Int
 frees:List Int
 ops:List (Int×Int)
 deriving DecidableEq,Inhabited
def kW:Cod:=⟨0,[],[],[],[],[]⟩
@[simp] theorem noCode_kind:kW.kind=0:=rfl
@[simp] theorem noCode_params:kW.params=[]:=rfl
@[simp] theorem noCode_fasts:kW.fasts=[]:=rfl
@[simp] theorem noCode_cells:kW.cells=[]:=rfl
@[simp] theorem noCode_frees:kW.frees=[]:=rfl
@[simp] theorem noCode_ops:kW.ops=[]:=rfl
def q8 (p:Prg) (b:Nat):Cod:=match p[b]? with|some k=>⟨k.kind,k.params,qI p b,qE p b,qU p b,jO p b⟩|none=>kW
def qX (p:Prg) (n:Nat):List Cod:=(List.range n).map (q8 p)
theorem qB4 {p:Prg} {n:Nat}:qX p (n+1)=qX p n++[q8 p n]:=by simp [qX,List.range_succ]
@[simp] theorem codesTo_len {p:Prg} {n:Nat}:(qX p n).length=n:=by simp [qX]
@[simp] theorem codesTo_zero {p:Prg}:qX p 0=[]:=rfl
abbrev Cod.row (c:Cod):List AV:=[iv c.kind,isl c.params,isl c.fasts,isl c.cells,isl c.frees,osl c.ops]
abbrev Cod.av (c:Cod):AV:=.agg c.row
def wR (cs:List Cod):List (List AV):=cs.map Cod.row
abbrev csl (cs:List Cod):AV:=.sl 6 (wR cs)
def Cod.own (n:Nm) (i:Nat) (c:Cod):List AV :=
 [iv c.kind,.hs (.c n i 1) 1 0 c.params.length,.hs (.c n i 2) 1 0 c.fasts.length,.hs (.c n i 3) 1 0 c.cells.length,.hs (.c n i 4) 1 0 c.frees.length,.hs (.c n i 5) 2 0 c.ops.length]
@[simp] theorem Cod.own_eq {n:Nm} {i:Nat} {c:Cod}:c.own n i=[iv c.kind,.hs (.c n i 1) 1 0 c.params.length,.hs (.c n i 2) 1 0 c.fasts.length,.hs (.c n i 3) 1 0 c.cells.length,.hs (.c n i 4) 1 0 c.frees.length,.hs (.c n i 5) 2 0 c.ops.length]:=rfl
structure OwnK (hp:Nm→Option AO) (n:Nm) (i:Nat) (c:Cod):Prop where
 params:hp (.c n i 1)=some (.row 1 (qJ c.params))
 fasts:hp (.c n i 2)=some (.row 1 (qJ c.fasts))
 cells:hp (.c n i 3)=some (.row 1 (qJ c.cells))
 frees:hp (.c n i 4)=some (.row 1 (qJ c.frees))
 ops:hp (.c n i 5)=some (.row 2 (j9 c.ops))
def jy (n:Nm) (cs:List Cod):List (List AV):=cs.mapIdx fun i c=>c.own n i
structure OwnC (hp:Nm→Option AO) (n:Nm) (cs:List Cod):Prop where
 top:hp n=some (.row 6 (jy n cs))
 each:∀ (i:Nat) c,cs[i]?=some c→OwnK hp n i c
section
variable {cs:List Cod} {i a b d l:Nat} {n q k1:Nm} {c:Cod}
@[simp] theorem kcrows_len:(wR cs).length=cs.length:=by simp [wR]
@[simp] theorem qJl:(wR cs)[i]?=(cs[i]?).map Cod.row:=by simp [wR]
@[simp] theorem kcrows_tr {f:Nm→Option Nm}:(wR cs).map (fun r=>r.map (AV.tr f))=wR cs:=by simp [wR]
@[simp] theorem kdRows_len:(jy n cs).length=cs.length:=by simp [jy]
@[simp] theorem qDe:(jy n cs)[i]?=(cs[i]?).map (fun c=>c.own n i):=by simp [jy]
@[simp] theorem kdRows_nil:jy n []=[]:=rfl
@[simp] theorem kdRows_take:(jy n cs).take cs.length=jy n cs:=List.take_of_length_le (by simp)
theorem qDf:jy n (cs++[c])=jy n cs++[c.own n cs.length]:=by simp [jy]
theorem uY {f:Nm→Option Nm} {m:Nm} (h:∀ i j,i<cs.length→f (.c n i j)=some (.c m i j)):(jy n cs).map (fun r=>r.map (AV.tr f))=jy m cs:=by
 apply List.ext_getElem?
 intro i
 simp only [List.getElem?_map,qDe,Option.map_map]
 cases hx:cs[i]? with
 | none=>rfl
 | some x=>simp [Cod.own,h i _ (gS hx).1]
@[simp] theorem kdRows_kl (h:Nm.under (.s d) n=false):(jy n cs).map (fun r=>r.map (AV.tr (kl (.s d))))=jy n cs:=uY (by simp [h])
@[simp] theorem kdRows_mv1 (h:Nm.under (.s a) n=true):(jy n cs).map (fun r=>r.map (AV.tr (mv (.s a) k1)))=jy (Nm.ren (.s a) k1 n) cs:=uY (by simp [h])
@[simp] theorem kdRows_mvc:(jy n cs).map (fun r=>r.map (AV.tr (mvc n k1)))=jy k1 cs:=by
 refine uY fun i j _=>?_
 have:Nm.c n i j≠n:=Nm.not_under_c (Nm.under_self n)
 simp [this]
@[simp] theorem kdRows_mv4 {j:Nat} (hq:(q=n)=False) (hq':Nm.under (.c q a b) n=false) (hl:cs.length≤l):(jy n cs).map (fun r=>r.map (AV.tr (mv (.c q a b) (.c n l j))))=jy n cs:=by
 have h1:¬ n=q:=fun e=>by simp [e] at hq
 have h2:Nm.under (.c n l j) n=false:=by
  cases h:Nm.under (.c n l j) n with
  | false=>rfl
  | true=>exact absurd rfl (Nm.under_not_c h).2
 refine uY fun i j hi=>?_
 have h3:¬ i=l:=by omega
 simp [h1,hq',h2,h3]
end
theorem qMN {hp:Nm→Option AO} {n:Nm} {i:Nat} {c:Cod} (h:OwnK hp n i c):∀ (j:Nat) a a',(c.own n i)[j]?=some a→c.row[j]?=some a'→Bw hp noD a a'
 | 0,a,a',ha,ha'=>by obtain rfl:=sI ha;obtain rfl:=sI ha';exact .refl _
 | 1,a,a',ha,ha'=>by obtain rfl:=sI ha;obtain rfl:=sI ha';exact yw h.params rfl
 | 2,a,a',ha,ha'=>by obtain rfl:=sI ha;obtain rfl:=sI ha';exact yw h.fasts rfl
 | 3,a,a',ha,ha'=>by obtain rfl:=sI ha;obtain rfl:=sI ha';exact yw h.cells rfl
 | 4,a,a',ha,ha'=>by obtain rfl:=sI ha;obtain rfl:=sI ha';exact yw h.frees rfl
 | 5,a,a',ha,ha'=>by obtain rfl:=sI ha;obtain rfl:=sI ha';exact qFJ h.ops rfl
 | j+6,a,a',ha,_=>by simp [Cod.own] at ha
theorem wC {hp:Nm→Option AO} {n:Nm} {i:Nat} {c:Cod} (h:OwnK hp n i c):Bw hp noD (.agg (c.own n i)) c.av:=.agg _ _ rfl (qMN h)
theorem yl {hp:Nm→Option AO} {n:Nm} {len:Nat} {cs:List Cod} (h:OwnC hp n cs) (hl:len=cs.length):Bw hp noD (.hs n 6 0 len) (csl cs):=by
 subst hl
 refine .hs n 6 0 cs.length (jy n cs) (wR cs) rfl h.top (by simp) (by simp) (by simp [wR]) fun i r r' hr hr' j a a' ha ha'=>?_
 rw [Nat.zero_add,qDe] at hr
 rw [qJl] at hr'
 obtain⟨x,hx,rfl⟩:=Option.map_eq_some_iff.1 hr
 rw [hx] at hr'
 obtain rfl:=sI hr'
 exact qMN (h.each i x hx) j a a' ha ha'
theorem OwnK.hcln {H':Nm→Option AO} {n:Nm} {i:Nat} {c:Cod} (h:OwnK H' n i c):OwnK (hcln H') n i c :=
 ⟨vA h.params (by simp),vA h.fasts (by simp),vA h.cells (by simp),vA h.frees (by simp),vA h.ops (by simp)⟩
theorem ku {l:List (Int×Int)} {i:Nat} {o:Int×Int} (h:l[i]?=some o):j7 (l.take (i+1))=j7 (l.take i)+(if o.1=0 then 1 else 0):=by
 rw [List.take_add_one,h,qCA]
 by_cases e:o.1=0 <;> simp [j7,e]
theorem qIB {l:List (Int×Int)}:j7 l≤l.length:=List.countP_le_length
theorem uh {p:Prg} {b:Nat} (hp:ShapeP p):(jO p b).length≤60:=by
 unfold jO
 split
 ·rename_i k hk
  have h1:=qAe (p:=p) (b:=b) k.body
  have h2:=hp.body k (gM hk)
  omega
 ·simp
end Go.Hm
end
