/-
  Own texts, joined by mkclaim.py: Hm35, Hm36, Hm37, Hm38, Hm39, Hm40, Hm41, Hm42, Hm43, Hm44, Hm46, Hm47, Hm48, Hm49, Hm50, Hm51, Hm52, Hm53, Hm56, Hm57, Hm58, Hm59.
-/
import Derived.Test.YtbgmnmnoaamgkaaGreatDoorC09
import Derived.Deep.Slices
import Derived.Deep.Fields
import Derived.ChangeSame
import Derived.SizedLaws
import Derived.Test.YtbgmnmnoaamgkaaGreatDoorC08
set_option linter.unusedSimpArgs false
set_option linter.unusedVariables false
set_option maxRecDepth 100000
set_option maxHeartbeats 4000000

section
namespace Go.Hm
open Go Go.RowKit
def qVX:AV:=.sc (.slice none 0 0)
def qRs:List AV:=[iv 0,iv 0,qVX,qVX]
def qM9 (n:Nm) (j:Nat) (k:Blk):List AV:=[iv k.kind,iv k.parent,.hs (.c n j 2) 1 0 k.params.length,.hs (.c n j 3) 4 0 k.body.length]
def ww (n:Nm) (p:Prg) (i:Nat):List (List AV):=p.mapIdx (fun j k=>if j<i then qM9 n j k else qRs)
structure CopP (hp:Nm→Option AO) (n:Nm) (p:Prg) (i:Nat):Prop where
 top:hp n=some (.row 4 (ww n p i))
 params:∀ (j:Nat) k,j<i→p[j]?=some k→hp (.c n j 2)=some (.row 1 (qY k.params))
 body:∀ (j:Nat) k,j<i→p[j]?=some k→hp (.c n j 3)=some (.row 4 (yE k.body))
section
variable {p:Prg} {i j a b:Nat} {n m k1:Nm} {k:Blk} {f:Nm→Option Nm}
@[simp] theorem cRows_len:(ww n p i).length=p.length:=by simp [ww]
theorem uh (hk:p[j]?=some k):(ww n p i)[j]?=some (if j<i then qM9 n j k else qRs):=by simp [ww,hk]
theorem qKB:List.replicate p.length qRs=ww n p 0:=by
 apply List.ext_getElem?
 intro j
 cases hk:p[j]? with
 | none =>
  have:=List.getElem?_eq_none_iff.1 hk
  rw [List.getElem?_eq_none (by simp;omega),List.getElem?_eq_none (by simp;omega)]
 | some k =>
  have:=(gS hk).1
  rw [uh hk]
  simp [this]
theorem qMI:ww n p p.length=yp n p:=by
 apply List.ext_getElem?
 intro j
 cases hk:p[j]? with
 | none =>
  have:=List.getElem?_eq_none_iff.1 hk
  rw [List.getElem?_eq_none (by simp;omega),List.getElem?_eq_none (by simp;omega)]
 | some k =>
  rw [uh hk,if_pos (gS hk).1,u4,hk]
  rfl
theorem qIm (h:∀ j l,j<i→f (.c n j l)=some (.c m j l)):(ww n p i).map (fun r=>r.map (AV.tr f))=ww m p i:=by
 apply List.ext_getElem?
 intro j
 rw [List.getElem?_map]
 cases hk:p[j]? with
 | none =>
  have:=List.getElem?_eq_none_iff.1 hk
  rw [List.getElem?_eq_none (by simp;omega),List.getElem?_eq_none (by simp;omega)]
  rfl
 | some k =>
  rw [uh hk,uh hk]
  by_cases e:j<i
  ·simp [e,qM9,h j _ e]
  ·simp [e,qRs,qVX]
@[simp] theorem cRows_kl {d:Nat} (h:Nm.under (.s d) n=false):(ww n p i).map (fun r=>r.map (AV.tr (kl (.s d))))=ww n p i:=qIm (by simp [h])
end
end Go.Hm
end
section

end
section
namespace Go.Hm
open Go Go.RowKit
structure Big (p:Prg):Prop where
 len:p.length≤1152921504606846976
 params:∀ k∈p,k.params.length≤1152921504606846976
 body:∀ k∈p,k.body.length≤1152921504606846976
def qFZ (k:Blk):Nat:=k.params.length+k.body.length
def wJ (p:Prg):Nat→Nat
 | 0=>p.length
 | i+1=>wJ p i+(match p[i]? with|some k=>qFZ k|none=>0)
def tot (p:Prg):Nat:=wJ p p.length
theorem ku {p:Prg}:∀ {i j:Nat},i≤j→wJ p i≤wJ p j:=by
 intro i j h
 induction h with
 | refl=>exact Nat.le_refl _
 | step _ ih=>simp only [wJ];omega
theorem qFY {p:Prg} {i:Nat} {k:Blk} (h:p[i]?=some k):wJ p (i+1)=wJ p i+qFZ k:=by simp only [wJ,h]
theorem qDy {p:Prg} (h:tot p≤1048576):Sml p:=by
 have h0:wJ p 0=p.length:=rfl
 have key:∀ k∈p,qFZ k≤1048576:=by
  intro k hk
  obtain⟨i,hi⟩:=List.getElem?_of_mem hk
  have h1:=qFY hi
  have h2:=ku (p:=p) (Nat.succ_le_of_lt (gS hi).1)
  simp only [tot] at h
  simp only [Nat.succ_eq_add_one] at h2
  omega
 refine⟨?_,fun k hk=>?_,fun k hk=>?_⟩
 ·have:=ku (p:=p) (Nat.zero_le p.length)
  simp only [tot] at h
  omega
 ·have:=key k hk
  simp only [qFZ] at this
  omega
 ·have:=key k hk
  simp only [qFZ] at this
  omega
def pre {α:Type} (z:α) (l:List α) (i:Nat):List α:=l.take i++List.replicate (l.length - i) z
section
variable {α:Type} {z x:α} {l:List α} {i:Nat}
@[simp] theorem qHV (h:i≤l.length):(pre z l i).length=l.length:=by simp [pre];omega
theorem qIN:pre z l 0=List.replicate l.length z:=by simp [pre]
theorem qKy:pre z l l.length=l:=by simp [pre]
theorem qKx (hx:l[i]?=some x):(pre z l i).set i x=pre z l (i+1):=by
 have hi:=(gS hx).1
 apply List.ext_getElem?
 intro j
 rw [List.getElem?_set,qHV (by omega)]
 by_cases e:i=j
 ·subst e
  rw [if_pos rfl,if_pos hi]
  have h1:i<(l.take (i+1)).length:=by simp;omega
  rw [pre,List.getElem?_append_left h1,List.getElem?_take,if_pos (by omega),hx]
 ·rw [if_neg e]
  by_cases h:j<i
  ·have h1:j<(l.take (i+1)).length:=by simp;omega
   have h2:j<(l.take i).length:=by simp;omega
   rw [pre,pre,List.getElem?_append_left h1,List.getElem?_append_left h2,List.getElem?_take,List.getElem?_take,if_pos h,if_pos (by omega)]
  ·have h1:(l.take (i+1)).length≤j:=by simp;omega
   have h2:(l.take i).length≤j:=by simp;omega
   rw [pre,pre,List.getElem?_append_right h1,List.getElem?_append_right h2,List.getElem?_replicate,List.getElem?_replicate]
   simp only [List.length_take]
   congr 1
   simp only [eq_iff_iff]
   omega
end
theorem qL9 {n:Nat}:List.replicate n [iv 0]=qY (List.replicate n 0):=by simp [qY]
theorem qK4 {n:Nat}:List.replicate n [iv 0,iv 0,iv 0,iv 0]=yE (List.replicate n ⟨0,0,0,0⟩):=by simp [yE]
theorem qK3 {ss:List Stm} {i:Nat} {s:Stm}:q8 (yE ss) i 0 s.cells=yE (ss.set i s):=by
 simp only [q8,yE]
 apply List.ext_getElem?
 intro j
 simp only [List.getElem?_modify,List.getElem?_map,List.getElem?_set]
 by_cases h:i=j
 ·subst h
  cases hx:ss[i]? with
  | none =>
   have:¬ i<ss.length:=fun hl=>by rw [gE hl] at hx;cases hx
   simp [this]
  | some y =>
   have:i<ss.length:=(gS hx).1
   simp [this]
 ·simp [h]
section
variable {X:Ctx} {st:St} {K:St→Prop} {E:AV→St→Prop} {ds:List (Option Nat)} {l:List Oper} {o:Oper}
theorem qOR (n0 n1:Nm) (h0:n0.isU=false∨X.ext n0=false) (h1:n1.isU=false∨X.ext n1=false) (h:qj X o K E (st.move n0 n1)):qj X o K E st :=
 fun a w Q hR hE=>h a w Q (hR.move n0 n1 h0 h1) hE
theorem qYU (n0 n1:Nm) (h0:n0.isU=false∨X.ext n0=false) (h1:n1.isU=false∨X.ext n1=false) (h:wG X ds K E (o::l) (st.move n0 n1)):wG X ds K E (o::l) st :=
 fun ops i hds hi a w Q hR hE=>h ops i hds hi a w Q (hR.move n0 n1 h0 h1) hE
theorem j6 (n0 n1:Nm) (h0:n0.isU=false∨X.ext n0=false) (h1:n1.isU=false∨X.ext n1=false) (h:qj X o (fun s=>K (s.move n0 n1)) E st):qj X o K E st:=by
 refine qj.post h ?_
 intro s a w hR hK
 exact⟨_,hR.move n0 n1 h0 h1,hK⟩
end
section
variable {p:Prg} {i a b l j:Nat} {n q k1:Nm} {k:Blk}
@[simp] theorem cRows_mv4 (hq:(q=n)=False) (hq':Nm.under (.c q a b) n=false) (hl:i≤l):(ww n p i).map (fun r=>r.map (AV.tr (mv (.c q a b) (.c n l j))))=ww n p i:=by
 have h1:¬ n=q:=fun e=>by simp [e] at hq
 have h2:Nm.under (.c n l j) n=false:=by
  cases h:Nm.under (.c n l j) n with
  | false=>rfl
  | true=>exact absurd rfl (Nm.under_not_c h).2
 refine qIm fun i' j' hi=>?_
 have h3:¬ i'=l:=by omega
 simp [h1,hq',h2,h3]
theorem qKC (hk:p[i]?=some k):q8 (ww n p i) i 0 (qM9 n i k)=ww n p (i+1):=by
 apply List.ext_getElem?
 intro j
 simp only [q8,List.getElem?_modify]
 cases hj:p[j]? with
 | none =>
  have:=List.getElem?_eq_none_iff.1 hj
  rw [List.getElem?_eq_none (by simp;omega),List.getElem?_eq_none (by simp;omega)]
  rfl
 | some q =>
  rw [uh hj,uh hj]
  by_cases e1:i=j
  ·subst e1
   rw [hk] at hj
   obtain rfl:=sI hj
   simp [qM9,qRs]
  ·by_cases e2:j<i
   ·have e3:j<i+1:=by omega
    simp [e1,e2,e3]
   ·have e3:¬ j<i+1:=by omega
    simp [e1,e2,e3]
end
theorem qu {U:Nm} (hU:U.isU=true):∀ {n:Nm},Nm.under U n=true→n.sroot=false:=by
 intro n
 induction n with
 | s d=>intro h;cases U <;> simp [Nm.isU,Nm.under] at *
 | u k i j=>intro _;rfl
 | c q i j ih =>
  intro h
  simp only [Nm.under,Bool.or_eq_true,decide_eq_true_eq] at h
  rcases h with h|h
  ·rw [← h] at hU;cases hU
  ·exact ih h
def qGU (U:Nm) (hp:Nm→Option AO):Nm→Option AO:=fun m=>if Nm.under U m then hp m else none
section
variable {X:Ctx} {st:St} {K:St→Prop} {E:AV→St→Prop} {d f:Nat} {ty:TypeId} {pos:String} {aft:Array Edge} {g:Option (Nat×Bool)} {args:Array Operand} {Ts:Array TypeId} {az:List AV} {R:Nm→AV→(Nm→Option AO)→Prop}
theorem qGm (U:Nm) (hU:U.isU=true) (hext:X.ext U=true→st.hp U≠none) (hd:d<X.n:=by first|(simp;done)|fail) (ha:args.toList.map (ev st)=az:=by simp [fx];first|done|rfl)
  (hF:FnE X.P X.gl f (Nm.under U) az (qGU U st.hp) R noE) (h:∀ y H',R (.s d) y H'→K ((st.call d (Nm.under U) (qGU U st.hp) H').put (some d) y)) :
  qj X ⟨some d,.call ⟨.value (.func f),args,Ts⟩,ty,pos,aft,g⟩ K E st:=by
 subst ha
 refine qA8 (D:=Nm.under U) (H:=qGU U st.hp) (R:=R) (E0:=noE) hF (qBm hF.1 rfl) false ⟨rfl,fun j a a' h h'=>?_⟩ (fun n hn=>?_) (fun n hn=>?_) (fun n hn=>?_) (fun k i j he=>?_) (fun e he=>by obtain rfl:=sI he;exact hd) (fun x H' hR=>?_) (fun _ _ h=>h.elim)
 ·rw [h] at h'
  obtain rfl:=sI h'
  exact .refl _
 ·cases hx:Nm.under U n with
  | false=>rfl
  | true =>
   have h1:=qu hU hx
   have h2:=Nm.sroot_under (a:=.s d) rfl hn
   rw [h1] at h2
   cases h2
 ·simp [qGU,hn]
 ·simp only [qGU] at hn
  split at hn
  ·assumption
  ·exact absurd rfl hn
 ·cases hx:Nm.under U (.u k i j) with
  | false=>exact .inl rfl
  | true =>
   right
   have:Nm.u k i j=U:=by cases U <;> simp [Nm.isU,Nm.under] at * <;> exact⟨hx.1,hx.2.1,hx.2.2⟩
   simp only [qGU,hx,if_true]
   rw [this] at he ⊢
   exact hext he
 ·exact h x H' hR
end
section
variable {st:St} {d t:Nat} {D:Nm→Bool} {H H':Nm→Option AO} {m:Nm}
@[simp] theorem call_tm:(st.call d D H H').tm t=(st.tm t).tr (cf d D H):=rfl
@[simp] theorem call_gl:(st.call d D H H').gl=st.gl:=rfl
@[simp] theorem call_hp:(st.call d D H H').hp m=if D m||Nm.under (.s d) m then H' m else (st.hp m).map (AO.tr (cf d D H)):=rfl
@[simp] theorem cf_eq:cf d D H m=if Nm.under (.s d) m then none else if D m then (if m.isU&&(H m).isSome then some m else none) else some m:=rfl
@[simp] theorem hsub_eq {U:Nm} {hp:Nm→Option AO}:qGU U hp m=if Nm.under U m then hp m else none:=rfl
end
end Go.Hm
end
section
namespace Go.Hm
open Go Go.RowKit
theorem AV.tr_tr (f g:Nm→Option Nm) (a:AV):(a.tr f).tr g=a.tr (fun m=>(f m).bind g):=by
 refine AV.rec (motive_1:=fun a=>(a.tr f).tr g=a.tr (fun m=>(f m).bind g)) (motive_2:=fun l=>qM5 g (qM5 f l)=qM5 (fun m=>(f m).bind g) l) (motive_3:=fun l=>trL g (trL f l)=trL (fun m=>(f m).bind g) l) ?_ ?_ ?_ ?_ ?_ ?_ ?_ ?_ ?_ ?_ ?_ ?_ ?_ ?_ ?_ ?_ a
 all_goals intros
 all_goals simp only [AV.tr,trL,qM5, *]
 all_goals (split <;> simp_all [AV.tr])
theorem AO.tr_tr (f g:Nm→Option Nm) (o:AO):(o.tr f).tr g=o.tr (fun m=>(f m).bind g):=by
 have h:AV.tr g∘AV.tr f=AV.tr (fun m=>(f m).bind g):=funext fun a=>AV.tr_tr f g a
 cases o with
 | row z rows=>simp [AO.tr,h]
 | map es=>simp [AO.tr,AV.tr_tr]
 | trow T z ex rows=>simp [AO.tr,h]
def rtf (N V:Nm) (d:Nat) (m:Nm):Option Nm:=if Nm.under N m then (if m=N then some N else none) else if Nm.under V m then none else if Nm.under (.s d) m then none else some m
def St.mutc (st:St) (N V:Nm) (d:Nat) (H':Nm→Option AO):St :=
 { tm:=fun t=>(st.tm t).tr (rtf N V d),
   hp:=fun m=>if Nm.under N m then (if mv V N (Nm.ren N V m)=some m then (H' (Nm.ren N V m)).map (AO.tr (mv V N)) else none) else if Nm.under V m then none else if Nm.under (.s d) m then (H' m).map (AO.tr (mv V N)) else (st.hp m).map (AO.tr (rtf N V d)),
   n:=st.n,gl:=st.gl }
section
variable {st:St} {N V m:Nm} {d t:Nat} {H':Nm→Option AO}
@[simp] theorem rtf_eq:rtf N V d m=if Nm.under N m then (if m=N then some N else none) else if Nm.under V m then none else if Nm.under (.s d) m then none else some m:=rfl
@[simp] theorem mutc_tm:(st.mutc N V d H').tm t=(st.tm t).tr (rtf N V d):=rfl
@[simp] theorem mutc_gl:(st.mutc N V d H').gl=st.gl:=rfl
@[simp] theorem mutc_hp:(st.mutc N V d H').hp m=if Nm.under N m then (if mv V N (Nm.ren N V m)=some m then (H' (Nm.ren N V m)).map (AO.tr (mv V N)) else none) else if Nm.under V m then none else if Nm.under (.s d) m then (H' m).map (AO.tr (mv V N)) else (st.hp m).map (AO.tr (rtf N V d)):=rfl
end
theorem qKl {N V:Nm} {x:Nm} (h:Nm.under N x=true) (hne:x≠N):(Nm.ren N V x).isU=false:=by
 cases x with
 | s d=>simp [Nm.under] at h;exact absurd h hne
 | u a b c=>simp [Nm.under] at h;exact absurd h hne
 | c q i j=>simp [Nm.ren,hne]
theorem qFX {V n:Nm} {d:Nat} (hV:V.isU=true) (h:Nm.under V n=true):Nm.under (.s d) n=false:=by
 cases hx:Nm.under (.s d) n with
 | false=>rfl
 | true =>
  have h1:=qu hV h
  have h2:=Nm.sroot_under (a:=.s d) rfl hx
  rw [h1] at h2
  cases h2
theorem qNv {N V:Nm} {d:Nat} {Hs:Nm→Option AO} (hV:V.isU=true) (hNV:Nm.under V N=false) (hs:(Hs V).isSome=true):(fun m=>((mv N V m).bind (cf d (Nm.under V) Hs)).bind (mv V N))=rtf N V d:=by
 funext x
 by_cases hx:Nm.under N x=true
 ·have hu:Nm.under V (Nm.ren N V x)=true:=Nm.under_ren x hx
  have hsd:=qFX (d:=d) hV hu
  by_cases e:x=N
  ·subst e
   simp [hV,hs,Nm.under_self,hsd] at hsd ⊢
   simp [hsd]
  ·have:=qKl (V:=V) hx e
   simp [hx,hu,hsd,this,e]
 ·simp only [Bool.not_eq_true] at hx
  by_cases hv:Nm.under V x=true
  ·simp [hx,hv]
  ·simp only [Bool.not_eq_true] at hv
   by_cases hd:Nm.under (.s d) x=true
   ·simp [hx,hv,hd]
   ·simp only [Bool.not_eq_true] at hd
    simp [hx,hv,hd]
theorem qRQ {st:St} {N V:Nm} {d:Nat} {H':Nm→Option AO} {y:AV} (hV:V.isU=true) (hNV:Nm.under V N=false) (hs:(qGU V (st.move N V).hp V).isSome=true) :
  (((st.move N V).call d (Nm.under V) (qGU V (st.move N V).hp) H').put (some d) y).move V N=(st.mutc N V d H').put (some d) (y.tr (mv V N)):=by
 have hc:=qNv (N:=N) (d:=d) hV hNV hs
 have e1:∀ a:AV,((a.tr (mv N V)).tr (cf d (Nm.under V) (qGU V (st.move N V).hp))).tr (mv V N)=a.tr (rtf N V d):=by
  intro a
  rw [AV.tr_tr (mv N V),AV.tr_tr,← hc]
 have e2:∀ o:AO,((o.tr (mv N V)).tr (cf d (Nm.under V) (qGU V (st.move N V).hp))).tr (mv V N)=o.tr (rtf N V d):=by
  intro o
  rw [AO.tr_tr (mv N V),AO.tr_tr,← hc]
 unfold St.move
 simp only [St.nm,St.put,St.mutc]
 congr 1
 ·funext t
  by_cases h:t=d
  ·simp [h]
  ·simp only [h,if_false]
   exact e1 _
 ·funext m
  simp only [hmv]
  by_cases h1:Nm.under N m=true
  ·rw [if_pos h1,if_pos h1]
   have hu:Nm.under V (Nm.ren N V m)=true:=Nm.under_ren m h1
   simp only [St.call,St.nm,hu,Bool.true_or,if_true]
  ·simp only [Bool.not_eq_true] at h1
   simp only [h1,Bool.false_eq_true,if_false]
   by_cases h2:Nm.under V m=true
   ·simp only [h2,if_true]
   ·simp only [Bool.not_eq_true] at h2
    simp only [h2,Bool.false_eq_true,if_false,St.call,St.nm,Bool.false_or]
    by_cases h3:Nm.under (.s d) m=true
    ·simp only [h3,if_true]
    ·simp only [Bool.not_eq_true] at h3
     simp only [h3,Bool.false_eq_true,if_false,St.nm,St.move,hmv,h2,h1]
     cases st.hp m with
     | none=>rfl
     | some o=>simp only [Option.map_some];exact congrArg some (e2 o)
section
variable {X:Ctx} {st:St} {K:St→Prop} {E:AV→St→Prop} {d f:Nat} {ty:TypeId} {pos:String} {aft:Array Edge} {g:Option (Nat×Bool)} {args:Array Operand} {Ts:Array TypeId} {az:List AV} {R:Nm→AV→(Nm→Option AO)→Prop}
theorem qBH (N V:Nm) (hV:V.isU=true:=by rfl) (hN:N.isU=false:=by rfl) (hNV:Nm.under V N=false:=by first|(simp;done)|fail) (hext:X.ext V=false) (hs:(qGU V (st.move N V).hp V).isSome=true) (hd:d<X.n:=by first|(simp;done)|fail)
  (ha:args.toList.map (ev (st.move N V))=az:=by simp [fx];first|done|rfl)
  (hF:FnE X.P X.gl f (Nm.under V) az (qGU V (st.move N V).hp) R noE) (h:∀ y H',R (.s d) y H'→K ((st.mutc N V d H').put (some d) (y.tr (mv V N)))) :
  qj X ⟨some d,.call ⟨.value (.func f),args,Ts⟩,ty,pos,aft,g⟩ K E st:=by
 refine qOR N V (.inl hN) (.inr hext) (j6 V N (.inr hext) (.inl hN) ?_)
 refine qGm V hV (fun e=>by rw [hext] at e;cases e) hd ha hF fun y H' hR=>?_
 rw [qRQ hV hNV hs]
 exact h y H' hR
end
section
variable {p:Prg} {n:Nm} {i l d a b e:Nat}
@[simp] theorem pRows_rtf (hV:Nm.under (.u a b e) n=false) (hd:Nm.under (.s d) n=false):(yp n p).map (fun r=>r.map (AV.tr (rtf (.c n i l) (.u a b e) d)))=yp n p:=by
 have hN:Nm.under (.c n i l) n=false:=by
  cases h:Nm.under (.c n i l) n with
  | false=>rfl
  | true=>exact absurd rfl (Nm.under_not_c h).2
 refine vA fun i' j' _=>?_
 by_cases h:i'=i∧j'=l
 ·simp [h.1,h.2]
 ·simp [hN,hV,hd,h]
@[simp] theorem pRows_mvself {m:Nm}:(yp n p).map (fun r=>r.map (AV.tr (mv n m)))=yp m p:=vA (by simp)
end
def kg (n:Nat) (c:Int):List Int:=(List.range n).map (fun i:Nat=>c+i)
def qB9 (n:Nat) (c:Int):List Stm:=(List.range n).map (fun i:Nat=>⟨c+4 * i,c+4 * i+1,c+4 * i+2,c+4 * i+3⟩)
def qUz (k:Blk):Nat:=2+k.params.length+4 * k.body.length
def uA (p:Prg):Nat→Nat
 | 0=>0
 | i+1=>uA p i+(match p[i]? with|some k=>qUz k|none=>0)
def cnt (p:Prg):Nat:=uA p p.length
def uV (k:Blk) (c:Int):Blk:=⟨c,c+1,kg k.params.length (c+2),qB9 k.body.length (c+2+k.params.length)⟩
def uG (p:Prg) (c:Int) (i:Nat):Prg:=p.mapIdx (fun j k=>if j<i then uV k (c+uA p j) else k)
def qOW (p:Prg) (c:Int):Prg:=uG p c p.length
section
variable {p:Prg} {c:Int} {i j:Nat} {k:Blk} {n:Nm}
@[simp] theorem qGM {n:Nat}:(kg n c).length=n:=by simp [kg]
@[simp] theorem qLW {n:Nat}:(qB9 n c).length=n:=by simp [qB9]
theorem qLz (h:p[i]?=some k):uA p (i+1)=uA p i+qUz k:=by simp only [uA,h]
theorem qEx (hs:Sml p) (i:Nat):uA p i≤5242882 * i:=by
 induction i with
 | zero=>exact Nat.zero_le _
 | succ i ih =>
  have h1:uA p (i+1)≤uA p i+5242882:=by
   simp only [uA]
   cases h:p[i]? with
   | none=>simp only;omega
   | some k =>
    have h1:=(hs.bsm h).params
    have h2:=(hs.bsm h).body
    simp only [qUz]
    omega
  omega
@[simp] theorem markTo_len:(uG p c i).length=p.length:=by simp [uG]
theorem y5 (h:p[j]?=some k):(uG p c i)[j]?=some (if j<i then uV k (c+uA p j) else k):=by simp [uG,h]
theorem qH1:uG p c 0=p:=by
 apply List.ext_getElem?
 intro j
 cases h:p[j]? with
 | none =>
  rw [List.getElem?_eq_none_iff] at h ⊢
  simpa using h
 | some k=>rw [y5 h];simp
theorem qLY {xs:List Int} (h:i<xs.length):(kg i c++xs.drop i).set i (c+i)=kg (i+1) c++xs.drop (i+1):=by
 rw [List.set_append_right _ _ (by simp)]
 simp only [qGM,Nat.sub_self]
 rw [List.drop_eq_getElem_cons h,List.set_cons_zero]
 simp [kg,List.range_succ]
theorem qLV {xs:List Stm} (h:i<xs.length):(qB9 i c++xs.drop i).set i ⟨c+4 * i,c+4 * i+1,c+4 * i+2,c+4 * i+3⟩=qB9 (i+1) c++xs.drop (i+1):=by
 rw [List.set_append_right _ _ (by simp)]
 simp only [qLW,Nat.sub_self]
 rw [List.drop_eq_getElem_cons h,List.set_cons_zero]
 simp [qB9,List.range_succ]
@[simp] theorem rowsSet_len {rows:List (List AV)} {off:Nat} {vals:List AV}:(q8 rows i off vals).length=rows.length:=by simp [q8]
theorem qJD {L:List Stm} {a b d e:Int} (h:i<L.length):q8 (q8 (q8 (q8 (yE L) i 0 [iv a]) i 1 [iv b]) i 2 [iv d]) i 3 [iv e]=yE (L.set i ⟨a,b,d,e⟩):=by
 apply List.ext_getElem?
 intro j
 simp only [q8,List.getElem?_modify,qK5,List.getElem?_set]
 by_cases e1:i=j
 ·subst e1
  have:L[i]?=some L[i]:=gE h
  simp [h]
 ·simp [e1]
def qHE (q:Prg) (i:Nat) (a b:Int):Prg:=q.modify i (fun k=>{ k with kind:=a,parent:=b })
theorem qHX {q:Prg} {a b:Int}:q8 (q8 (yp n q) i 0 [iv a]) i 1 [iv b]=yp n (qHE q i a b):=by
 apply List.ext_getElem?
 intro j
 simp only [q8,List.getElem?_modify,u4,qHE]
 cases h:q[j]? with
 | none=>simp
 | some k =>
  by_cases e1:i=j <;> simp [e1]
theorem qKb {q:Prg} {a b:Int} (h:q[j]?=some k):(qHE q i a b)[j]?=some (if i=j then { k with kind:=a,parent:=b } else k):=by
 simp only [qHE,List.getElem?_modify,h]
 by_cases e:i=j <;> simp [e]
@[simp] theorem setKP_len {q:Prg} {a b:Int}:(qHE q i a b).length=q.length:=by simp [qHE]
theorem qHY {q q':Prg} (hl:q.length=q'.length) (h:∀ (j:Nat) k k',q[j]?=some k→q'[j]?=some k'→k.kind=k'.kind∧k.parent=k'.parent∧k.params.length=k'.params.length∧k.body.length=k'.body.length):yp n q=yp n q':=by
 apply List.ext_getElem?
 intro j
 rw [u4,u4]
 cases hj:q[j]? with
 | none =>
  have:q'[j]?=none:=by
   rw [List.getElem?_eq_none_iff] at hj ⊢
   omega
  rw [this]
 | some k =>
  obtain⟨k',hk'⟩:∃ k',q'[j]?=some k':=⟨_,gE (by rw [← hl];exact (gS hj).1)⟩
  rw [hk']
  obtain⟨h1,h2,h3,h4⟩:=h j k k' hj hk'
  simp [h1,h2,h3,h4]
theorem qJ9 (hk:p[i]?=some k):yp n (qHE (uG p c i) i (c+uA p i) (c+uA p i+1))=yp n (uG p c (i+1)):=by
 refine qHY (by simp) fun j a b ha hb=>?_
 have hj:j<p.length:=by have:=(gS hb).1;simpa using this
 obtain⟨q,hq⟩:∃ q,p[j]?=some q:=⟨_,gE hj⟩
 rw [qKb (y5 hq)] at ha
 rw [y5 hq] at hb
 obtain rfl:=sI ha
 obtain rfl:=sI hb
 by_cases e:i=j
 ·subst e
  simp [uV]
 ·by_cases e2:j<i
  ·have e3:j<i+1:=by omega
   simp [e,e2,e3]
  ·have e3:¬ j<i+1:=by omega
   simp [e,e2,e3]
end
theorem qAY {p:Prg} {c:Int} {i j:Nat} {r:Blk} (h:(uG p c i)[j]?=some r):∃ k,p[j]?=some k∧r=if j<i then uV k (c+uA p j) else k:=by
 have hj:j<p.length:=by have:=(gS h).1;simpa using this
 obtain⟨q,hq⟩:∃ q,p[j]?=some q:=⟨_,gE hj⟩
 rw [y5 hq] at h
 exact⟨q,hq,(sI h).symm⟩
section
variable {X:Ctx} {st:St} {K:St→Prop} {E:AV→St→Prop}
theorem yg {o:Oper} (F:St→Prop) (h:F st) (k:∀ s,F s→qj X o K E s):qj X o K E st:=k st h
theorem qKh {ds:List (Option Nat)} {l:List Oper} (F:St→Prop) (h:F st) (k:∀ s,F s→wG X ds K E l s):wG X ds K E l st:=k st h
theorem vH {c:Code} {Q:Ex→St→Prop} (F:St→Prop) (h:F st) (k:∀ s,F s→qa X c Q s):qa X c Q st:=k st h
end
end Go.Hm
end
section
namespace Go.Hm
open Go Go.RowKit Go.ChangeShapes Go.WideShapes Go.Deep
def g0 (w:World):Gh:={ C:=fun b=>b<w.heap.size,φ:=fun _=>none,κ:=fun _=>0 }
def uB {H:Type} (enc:TypeId×Value→H) (P:Program) (w:World) {α:Type} (t:TypeId) (cells:α→List AV) (Ok:α→Prop):Prop :=
 ∀ (n:Nat) (cs:List Value) (y:DataW H×List MemPlace),DataW.trod enc P w 0 (fun _=>true) true n t cs=some y→(∀ m∈y.1.weights P t,m≤reachBytes) →
  ∃ x:α,Ok x∧(cells x).length=cs.length∧∀ (j:Nat) v a,cs[j]?=some v→(cells x)[j]?=some a→RV (g0 w) w v a∧v.oneCell'=true
theorem qAE {H:Type} {P:Program} {e:TypeId} {d:DataW H}:∀ {l:List (DataW H)},d∈l→∀ m∈d.weights P e,m∈DataW.weightsAll P e l
 | x::l,h,m,hm=>by
  simp only [DataW.weightsAll,List.mem_append]
  rcases List.mem_cons.1 h with rfl|h
  ·exact .inl hm
  ·exact .inr (qAE h m hm)
theorem qMA {w:World} {a:Addr} {v:Value} (h:w.cell? a=some v):a.block<w.heap.size∧a.spot=none:=by
 unfold World.cell? at h
 split at h
 ·rename_i c t fr hb
  refine⟨(Array.getElem?_eq_some_iff.1 hb).1,?_⟩
  split at h
  ·cases h
  ·rename_i hs
   cases hsp:a.spot with
   | none=>rfl
   | some _=>simp [hsp] at hs
 ·cases h
theorem qGj {a:Addr} (h:a.spot=none) (n:Nat):a.add n=⟨a.block,a.off+n,none⟩:=by
 obtain⟨b,o,s⟩:=a
 obtain rfl:s=none:=h
 unfold Addr.add
 split
 ·simp_all
 ·rfl
section
variable {H:Type} {enc:TypeId×Value→H} {P:Program} {w:World}
theorem qUM {t:TypeId} (ht:P.underlying t=some (.int .i64)):uB enc P w t (fun k:Int=>[iv k]) (fun k=>-9223372036854775808≤k∧k≤9223372036854775807):=by
 intro n cs y h _
 obtain⟨k,rfl,_,hw⟩:=DataW.trod_int ht h
 refine⟨k,by simpa [Lit.wf,IntKind.min,IntKind.max,IntKind.signed,IntKind.bits] using hw,rfl,fun j v a hv ha=>?_⟩
 cases j with
 | zero =>
  simp at hv ha
  subst hv;subst ha
  exact⟨.sc _,rfl⟩
 | succ j=>simp at hv
theorem qEP {t e:TypeId} {z:Nat} {α:Type} [Inhabited α] {cells:α→List AV} {Ok:α→Prop} (ht:P.underlying t=some (.slice e)) (hc:P.cellsOf e=z) (hz:0<z) (hby:0<P.bytesOf e) (hlen:∀ x,(cells x).length=z)
  (hr:uB enc P w e cells Ok):uB enc P w t (fun xs:List α=>[.sl z (xs.map cells)]) (fun xs=>xs.length≤1152921504606846976∧∀ x∈xs,Ok x):=by
 intro n cs y h hw
 rcases open_slice ht h with⟨rfl,rfl⟩|⟨a,len,cap,m,n',D,Pl,rfl,_,hl,_,hm,rfl,hi⟩
 ·refine⟨[],⟨by simp,by simp⟩,rfl,fun j v x hv hx=>?_⟩
  cases j with
  | zero =>
   simp at hv hx
   subst hv;subst hx
   exact⟨.slN _ _ _,rfl⟩
  | succ j=>simp at hv
 ·simp only [if_true] at hm
  subst hm
  have hw0:=hw (((List.map D (List.range len)).length+(List.map (fun j=>D (len+j)) (List.range (m - len))).length) * P.bytesOf e) (by simp [DataW.weights,ht])
  have hll:len≤1152921504606846976:=by
   simp only [List.length_map,List.length_range,reachBytes] at hw0
   have:len * 1≤(len+(m - len)) * P.bytesOf e:=Nat.mul_le_mul (by omega) hby
   omega
  have hel:∀ i,i<len→∃ x:α,Ok x∧∀ j,j<z→∃ v aa,w.cell? ((a.add (i * z)).add j)=some v∧(cells x)[j]?=some aa∧RV (g0 w) w v aa∧v.oneCell'=true:=by
   intro i hil
   obtain⟨cs',h1,h2⟩:=hi i (by omega)
   rw [hc] at h1
   obtain⟨_,hcl,hat⟩:=World.cells?_some h1
   obtain⟨x,hx,hxl,hxr⟩:=hr n' cs' _ h2 (fun q hq=>hw q (by
    simp only [DataW.weights,ht,List.mem_cons,List.mem_append]
    exact .inr (.inl (qAE (List.mem_map.2 ⟨i,List.mem_range.2 hil,rfl⟩) q hq))))
   refine⟨x,hx,fun j hj=>?_⟩
   have e1:=hat j hj
   have e2:cs'[j]?=some (cs'[j]'(by omega)):=gE (by omega)
   have e3:(cells x)[j]?=some ((cells x)[j]'(by rw [hlen];exact hj)):=gE (by rw [hlen];exact hj)
   obtain⟨r1,r2⟩:=hxr j _ _ e2 e3
   exact⟨_,_,e1.trans e2,e3,r1,r2⟩
  obtain⟨X,hX⟩:=choose_lt hel
  have hav:∀ i,i<len→(List.map X (List.range len))[i]?=some (X i):=by
   intro i hi
   simp [hi]
  refine⟨(List.range len).map X,⟨by simpa using hll,?_⟩,rfl,fun j v x hv hx=>?_⟩
  ·intro x hx
   obtain⟨i,hi,rfl⟩:=List.mem_map.1 hx
   exact (hX i (List.mem_range.1 hi)).1
  ·cases j with
   | succ j=>simp at hv
   | zero =>
    simp only [List.getElem?_cons_zero,Option.some.injEq] at hv hx
    subst hv;subst hx
    refine⟨?_,rfl⟩
    rcases Nat.eq_zero_or_pos len with rfl|hpos
    ·exact .slN _ _ _
    ·obtain⟨v0,_,hc0,_⟩:=(hX 0 hpos).2 0 hz
     obtain⟨hb,hsp⟩:=qMA hc0
     rw [Nat.zero_mul] at hb hsp
     have ha0:(a.add 0).add 0=a:=by simp [Addr.add]
     rw [ha0] at hb hsp
     obtain⟨b,off,s⟩:=a
     obtain rfl:s=none:=hsp
     have hcell:∀ i j,(((⟨b,off,none⟩:Addr).add (i * z)).add j)=⟨b,off+i * z+j,none⟩:=by
      intro i j
      rw [qGj (a:=⟨b,off,none⟩) rfl,qGj rfl]
     refine .slC b off m len z _ (fun i j=>(w.cell? ⟨b,off+i * z+j,none⟩).getD undef) hb (by simp) hl ?_ ?_ ?_ ?_
     ·intro r hr'
      obtain⟨x,hx,rfl⟩:=List.mem_map.1 hr'
      exact hlen x
     ·intro i j hi hj
      obtain⟨v,_,h1,_⟩:=(hX i hi).2 j hj
      rw [hcell] at h1
      simp [h1]
     ·intro i j hi hj
      obtain⟨v,_,h1,_,_,h2⟩:=(hX i hi).2 j hj
      rw [hcell] at h1
      simpa [h1] using h2
     ·intro i row hrow j aa haa
      have hil:i<len:=by
       have:=(gS hrow).1
       simpa using this
      simp [hil] at hrow
      subst hrow
      have hjz:j<z:=by
       have:=(gS haa).1
       rwa [hlen] at this
      obtain⟨v,a',h1,h2,h3,_⟩:=(hX i hil).2 j hjz
      rw [hcell] at h1
      rw [haa] at h2
      cases h2
      simpa [h1] using h3
theorem qD1 {t:TypeId} {f0 f1 f2 f3:Field} {α β γ δ τ:Type} {c0:α→AV} {c1:β→AV} {c2:γ→AV} {c3:δ→AV} {O0:α→Prop} {O1:β→Prop} {O2:γ→Prop} {O3:δ→Prop} {cells:τ→List AV} {Ok:τ→Prop}
  (ht:P.underlying t=some (.struct #[f0,f1,f2,f3])) (hone:oneCellFields P #[f0,f1,f2,f3]=true) (hC:P.cellsOf t=4) (mk:α→β→γ→δ→τ) (hm:∀ a b c d,cells (mk a b c d)=[c0 a,c1 b,c2 c,c3 d]) (hok:∀ a b c d,O0 a→O1 b→O2 c→O3 d→Ok (mk a b c d))
  (h0:uB enc P w f0.type (fun x=>[c0 x]) O0) (h1:uB enc P w f1.type (fun x=>[c1 x]) O1) (h2:uB enc P w f2.type (fun x=>[c2 x]) O2) (h3:uB enc P w f3.type (fun x=>[c3 x]) O3):uB enc P w t cells Ok:=by
 intro n cs y h hw
 obtain⟨xs,n',rfl,rfl,hl,hlen,hf⟩:=DataW.trod_struct ht h
 rw [hC] at hl
 match cs,hl with
 | [v0,v1,v2,v3],_ =>
  match xs,hlen with
  | [y0,y1,y2,y3],_ =>
   obtain⟨o0,k0⟩:=hone_of hone 0 f0 rfl
   obtain⟨o1,k1⟩:=hone_of hone 1 f1 rfl
   obtain⟨o2,k2⟩:=hone_of hone 2 f2 rfl
   obtain⟨o3,k3⟩:=hone_of hone 3 f3 rfl
   have e0:=hf 0 f0 rfl
   have e1:=hf 1 f1 rfl
   have e2:=hf 2 f2 rfl
   have e3:=hf 3 f3 rfl
   simp [o0,k0] at e0
   simp [o1,k1] at e1
   simp [o2,k2] at e2
   simp [o3,k3] at e3
   simp only [DataW.weights,ht,List.map_cons,List.map_nil,DataW.weightsEach,List.mem_append,List.append_nil] at hw
   obtain⟨a,ha,_,ra⟩:=h0 _ _ _ e0 fun q hq=>hw q (.inl hq)
   obtain⟨b,hb,_,rb⟩:=h1 _ _ _ e1 fun q hq=>hw q (.inr (.inl hq))
   obtain⟨c,hc,_,rc⟩:=h2 _ _ _ e2 fun q hq=>hw q (.inr (.inr (.inl hq)))
   obtain⟨d,hd,_,rd⟩:=h3 _ _ _ e3 fun q hq=>hw q (.inr (.inr (.inr hq)))
   refine⟨mk a b c d,hok _ _ _ _ ha hb hc hd,by rw [hm];rfl,fun j v x hv hx=>?_⟩
   rw [hm] at hx
   match j,hv,hx with
   | 0,hv,hx=>simp at hv hx;subst hv;subst hx;exact ra 0 _ _ rfl rfl
   | 1,hv,hx=>simp at hv hx;subst hv;subst hx;exact rb 0 _ _ rfl rfl
   | 2,hv,hx=>simp at hv hx;subst hv;subst hx;exact rc 0 _ _ rfl rfl
   | 3,hv,hx=>simp at hv hx;subst hv;subst hx;exact rd 0 _ _ rfl rfl
   | j+4,hv,hx=>simp at hv
theorem qJZ {t:TypeId} {f0:Field} {α:Type} {c0:α→AV} {Ok:α→Prop} {r:Reach} {b0:Nat} {v:Value} {d:DataW H} {p:List MemPlace}
  (ht:P.underlying t=some (.struct #[f0])) (hone:oneCellFields P #[f0]=true) (hC:P.cellsOf t=1) (h0:uB enc P w f0.type (fun x=>[c0 x]) Ok)
  (hv:Value.okWide P w r b0 t v) (h:DataW.Trod enc P w 0 (fun _=>true) true t v d p) (hw:∀ m∈d.weights P t,m≤reachBytes):∃ x:α,Ok x∧RV (g0 w) w v (.agg [c0 x]):=by
 obtain⟨cs,rfl,hsz⟩:=okWide_struct ht hv
 obtain⟨l⟩:=cs
 match l,hsz.trans hC with
 | [v0],_ =>
  obtain⟨fuel,hf⟩:=h
  obtain⟨xs,n,_,hx,_,hlen,hg⟩:=DataW.trod_struct ht hf
  match xs,hlen with
  | [y0],_ =>
   obtain⟨o0,k0⟩:=hone_of hone 0 f0 rfl
   have e0:=hg 0 f0 rfl
   simp [Value.cells,o0,k0] at e0
   simp only [Prod.mk.injEq] at hx
   rw [hx.1] at hw
   simp only [DataW.weights,ht,List.map_cons,List.map_nil,DataW.weightsEach,List.append_nil] at hw
   obtain⟨x,hxo,_,rx⟩:=h0 _ _ _ e0 fun q hq=>hw q hq
   refine⟨x,hxo,.agg [v0] [c0 x] rfl fun j u a hu ha=>?_⟩
   match j,hu,ha with
   | 0,hu,ha=>simp at hu ha;subst hu;subst ha;exact (rx 0 _ _ rfl rfl).1
   | j+1,hu,ha=>simp at hu
end
section
variable {H:Type} {enc:TypeId×Value→H} {P:Program} {w:World}
theorem qQk {tI tP tB tL tK tS:TypeId} {b0 b1 b2 b3 s0 s1 s2 s3 pf:Field} {tp:TypeId} (hI:P.underlying tI=some (.int .i64)) (hIc:P.cellsOf tI=1) (hIb:0<P.bytesOf tI)
  (hS:P.underlying tS=some (.struct #[s0,s1,s2,s3])) (hSo:oneCellFields P #[s0,s1,s2,s3]=true) (hSc:P.cellsOf tS=4) (hSb:0<P.bytesOf tS) (hS0:s0.type=tI) (hS1:s1.type=tI) (hS2:s2.type=tI) (hS3:s3.type=tI)
  (hL:P.underlying tL=some (.slice tI)) (hB:P.underlying tB=some (.slice tS))
  (hK:P.underlying tK=some (.struct #[b0,b1,b2,b3])) (hKo:oneCellFields P #[b0,b1,b2,b3]=true) (hKc:P.cellsOf tK=4) (hKb:0<P.bytesOf tK) (hK0:b0.type=tI) (hK1:b1.type=tI) (hK2:b2.type=tL) (hK3:b3.type=tB)
  (hP:P.underlying tP=some (.slice tK)) (htp:P.underlying tp=some (.struct #[pf])) (hpo:oneCellFields P #[pf]=true) (hpc:P.cellsOf tp=1) (hpt:pf.type=tP)
  {r:Reach} {q0:Nat} {v:Value} {d:DataW H} {p:List MemPlace} (hv:Value.okWide P w r q0 tp v) (h:DataW.Trod enc P w 0 (fun _=>true) true tp v d p) (hw:∀ m∈d.weights P tp,m≤reachBytes) :
  ∃ x:Prg,Big x∧RV (g0 w) w v (pav x):=by
 have rI:=qUM (enc:=enc) (w:=w) hI
 have rL:=qEP hL hIc (by omega) hIb (fun _=>rfl) rI
 have rS:uB enc P w tS Stm.cells (fun _=>True):=qD1 hS hSo hSc Stm.mk (fun _ _ _ _=>rfl) (fun _ _ _ _ _ _ _ _=>trivial) (hS0 ▸ rI) (hS1 ▸ rI) (hS2 ▸ rI) (hS3 ▸ rI)
 have rB:=qEP hB hSc (by omega) hSb (fun _=>rfl) rS
 have rK:uB enc P w tK Blk.cells (fun k=>k.params.length≤1152921504606846976∧k.body.length≤1152921504606846976) :=
  qD1 hK hKo hKc Blk.mk (fun _ _ _ _=>rfl) (fun _ _ _ _ _ _ h2 h3=>⟨h2.1,h3.1⟩) (hK0 ▸ rI) (hK1 ▸ rI) (hK2 ▸ rL) (hK3 ▸ rB)
 have rP:=qEP hP hKc (by omega) hKb (fun _=>rfl) rK
 obtain⟨x,⟨h1,h2⟩,h3⟩:=qJZ htp hpo hpc (hpt ▸ rP) hv h hw
 exact⟨x,⟨h1,fun k hk=>(h2 k hk).1,fun k hk=>(h2 k hk).2⟩,h3⟩
end
end Go.Hm
end
section
namespace Go.Hm
open Go Go.RowKit
def uz (p:Prg) (b:Int):Nat→Int→Bool
 | 0,j=>decide (j=b)
 | n+1,j=>if b<j then (match p[j.toNat]? with|some q=>uz p b n q.parent|none=>false) else decide (j=b)
def zP (p:Prg) (c b:Int):Bool:=uz p b p.length c
theorem qBW {p:Prg} {b:Int} (hh:zj p) (hb:0≤b):∀ (n m:Nat) (j:Int),j≤n→j≤m→uz p b n j=uz p b m j
 | 0,0,_,_,_=>rfl
 | 0,m+1,j,h,_=>by
  have h:j≤0:=h
  simp only [uz]
  rw [if_neg (by omega)]
 | n+1,0,j,_,h=>by
  have h:j≤0:=h
  simp only [uz]
  rw [if_neg (by omega)]
 | n+1,m+1,j,h1,h2=>by
  simp only [uz]
  split
  ·cases hq:p[j.toNat]? with
   | none=>rfl
   | some q =>
    have:=(hh _ q hq).2.1
    exact qBW hh hb n m _ (by omega) (by omega)
  ·rfl
theorem jR {p:Prg} {c b:Int} (h:c≤b):zP p c b=decide (c=b):=by
 unfold zP
 generalize p.length=n
 cases n with
 | zero=>rfl
 | succ n=>simp only [uz];rw [if_neg (by omega)]
theorem jD {p:Prg} {c:Nat} {b:Int} {q:Blk} (hh:zj p) (hb:0≤b) (hq:p[c]?=some q) (h:b<c):zP p c b=zP p q.parent b:=by
 have hl:c<p.length:=(gS hq).1
 have hp:=(hh c q hq).2.1
 unfold zP
 obtain⟨n,hn⟩:∃ n,p.length=n+1:=⟨p.length - 1,by omega⟩
 rw [qBW hh hb p.length n q.parent (by omega) (by omega),hn]
 simp only [uz]
 rw [if_pos h]
 simp [hq]
def Blk.us (k:Blk):List Int:=sorted (k.rd++k.bd++k.dc 9++k.dc 10)
theorem Blk.us_len (k:Blk):k.us.length≤8:=vd
end Go.Hm
end
section

end
section

end
section

end
section

end
section
namespace Go.Hm
open Go Go.RowKit
def qYg (L:List Stm) (i:Nat):List Stm:=L.take i++L.drop (i+1)
def qYX (p:Prg) (b i:Nat):Prg:=match p[b]? with|some k=>qQe p b (qYg k.body i)|none=>p
def qUu (p:Prg) (b i:Nat):Bool:=match p[b]? with
 | some k=>match k.body[i]? with
  | some s=>((s.kind==9)||(s.kind==10))&&(yq (qYX p b i)&&decide (qIQ p=qIQ (qYX p b i)))
  | none=>false
 | none=>false
def yC (D:Nm→Bool) (hp:Nm→Option AO):Nm→Option AO:=fun m=>if D m then hp m else none
@[simp] theorem qLv {D:Nm→Bool} {hp:Nm→Option AO} {m:Nm}:yC D hp m=if D m then hp m else none:=rfl
def D12:Nm→Bool:=fun n=>Nm.under (.u 1 0 0) n||Nm.under (.u 2 0 0) n
@[simp] theorem qDp {n:Nm}:D12 n=(Nm.under (.u 1 0 0) n||Nm.under (.u 2 0 0) n):=rfl
theorem z7 {n:Nm} (h:D12 n=true):n.sroot=false:=by
 simp only [D12,Bool.or_eq_true] at h
 rcases h with h|h <;> exact qu rfl h
section
variable {X:Ctx} {st:St} {K:St→Prop} {E:AV→St→Prop} {d f:Nat} {ty:TypeId} {pos:String} {aft:Array Edge} {g:Option (Nat×Bool)} {args:Array Operand} {Ts:Array TypeId} {az:List AV} {R:Nm→AV→(Nm→Option AO)→Prop}
theorem qFU (D:Nm→Bool) (hD:∀ n,D n=true→n.sroot=false) (hext:∀ k i j,X.ext (.u k i j)=true→D (.u k i j)=false∨(yC D st.hp) (.u k i j)≠none) (hd:d<X.n:=by first|(simp;done)|fail) (ha:args.toList.map (ev st)=az:=by simp [fx];first|done|rfl)
  (hF:FnE X.P X.gl f D az (yC D st.hp) R noE) (h:∀ y H',R (.s d) y H'→K ((st.call d D (yC D st.hp) H').put (some d) y)) :
  qj X ⟨some d,.call ⟨.value (.func f),args,Ts⟩,ty,pos,aft,g⟩ K E st:=by
 subst ha
 refine qA8 (D:=D) (H:=yC D st.hp) (R:=R) (E0:=noE) hF (qBm hF.1 rfl) false ⟨rfl,fun j a a' h h'=>?_⟩ (fun n hn=>?_) (fun n hn=>?_) (fun n hn=>?_) hext (fun e he=>by obtain rfl:=sI he;exact hd) (fun x H' hR=>?_) (fun _ _ h=>h.elim)
 ·rw [h] at h'
  obtain rfl:=sI h'
  exact .refl _
 ·cases hx:D n with
  | false=>rfl
  | true =>
   have h1:=hD n hx
   have h2:=Nm.sroot_under (a:=.s d) rfl hn
   rw [h1] at h2
   cases h2
 ·simp [hn]
 ·simp only [yC] at hn
  split at hn
  ·assumption
  ·exact absurd rfl hn
 ·exact h x H' hR
theorem qVb (hd:d<X.n:=by first|(simp;done)|fail) (ha:args.toList.map (ev st)=az:=by simp [fx];first|done|rfl) (hF:qW X.P X.gl f az R) (h:∀ y H',R (.s d) y H'→K ((st.call d noD noH H').put (some d) y)) :
  qj X ⟨some d,.call ⟨.value (.func f),args,Ts⟩,ty,pos,aft,g⟩ K E st:=by
 subst ha
 refine qA8 (D:=noD) (H:=noH) (R:=R) (E0:=noE) hF (qBm hF.1 rfl) false ⟨rfl,fun j a a' h h'=>?_⟩ (fun _ _=>rfl) (fun n hn=>by cases hn) (fun n hn=>absurd rfl hn) (fun k i j _=>.inl rfl) (fun e he=>by obtain rfl:=sI he;exact hd) (fun x H' hR=>?_) (fun _ _ h=>h.elim)
 ·rw [h] at h'
  obtain rfl:=sI h'
  exact .refl _
 ·exact h x H' hR
end
end Go.Hm
end
section

end
section

end
section

end
section

end
section

end
section
namespace Go.Hm
open Go Go.RowKit
structure Free (k:Blk) (y:Int):Prop where
 rd:y∉zw k.body
 bd:y∉kH k
 d9:y∉km k 9
 d10:y∉km k 10
section
variable {k:Blk} {x y z:Int} (hx:0≤x∧x≤7) (hy:0≤y∧y≤7) (hxy:x≠y) (hf:Free k y)
include hx hy hxy hf
end
structure RenH (p:Prg) (b:Nat) (x y:Int):Prop where
 sh:ShapeP p
 made:∀ i,0<i→i<p.length→vY p i=1
 decl:∀ (c:Nat) k,0<c→p[c]?=some k→∀ n:Nat,n<8→yl p c k n=true
 hb:0<b
 hbl:b<p.length
 hx:0≤x∧x≤7
 hy:0≤y∧y≤7
 hxy:x≠y
 fn:∀ k,p[b]?=some k→k.kind=1
 loc:∀ k,p[b]?=some k→za b k x=true
 free:∀ (c:Nat) k,p[c]?=some k→zP p c b=true→Free k y
theorem jb {p:Prg} {c b:Int} (h:zP p c b=true):b≤c:=by
 by_cases e:c≤b
 ·rw [jR e] at h
  simp at h
  omega
 ·omega
theorem qBb {p:Prg} {b:Nat} {z:Int} (hh:zj p) (hb:0<b):∀ (n:Nat),n<p.length→zN p z p.length n=b→zP p n b=true:=by
 intro n
 induction n using Nat.strongRecOn with
 | ind n ih =>
  intro hn ho
  rcases Nat.eq_zero_or_pos n with e|e
  ·subst e
   rw [yu (by simp)] at ho
   omega
  ·obtain⟨q,hq⟩:∃ q,p[n]?=some q:=⟨_,gE hn⟩
   rw [j5 hh hq e] at ho
   obtain⟨g1,g2,g3⟩:=hh n q hq
   have key:zN p z p.length q.parent=b→zP p n b=true:=by
    intro h
    have g4:=g3 e
    obtain⟨m,hm⟩:∃ m:Nat,q.parent=m:=⟨q.parent.toNat,by omega⟩
    have h2:=ih m (by omega) (by omega) (by rw [← hm];exact h)
    have h3:=jb h2
    rw [jD hh (by omega) hq (by omega),hm]
    exact h2
   split at ho
   ·exact key ho
   ·split at ho
    ·omega
    ·split at ho
     ·have:n=b:=by omega
      subst this
      rw [jR (by omega)]
      simp
     ·exact key ho
theorem ki {p:Prg} {b c:Nat} {k:Blk} {z:Int} (hh:zj p) (hb:0<b) (hk:p[c]?=some k) (h0:0<c) (h:outer p c z=b):zP p c b=true:=by
 rw [jw hh hk] at h
 obtain⟨g1,g2,g3⟩:=hh c k hk
 have g4:=g3 h0
 have hc:=(gS hk).1
 obtain⟨m,hm⟩:∃ m:Nat,k.parent=m:=⟨k.parent.toNat,by omega⟩
 have h2:=qBb hh hb m (by omega) (by rw [← hm];exact h)
 have h3:=jb h2
 rw [jD hh (by omega) hk (by omega),hm]
 exact h2
theorem vq {p:Prg} {b c:Nat} {k:Blk} {z:Int} (hh:zj p) (hb:0<b) (hk:p[c]?=some k) (h:zE p c z=b):zP p c b=true:=by
 simp only [zE,hk] at h
 split at h
 ·omega
 ·rename_i hn
  split at h
  ·have:c=b:=by omega
   subst this
   rw [jR (by omega)]
   simp
  ·exact ki hh hb hk (by omega) h
section
variable {p:Prg} {b:Nat} {x y:Int} (H:RenH p b x y)
include H
omit H in
end
end Go.Hm
end
section

end
