/-
  Own texts, joined by mkclaim.py: Hm34, Hm35, Hm36, Hm37, Hm38, Hm39, Hm40, Hm41, Hm42, Hm43, Hm44, Hm46, Hm47, Hm48, Hm49, Hm50, Hm51, Hm52, Hm53, Hm54, Hm55, Hm56, Hm57, Hm58, Hm59, Hm60.
-/
import Derived.Test.YtbgmnmnoaamgkaaGreatDoorD09
import Derived.Deep.Slices
import Derived.Deep.Fields
import Derived.ChangeSame
import Derived.SizedLaws
import Derived.Test.YtbgmnmnoaamgkaaGreatDoorD08
set_option linter.unusedSimpArgs false
set_option linter.unusedVariables false
set_option maxRecDepth 100000
set_option maxHeartbeats 4000000

section
namespace Go.Hm
open Go Go.RowKit
structure NmOk (k:Blk):Prop where
 kinds:∀ s∈k.body,0≤s.kind∧s.kind≤11
 reads:∀ s∈k.body,∀ x∈s.reads,0≤x∧x≤7
 tos:∀ s∈k.body,0≤s.to∧s.to≤7
 params:∀ x∈k.params,0≤x∧x≤7
structure ShapeP (p:Prg):Prop where
 sml:Sml p
 heads:z6 p
 head:∀ (i:Nat) k,p[i]?=some k→jJ i k
 stm:∀ (i:Nat) k,p[i]?=some k→∀ s∈k.body,zo p i k s=true
 len:1≤p.length∧p.length≤7
 body:∀ k∈p,k.body.length≤12
theorem ShapeP.of {p:Prg} (hs:Sml p) (h:j2 p=true):ShapeP p:=by
 obtain⟨h1,h2,h3,h4,_⟩:=qAN h
 have key:∀ (i:Nat) k,p[i]?=some k→jJ i k∧k.body.length≤12∧k.body.all (zo p i k)=true:=fun i k hk =>
  qDn hk (List.all_eq_true.1 h4 i (List.mem_range.2 (gS hk).1))
 refine⟨hs,h1,fun i k hk=>(key i k hk).1,fun i k hk s hm=>List.all_eq_true.1 (key i k hk).2.2 s hm,⟨h2,h3⟩,fun k hk=>?_⟩
 obtain⟨i,hi⟩:=List.getElem?_of_mem hk
 exact (key i k hi).2.1
theorem zo.kind {p:Prg} {i:Nat} {k:Blk} {s:Stm} (h:zo p i k s=true):0≤s.kind∧s.kind≤11:=by
 by_cases hk:0≤s.kind∧s.kind≤11
 ·exact hk
 ·have h2:¬ (s.kind=0∨s.kind=1∨s.kind=2∨s.kind=3∨s.kind=4∨s.kind=5∨s.kind=6∨s.kind=7∨s.kind=8∨s.kind=9∨s.kind=10∨s.kind=11):=by omega
  simp only [not_or] at h2
  simp [zo,h2] at h
theorem ShapeP.names {p:Prg} (h:ShapeP p):∀ k∈p,NmOk k:=by
 intro k hk
 obtain⟨i,hi⟩:=List.getElem?_of_mem hk
 have hst:=h.stm i k hi
 have hhd:=h.head i k hi
 refine⟨fun s hs=>zo.kind (hst s hs),fun s hs x hx=>?_,fun s hs=>?_,fun x hx=>?_⟩
 ·have:=hst s hs
  simp only [zo,Bool.and_eq_true] at this
  have:=List.all_eq_true.1 this.1.2 x hx
  simpa using this
 ·have:=hst s hs
  simp only [zo,Bool.and_eq_true] at this
  simpa using this.1.1
 ·unfold jJ at hhd
  split at hhd
  ·have:=List.eq_nil_of_length_eq_zero hhd.2.2
   rw [this] at hx
   cases hx
  ·rcases hhd.2.2.2.2 with h0|⟨h1,_,h3,h4⟩
   ·rw [List.eq_nil_of_length_eq_zero h0] at hx
    cases hx
   ·match hp:k.params,h1,hx with
    | [y],_,hx =>
     obtain rfl:=List.mem_singleton.1 hx
     rw [hp] at h3 h4
     exact⟨h3,h4⟩
theorem ShapeP.kind0 {p:Prg} (h:ShapeP p) {i:Nat} {k:Blk} (hk:p[i]?=some k):k.kind=0↔i=0:=by
 have:=h.head i k hk
 unfold jJ at this
 split at this <;> omega
theorem ShapeP.fun0 {p:Prg} (h:ShapeP p):∀ k,p[0]?=some k→k.kind≠1:=by
 intro k hk
 have:=(h.kind0 hk).2 rfl
 omega
theorem ShapeP.decl0 {p:Prg} (h:ShapeP p) {k:Blk} (hk:p[0]?=some k) {d:Int} (hd:d=9∨d=10):k.dc d=[]:=by
 have hnil:kj k d=[]:=by
  simp only [kj,List.map_eq_nil_iff,List.filter_eq_nil_iff]
  intro s hs hsd
  have hst:=h.stm 0 k hk s hs
  have hk0:=(h.kind0 hk).2 rfl
  simp only [decide_eq_true_eq] at hsd
  rcases hd with rfl|rfl
  ·simp [zo,hsd,hk0] at hst
  ·simp [zo,hsd,hk0] at hst
 simp only [Blk.dc,hnil,sorted]
 decide
theorem qGL {p:Prg} {x:Int}:∀ (n:Nat) (j:Int),-1≤zF p x n j
 | 0,_=>by simp [zF]
 | n+1,j=>by
  simp only [zF]
  repeat' split
  all_goals first|omega|exact qGL n _
theorem qOG {p:Prg} {b:Nat} {x:Int}:-1≤outer p b x:=by
 unfold outer
 split
 ·exact qGL _ _
 ·omega
theorem qGR {xs:List Int} {n:Nat} (h:n<8):(n:Int)∈sorted xs↔(n:Int)∈xs:=by
 rw [mem_sorted]
 exact⟨fun h=>h.1,fun h'=>⟨h',by omega,by omega⟩⟩
end Go.Hm
end
section

end
section

end
section
namespace Go.Hm
open Go Go.RowKit
def pre {α:Type} (z:α) (l:List α) (i:Nat):List α:=l.take i++List.replicate (l.length - i) z
section
variable {X:Ctx} {st:St} {K:St→Prop} {E:AV→St→Prop} {ds:List (Option Nat)} {l:List Oper} {o:Oper}
theorem qOO (n0 n1:Nm) (h0:n0.isU=false∨X.ext n0=false) (h1:n1.isU=false∨X.ext n1=false) (h:qK X o K E (st.move n0 n1)):qK X o K E st :=
 fun a w Q hR hE=>h a w Q (hR.move n0 n1 h0 h1) hE
theorem yM (n0 n1:Nm) (h0:n0.isU=false∨X.ext n0=false) (h1:n1.isU=false∨X.ext n1=false) (h:qK X o (fun s=>K (s.move n0 n1)) E st):qK X o K E st:=by
 refine qK.post h ?_
 intro s a w hR hK
 exact⟨_,hR.move n0 n1 h0 h1,hK⟩
end
theorem q9 {U:Nm} (hU:U.isU=true):∀ {n:Nm},Nm.under U n=true→n.sroot=false:=by
 intro n
 induction n with
 | s d=>intro h;cases U <;> simp [Nm.isU,Nm.under] at *
 | u k i j=>intro _;rfl
 | c q i j ih =>
  intro h
  simp only [Nm.under,Bool.or_eq_true,decide_eq_true_eq] at h
  rcases h with h|h
  ·rw [← h] at hU;cases hU
  ·exact ih h
def qG3 (U:Nm) (hp:Nm→Option AO):Nm→Option AO:=fun m=>if Nm.under U m then hp m else none
section
variable {X:Ctx} {st:St} {K:St→Prop} {E:AV→St→Prop} {d f:Nat} {ty:TypeId} {pos:String} {aft:Array Edge} {g:Option (Nat×Bool)} {args:Array Operand} {Ts:Array TypeId} {az:List AV} {R:Nm→AV→(Nm→Option AO)→Prop}
theorem qKS (U:Nm) (hU:U.isU=true) (hext:X.ext U=true→st.hp U≠none) (hd:d<X.n:=by first|(simp;done)|fail) (ha:args.toList.map (ev st)=az:=by simp [fx];first|done|rfl)
  (hF:FnE X.P X.gl f (Nm.under U) az (qG3 U st.hp) R noE) (h:∀ y H',R (.s d) y H'→K ((st.call d (Nm.under U) (qG3 U st.hp) H').put (some d) y)) :
  qK X ⟨some d,.call ⟨.value (.func f),args,Ts⟩,ty,pos,aft,g⟩ K E st:=by
 subst ha
 refine qAb (D:=Nm.under U) (H:=qG3 U st.hp) (R:=R) (E0:=noE) hF (qBq hF.1 rfl) false ⟨rfl,fun j a a' h h'=>?_⟩ (fun n hn=>?_) (fun n hn=>?_) (fun n hn=>?_) (fun k i j he=>?_) (fun e he=>by obtain rfl:=sI he;exact hd) (fun x H' hR=>?_) (fun _ _ h=>h.elim)
 ·rw [h] at h'
  obtain rfl:=sI h'
  exact .refl _
 ·cases hx:Nm.under U n with
  | false=>rfl
  | true =>
   have h1:=q9 hU hx
   have h2:=Nm.sroot_under (a:=.s d) rfl hn
   rw [h1] at h2
   cases h2
 ·simp [qG3,hn]
 ·simp only [qG3] at hn
  split at hn
  ·assumption
  ·exact absurd rfl hn
 ·cases hx:Nm.under U (.u k i j) with
  | false=>exact .inl rfl
  | true =>
   right
   have:Nm.u k i j=U:=by cases U <;> simp [Nm.isU,Nm.under] at * <;> exact⟨hx.1,hx.2.1,hx.2.2⟩
   simp only [qG3,hx,if_true]
   rw [this] at he ⊢
   exact hext he
 ·exact h x H' hR
end
section
variable {st:St} {d t:Nat} {D:Nm→Bool} {H H':Nm→Option AO} {m:Nm}
@[simp] theorem call_tm:(st.call d D H H').tm t=(st.tm t).tr (cf d D H):=rfl
@[simp] theorem call_gl:(st.call d D H H').gl=st.gl:=rfl
@[simp] theorem call_hp:(st.call d D H H').hp m=if D m||Nm.under (.s d) m then H' m else (st.hp m).map (AO.tr (cf d D H)):=rfl
@[simp] theorem cf_eq:cf d D H m=if Nm.under (.s d) m then none else if D m then (if m.isU&&(H m).isSome then some m else none) else some m:=rfl
@[simp] theorem hsub_eq {U:Nm} {hp:Nm→Option AO}:qG3 U hp m=if Nm.under U m then hp m else none:=rfl
end
end Go.Hm
end
section
namespace Go.Hm
open Go Go.RowKit
theorem AV.tr_tr (f g:Nm→Option Nm) (a:AV):(a.tr f).tr g=a.tr (fun m=>(f m).bind g):=by
 refine AV.rec (motive_1:=fun a=>(a.tr f).tr g=a.tr (fun m=>(f m).bind g)) (motive_2:=fun l=>qM5 g (qM5 f l)=qM5 (fun m=>(f m).bind g) l) (motive_3:=fun l=>trL g (trL f l)=trL (fun m=>(f m).bind g) l) ?_ ?_ ?_ ?_ ?_ ?_ ?_ ?_ ?_ ?_ ?_ ?_ ?_ ?_ ?_ ?_ a
 all_goals intros
 all_goals simp only [AV.tr,trL,qM5, *]
 all_goals (split <;> simp_all [AV.tr])
theorem AO.tr_tr (f g:Nm→Option Nm) (o:AO):(o.tr f).tr g=o.tr (fun m=>(f m).bind g):=by
 have h:AV.tr g∘AV.tr f=AV.tr (fun m=>(f m).bind g):=funext fun a=>AV.tr_tr f g a
 cases o with
 | row z rows=>simp [AO.tr,h]
 | map es=>simp [AO.tr,AV.tr_tr]
 | trow T z ex rows=>simp [AO.tr,h]
def rtf (N V:Nm) (d:Nat) (m:Nm):Option Nm:=if Nm.under N m then (if m=N then some N else none) else if Nm.under V m then none else if Nm.under (.s d) m then none else some m
def St.mutc (st:St) (N V:Nm) (d:Nat) (H':Nm→Option AO):St :=
 { tm:=fun t=>(st.tm t).tr (rtf N V d),
   hp:=fun m=>if Nm.under N m then (if mv V N (Nm.ren N V m)=some m then (H' (Nm.ren N V m)).map (AO.tr (mv V N)) else none) else if Nm.under V m then none else if Nm.under (.s d) m then (H' m).map (AO.tr (mv V N)) else (st.hp m).map (AO.tr (rtf N V d)),
   n:=st.n,gl:=st.gl }
section
variable {st:St} {N V m:Nm} {d t:Nat} {H':Nm→Option AO}
@[simp] theorem rtf_eq:rtf N V d m=if Nm.under N m then (if m=N then some N else none) else if Nm.under V m then none else if Nm.under (.s d) m then none else some m:=rfl
@[simp] theorem mutc_tm:(st.mutc N V d H').tm t=(st.tm t).tr (rtf N V d):=rfl
@[simp] theorem mutc_gl:(st.mutc N V d H').gl=st.gl:=rfl
@[simp] theorem mutc_hp:(st.mutc N V d H').hp m=if Nm.under N m then (if mv V N (Nm.ren N V m)=some m then (H' (Nm.ren N V m)).map (AO.tr (mv V N)) else none) else if Nm.under V m then none else if Nm.under (.s d) m then (H' m).map (AO.tr (mv V N)) else (st.hp m).map (AO.tr (rtf N V d)):=rfl
end
theorem qKn {N V:Nm} {x:Nm} (h:Nm.under N x=true) (hne:x≠N):(Nm.ren N V x).isU=false:=by
 cases x with
 | s d=>simp [Nm.under] at h;exact absurd h hne
 | u a b c=>simp [Nm.under] at h;exact absurd h hne
 | c q i j=>simp [Nm.ren,hne]
theorem qF5 {V n:Nm} {d:Nat} (hV:V.isU=true) (h:Nm.under V n=true):Nm.under (.s d) n=false:=by
 cases hx:Nm.under (.s d) n with
 | false=>rfl
 | true =>
  have h1:=q9 hV h
  have h2:=Nm.sroot_under (a:=.s d) rfl hx
  rw [h1] at h2
  cases h2
section
variable {p:Prg} {n:Nm} {i l d a b e:Nat}
@[simp] theorem pRows_mvself {m:Nm}:(jN n p).map (fun r=>r.map (AV.tr (mv n m)))=jN m p:=zO (by simp)
end
section
variable {p:Prg} {c:Int} {i j:Nat} {k:Blk} {n:Nm}
@[simp] theorem rowsSet_len {rows:List (List AV)} {off:Nat} {vals:List AV}:(qa rows i off vals).length=rows.length:=by simp [qa]
end
section
variable {X:Ctx} {st:St} {K:St→Prop} {E:AV→St→Prop}
theorem yr {o:Oper} (F:St→Prop) (h:F st) (k:∀ s,F s→qK X o K E s):qK X o K E st:=k st h
theorem qUK {ds:List (Option Nat)} {l:List Oper} (F:St→Prop) (h:F st) (k:∀ s,F s→wT X ds K E l s):wT X ds K E l st:=k st h
theorem yd {c:Code} {Q:Ex→St→Prop} (F:St→Prop) (h:F st) (k:∀ s,F s→qW X c Q s):qW X c Q st:=k st h
end
structure BoxP (st:St) (d:Nat) (p:Prg):Prop where
 tm:st.tm d=.pt (.s d) 0
 hp:st.hp (.s d)=some (.row 1 [[.hs (.c (.s d) 0 0) 4 0 p.length]])
 own:OwnP st.hp (.c (.s d) 0 0) p
end Go.Hm
end
section
namespace Go.Hm
open Go Go.RowKit Go.ChangeShapes Go.WideShapes Go.Deep
def g0 (w:World):Gh:={ C:=fun b=>b<w.heap.size,φ:=fun _=>none,κ:=fun _=>0 }
def qHp {H:Type} (enc:TypeId×Value→H) (P:Program) (w:World) {α:Type} (t:TypeId) (cells:α→List AV) (Ok:α→Prop):Prop :=
 ∀ (n:Nat) (cs:List Value) (y:DataW H×List MemPlace),DataW.trod enc P w 0 (fun _=>true) true n t cs=some y→(∀ m∈y.1.weights P t,m≤reachBytes) →
  ∃ x:α,Ok x∧(cells x).length=cs.length∧∀ (j:Nat) v a,cs[j]?=some v→(cells x)[j]?=some a→RV (g0 w) w v a∧v.oneCell'=true
theorem qAG {H:Type} {P:Program} {e:TypeId} {d:DataW H}:∀ {l:List (DataW H)},d∈l→∀ m∈d.weights P e,m∈DataW.weightsAll P e l
 | x::l,h,m,hm=>by
  simp only [DataW.weightsAll,List.mem_append]
  rcases List.mem_cons.1 h with rfl|h
  ·exact .inl hm
  ·exact .inr (qAG h m hm)
theorem qMC {w:World} {a:Addr} {v:Value} (h:w.cell? a=some v):a.block<w.heap.size∧a.spot=none:=by
 unfold World.cell? at h
 split at h
 ·rename_i c t fr hb
  refine⟨(Array.getElem?_eq_some_iff.1 hb).1,?_⟩
  split at h
  ·cases h
  ·rename_i hs
   cases hsp:a.spot with
   | none=>rfl
   | some _=>simp [hsp] at hs
 ·cases h
theorem qGs {a:Addr} (h:a.spot=none) (n:Nat):a.add n=⟨a.block,a.off+n,none⟩:=by
 obtain⟨b,o,s⟩:=a
 obtain rfl:s=none:=h
 unfold Addr.add
 split
 ·simp_all
 ·rfl
section
variable {H:Type} {enc:TypeId×Value→H} {P:Program} {w:World}
theorem qNs {t e:TypeId} {z:Nat} {α:Type} [Inhabited α] {cells:α→List AV} {Ok:α→Prop} (ht:P.underlying t=some (.slice e)) (hc:P.cellsOf e=z) (hz:0<z) (hby:0<P.bytesOf e) (hlen:∀ x,(cells x).length=z)
  (hr:qHp enc P w e cells Ok):qHp enc P w t (fun xs:List α=>[.sl z (xs.map cells)]) (fun xs=>xs.length≤1152921504606846976∧∀ x∈xs,Ok x):=by
 intro n cs y h hw
 rcases open_slice ht h with⟨rfl,rfl⟩|⟨a,len,cap,m,n',D,Pl,rfl,_,hl,_,hm,rfl,hi⟩
 ·refine⟨[],⟨by simp,by simp⟩,rfl,fun j v x hv hx=>?_⟩
  cases j with
  | zero =>
   simp at hv hx
   subst hv;subst hx
   exact⟨.slN _ _ _,rfl⟩
  | succ j=>simp at hv
 ·simp only [if_true] at hm
  subst hm
  have hw0:=hw (((List.map D (List.range len)).length+(List.map (fun j=>D (len+j)) (List.range (m - len))).length) * P.bytesOf e) (by simp [DataW.weights,ht])
  have hll:len≤1152921504606846976:=by
   simp only [List.length_map,List.length_range,reachBytes] at hw0
   have:len * 1≤(len+(m - len)) * P.bytesOf e:=Nat.mul_le_mul (by omega) hby
   omega
  have hel:∀ i,i<len→∃ x:α,Ok x∧∀ j,j<z→∃ v aa,w.cell? ((a.add (i * z)).add j)=some v∧(cells x)[j]?=some aa∧RV (g0 w) w v aa∧v.oneCell'=true:=by
   intro i hil
   obtain⟨cs',h1,h2⟩:=hi i (by omega)
   rw [hc] at h1
   obtain⟨_,hcl,hat⟩:=World.cells?_some h1
   obtain⟨x,hx,hxl,hxr⟩:=hr n' cs' _ h2 (fun q hq=>hw q (by
    simp only [DataW.weights,ht,List.mem_cons,List.mem_append]
    exact .inr (.inl (qAG (List.mem_map.2 ⟨i,List.mem_range.2 hil,rfl⟩) q hq))))
   refine⟨x,hx,fun j hj=>?_⟩
   have e1:=hat j hj
   have e2:cs'[j]?=some (cs'[j]'(by omega)):=gE (by omega)
   have e3:(cells x)[j]?=some ((cells x)[j]'(by rw [hlen];exact hj)):=gE (by rw [hlen];exact hj)
   obtain⟨r1,r2⟩:=hxr j _ _ e2 e3
   exact⟨_,_,e1.trans e2,e3,r1,r2⟩
  obtain⟨X,hX⟩:=choose_lt hel
  have hav:∀ i,i<len→(List.map X (List.range len))[i]?=some (X i):=by
   intro i hi
   simp [hi]
  refine⟨(List.range len).map X,⟨by simpa using hll,?_⟩,rfl,fun j v x hv hx=>?_⟩
  ·intro x hx
   obtain⟨i,hi,rfl⟩:=List.mem_map.1 hx
   exact (hX i (List.mem_range.1 hi)).1
  ·cases j with
   | succ j=>simp at hv
   | zero =>
    simp only [List.getElem?_cons_zero,Option.some.injEq] at hv hx
    subst hv;subst hx
    refine⟨?_,rfl⟩
    rcases Nat.eq_zero_or_pos len with rfl|hpos
    ·exact .slN _ _ _
    ·obtain⟨v0,_,hc0,_⟩:=(hX 0 hpos).2 0 hz
     obtain⟨hb,hsp⟩:=qMC hc0
     rw [Nat.zero_mul] at hb hsp
     have ha0:(a.add 0).add 0=a:=by simp [Addr.add]
     rw [ha0] at hb hsp
     obtain⟨b,off,s⟩:=a
     obtain rfl:s=none:=hsp
     have hcell:∀ i j,(((⟨b,off,none⟩:Addr).add (i * z)).add j)=⟨b,off+i * z+j,none⟩:=by
      intro i j
      rw [qGs (a:=⟨b,off,none⟩) rfl,qGs rfl]
     refine .slC b off m len z _ (fun i j=>(w.cell? ⟨b,off+i * z+j,none⟩).getD undef) hb (by simp) hl ?_ ?_ ?_ ?_
     ·intro r hr'
      obtain⟨x,hx,rfl⟩:=List.mem_map.1 hr'
      exact hlen x
     ·intro i j hi hj
      obtain⟨v,_,h1,_⟩:=(hX i hi).2 j hj
      rw [hcell] at h1
      simp [h1]
     ·intro i j hi hj
      obtain⟨v,_,h1,_,_,h2⟩:=(hX i hi).2 j hj
      rw [hcell] at h1
      simpa [h1] using h2
     ·intro i row hrow j aa haa
      have hil:i<len:=by
       have:=(gS hrow).1
       simpa using this
      simp [hil] at hrow
      subst hrow
      have hjz:j<z:=by
       have:=(gS haa).1
       rwa [hlen] at this
      obtain⟨v,a',h1,h2,h3,_⟩:=(hX i hil).2 j hjz
      rw [hcell] at h1
      rw [haa] at h2
      cases h2
      simpa [h1] using h3
end
end Go.Hm
end
section
namespace Go.Hm
open Go Go.RowKit
def ul (p:Prg) (b:Int):Nat→Int→Bool
 | 0,j=>decide (j=b)
 | n+1,j=>if b<j then (match p[j.toNat]? with|some q=>ul p b n q.parent|none=>false) else decide (j=b)
def zJ (p:Prg) (c b:Int):Bool:=ul p b p.length c
theorem qB0 {p:Prg} {b:Int} (hh:z6 p) (hb:0≤b):∀ (n m:Nat) (j:Int),j≤n→j≤m→ul p b n j=ul p b m j
 | 0,0,_,_,_=>rfl
 | 0,m+1,j,h,_=>by
  have h:j≤0:=h
  simp only [ul]
  rw [if_neg (by omega)]
 | n+1,0,j,_,h=>by
  have h:j≤0:=h
  simp only [ul]
  rw [if_neg (by omega)]
 | n+1,m+1,j,h1,h2=>by
  simp only [ul]
  split
  ·cases hq:p[j.toNat]? with
   | none=>rfl
   | some q =>
    have:=(hh _ q hq).2.1
    exact qB0 hh hb n m _ (by omega) (by omega)
  ·rfl
theorem jU {p:Prg} {c b:Int} (h:c≤b):zJ p c b=decide (c=b):=by
 unfold zJ
 generalize p.length=n
 cases n with
 | zero=>rfl
 | succ n=>simp only [ul];rw [if_neg (by omega)]
theorem jB {p:Prg} {c:Nat} {b:Int} {q:Blk} (hh:z6 p) (hb:0≤b) (hq:p[c]?=some q) (h:b<c):zJ p c b=zJ p q.parent b:=by
 have hl:c<p.length:=(gS hq).1
 have hp:=(hh c q hq).2.1
 unfold zJ
 obtain⟨n,hn⟩:∃ n,p.length=n+1:=⟨p.length - 1,by omega⟩
 rw [qB0 hh hb p.length n q.parent (by omega) (by omega),hn]
 simp only [ul]
 rw [if_pos h]
 simp [hq]
def Blk.us (k:Blk):List Int:=sorted (k.rd++k.bd++k.dc 9++k.dc 10)
theorem Blk.us_len (k:Blk):k.us.length≤8:=v6
def uO {α:Type} (f:α→α) (l:List α) (i:Nat):List α:=(l.take i).map f++l.drop i
section
variable {α:Type} {f:α→α} {l:List α} {i:Nat} {x:α}
@[simp] theorem qGS (h:i≤l.length):(uO f l i).length=l.length:=by simp [uO];omega
theorem qJf:uO f l 0=l:=by simp [uO]
theorem qLU:uO f l l.length=l.map f:=by simp [uO]
theorem qGT (h:l[i]?=some x):(uO f l i)[i]?=some x:=by
 have hi:=(gS h).1
 have e:(List.map f (List.take i l)).length=i:=by simp;omega
 rw [uO,List.getElem?_append_right (by omega),e,Nat.sub_self,List.getElem?_drop]
 simpa using h
theorem qLT (h:l[i]?=some x):(uO f l i).set i (f x)=uO f l (i+1):=by
 obtain⟨hi,hx⟩:=gS h
 apply List.ext_getElem?
 intro j
 rw [List.getElem?_set,qGS (by omega)]
 by_cases e:i=j
 ·subst e
  rw [if_pos rfl,if_pos hi]
  have e1:(List.map f (List.take (i+1) l)).length=i+1:=by simp;omega
  rw [uO,List.getElem?_append_left (by omega)]
  simp [h]
 ·rw [if_neg e]
  simp only [uO]
  rcases Nat.lt_or_ge j i with h1|h1
  ·rw [List.getElem?_append_left (by simp;omega),List.getElem?_append_left (by simp;omega)]
   simp [h1,show j<i+1 by omega]
  ·rw [List.getElem?_append_right (by simp;omega),List.getElem?_append_right (by simp;omega)]
   simp only [List.length_map,List.length_take,List.getElem?_drop]
   congr 1
   omega
end
end Go.Hm
end
section

end
section

end
section

end
section
namespace Go.Hm
open Go Go.RowKit
def qYa (L:List Stm) (i:Nat):List Stm:=L.take i++L.drop (i+1)
def qYQ (p:Prg) (b i:Nat):Prg:=match p[b]? with|some k=>setBody p b (qYa k.body i)|none=>p
def qUu (p:Prg) (b i:Nat):Bool:=match p[b]? with
 | some k=>match k.body[i]? with
  | some s=>((s.kind==9)||(s.kind==10))&&(jY (qYQ p b i)&&decide (qI0 p=qI0 (qYQ p b i)))
  | none=>false
 | none=>false
abbrev byt (v:Int):AV:=.sc (.int .u8 v)
def ww (bs:List Int):List (List AV):=bs.map fun v=>[byt v]
abbrev bsl (bs:List Int):AV:=.sl 1 (ww bs)
section
variable {bs:List Int} {i:Nat} {f:Nm→Option Nm}
@[simp] theorem brows_len:(ww bs).length=bs.length:=by simp [ww]
@[simp] theorem brows_getE {h:i<(ww bs).length}:(ww bs)[i]=[byt (bs[i]'(by simpa using h))]:=by simp [ww]
@[simp] theorem brows_tr:(ww bs).map (fun r=>r.map (AV.tr f))=ww bs:=by simp [ww]
@[simp] theorem brows_take {n:Nat}:(ww bs).take n=ww (bs.take n):=by simp [ww]
@[simp] theorem brows_drop {n:Nat}:(ww bs).drop n=ww (bs.drop n):=by simp [ww]
end
structure BytesOk (bs:List Int):Prop where
 len:bs.length≤2000
 rng:∀ v∈bs,0≤v∧v≤255
abbrev rdO (bs:List Int) (pos:Nat):AO:=.row 2 [[bsl bs,iv pos]]
def jl (D:Nm→Bool) (hp:Nm→Option AO):Nm→Option AO:=fun m=>if D m then hp m else none
@[simp] theorem qLx {D:Nm→Bool} {hp:Nm→Option AO} {m:Nm}:jl D hp m=if D m then hp m else none:=rfl
def D12:Nm→Bool:=fun n=>Nm.under (.u 1 0 0) n||Nm.under (.u 2 0 0) n
@[simp] theorem qB7 {n:Nm}:D12 n=(Nm.under (.u 1 0 0) n||Nm.under (.u 2 0 0) n):=rfl
theorem zM {n:Nm} (h:D12 n=true):n.sroot=false:=by
 simp only [D12,Bool.or_eq_true] at h
 rcases h with h|h <;> exact q9 rfl h
section
variable {X:Ctx} {st:St} {K:St→Prop} {E:AV→St→Prop} {d f:Nat} {ty:TypeId} {pos:String} {aft:Array Edge} {g:Option (Nat×Bool)} {args:Array Operand} {Ts:Array TypeId} {az:List AV} {R:Nm→AV→(Nm→Option AO)→Prop}
theorem qDV (D:Nm→Bool) (hD:∀ n,D n=true→n.sroot=false) (hext:∀ k i j,X.ext (.u k i j)=true→D (.u k i j)=false∨(jl D st.hp) (.u k i j)≠none) (hd:d<X.n:=by first|(simp;done)|fail) (ha:args.toList.map (ev st)=az:=by simp [fx];first|done|rfl)
  (hF:FnE X.P X.gl f D az (jl D st.hp) R noE) (h:∀ y H',R (.s d) y H'→K ((st.call d D (jl D st.hp) H').put (some d) y)) :
  qK X ⟨some d,.call ⟨.value (.func f),args,Ts⟩,ty,pos,aft,g⟩ K E st:=by
 subst ha
 refine qAb (D:=D) (H:=jl D st.hp) (R:=R) (E0:=noE) hF (qBq hF.1 rfl) false ⟨rfl,fun j a a' h h'=>?_⟩ (fun n hn=>?_) (fun n hn=>?_) (fun n hn=>?_) hext (fun e he=>by obtain rfl:=sI he;exact hd) (fun x H' hR=>?_) (fun _ _ h=>h.elim)
 ·rw [h] at h'
  obtain rfl:=sI h'
  exact .refl _
 ·cases hx:D n with
  | false=>rfl
  | true =>
   have h1:=hD n hx
   have h2:=Nm.sroot_under (a:=.s d) rfl hn
   rw [h1] at h2
   cases h2
 ·simp [hn]
 ·simp only [jl] at hn
  split at hn
  ·assumption
  ·exact absurd rfl hn
 ·exact h x H' hR
theorem qPp (hd:d<X.n:=by first|(simp;done)|fail) (ha:args.toList.map (ev st)=az:=by simp [fx];first|done|rfl) (hF:qV X.P X.gl f az R) (h:∀ y H',R (.s d) y H'→K ((st.call d noD noH H').put (some d) y)) :
  qK X ⟨some d,.call ⟨.value (.func f),args,Ts⟩,ty,pos,aft,g⟩ K E st:=by
 subst ha
 refine qAb (D:=noD) (H:=noH) (R:=R) (E0:=noE) hF (qBq hF.1 rfl) false ⟨rfl,fun j a a' h h'=>?_⟩ (fun _ _=>rfl) (fun n hn=>by cases hn) (fun n hn=>absurd rfl hn) (fun k i j _=>.inl rfl) (fun e he=>by obtain rfl:=sI he;exact hd) (fun x H' hR=>?_) (fun _ _ h=>h.elim)
 ·rw [h] at h'
  obtain rfl:=sI h'
  exact .refl _
 ·exact h x H' hR
end
end Go.Hm
end
section
namespace Go.Hm
open Go Go.RowKit
def rk (a d:Nat) (m:Nm):Option Nm :=
 if Nm.under (.s a) m then (if m=.s a then some (.u 2 0 0) else none) else if Nm.under (.u 2 0 0) m then none else if Nm.under (.s d) m then none else if Nm.under (.u 1 0 0) m then (if m=.u 1 0 0 then some (.u 1 0 0) else none) else some m
def St.rdr (st:St) (a d:Nat) (R:AO):St :=
 { tm:=fun t=>(st.tm t).tr (rk a d),
   hp:=fun m=>if m=.u 1 0 0 then some R else if D12 m||Nm.under (.s d) m||Nm.under (.s a) m then none else (st.hp m).map (AO.tr (rk a d)),
   n:=st.n,gl:=st.gl }
section
variable {st:St} {a d t:Nat} {m:Nm} {R:AO}
@[simp] theorem rk_eq:rk a d m=if Nm.under (.s a) m then (if m=.s a then some (.u 2 0 0) else none) else if Nm.under (.u 2 0 0) m then none else if Nm.under (.s d) m then none else if Nm.under (.u 1 0 0) m then (if m=.u 1 0 0 then some (.u 1 0 0) else none) else some m:=rfl
@[simp] theorem rdr_tm:(st.rdr a d R).tm t=(st.tm t).tr (rk a d):=rfl
@[simp] theorem rdr_gl:(st.rdr a d R).gl=st.gl:=rfl
@[simp] theorem qUO:(st.rdr a d R).hp m=if m=.u 1 0 0 then some R else if D12 m||Nm.under (.s d) m||Nm.under (.s a) m then none else (st.hp m).map (AO.tr (rk a d)):=rfl
end
theorem qQo {a d:Nat} {Hs:Nm→Option AO} (h1:(Hs (.u 1 0 0)).isSome=true) (h2:(Hs (.u 2 0 0)).isSome=true):(fun m=>(mv (.s a) (.u 2 0 0) m).bind (cf d D12 Hs))=rk a d:=by
 funext x
 by_cases hx:Nm.under (.s a) x=true
 ·have hu:Nm.under (.u 2 0 0) (Nm.ren (.s a) (.u 2 0 0) x)=true:=Nm.under_ren x hx
  have hsd:=qF5 (d:=d) (V:=.u 2 0 0) rfl hu
  by_cases e:x=.s a
  ·subst e
   simp [h2,Nm.isU]
  ·have:=qKn (V:=.u 2 0 0) hx e
   simp [hx,hu,hsd,this,e]
 ·simp only [Bool.not_eq_true] at hx
  by_cases hv:Nm.under (.u 2 0 0) x=true
  ·simp [hx,hv]
  ·simp only [Bool.not_eq_true] at hv
   by_cases hd:Nm.under (.s d) x=true
   ·simp [hx,hv,hd]
   ·simp only [Bool.not_eq_true] at hd
    by_cases hw:Nm.under (.u 1 0 0) x=true
    ·by_cases e:x=.u 1 0 0
     ·subst e
      simp [hx,hv,hd,h1,Nm.isU]
     ·have hi:x.isU=false:=by
       cases x with
       | s d=>simp [Nm.under] at hw
       | u a b c=>simp [Nm.under] at hw;exact absurd (by simp [hw]) e
       | c q i j=>rfl
      simp [hx,hv,hd,hw,e,hi]
    ·simp only [Bool.not_eq_true] at hw
     simp [hx,hv,hd,hw]
section
variable {P:Program} {C:Nat→Prop} {w:World} {g0:Gh} {H:Nm→Option AO} {n:Nat} {gl:Nat→Option (List AV)} {st:St} {K:St→Prop} {E:AV→St→Prop} {d f:Nat} {ty:TypeId} {ps:String} {aft:Array Edge} {gd:Option (Nat×Bool)} {a0 a1:Operand} {Ts:Array TypeId} {bs xs:List Int} {pos:Nat}
def qVN (P:Program) (gl:Nat→Option (List AV)) (f:FuncId):Prop:=∀ (H:Nm→Option AO) (bs:List Int) (pos:Nat) (xs:List Int),BytesOk bs→pos≤1000000→(0<xs.length∧xs.length≤1000)→H (.u 1 0 0)=some (rdO bs pos)→H (.u 2 0 0)=some (.row 1 (qJ xs)) →
  FnE P gl f D12 [.pt (.u 1 0 0) 0,.hs (.u 2 0 0) 1 0 xs.length] H (fun _ z H'=>∃ v,z=iv v∧v∈xs∧H' (.u 1 0 0)=some (rdO bs (pos+1))) noE
theorem uH {t0 t1:Nat} (hF:qVN P gl f) (a:Nat) (xs:List Int) (hb:BytesOk bs) (hpos:pos≤1000000) (hx:0<xs.length∧xs.length≤1000:=by first|(simp;done)|fail) (hV:H (.u 2 0 0)=none) (hd:d<n:=by first|(simp;done)|fail)
  (h0:st.tm t0=.pt (.u 1 0 0) 0) (h1:st.tm t1=.hs (.s a) 1 0 xs.length) (hH:st.hp (.u 1 0 0)=some (rdO bs pos)) (hL:st.hp (.s a)=some (.row 1 (qJ xs)))
  (h:∀ v,v∈xs→K ((st.rdr a d (rdO bs (pos+1))).put (some d) (iv v))) :
  qK (un P C w g0 H n gl) ⟨some d,.call ⟨.value (.func f),#[.tmp t0,.tmp t1],Ts⟩,ty,ps,aft,gd⟩ K E st:=by
 have e1:(st.move (.s a) (.u 2 0 0)).hp (.u 1 0 0)=some (rdO bs pos):=by simp [hH]
 have e2:(st.move (.s a) (.u 2 0 0)).hp (.u 2 0 0)=some (.row 1 (qJ xs)):=by simp [hL]
 have hc:=qQo (a:=a) (d:=d) (Hs:=jl D12 (st.move (.s a) (.u 2 0 0)).hp) (by simp [hH]) (by simp [hL])
 refine qOO (.s a) (.u 2 0 0) (.inl rfl) (.inr (by simp [un,hV])) ?_
 refine qK.weak (K':=fun s=>∃ v H1,v∈xs∧H1 (.u 1 0 0)=some (rdO bs (pos+1))∧s=(((st.move (.s a) (.u 2 0 0)).call d D12 (jl D12 (st.move (.s a) (.u 2 0 0)).hp) H1).put (some d) (iv v))) ?_ ?_
 ·refine qDV (az:=[.pt (.u 1 0 0) 0,.hs (.u 2 0 0) 1 0 xs.length]) D12 (fun n h=>zM h) (fun k i j he=>?_) hd ?_ (hF _ bs pos xs hb hpos hx (by simp [hH]) (by simp [hL])) ?_
  ·by_cases hu:Nm.u k i j=.u 1 0 0
   ·right
    rw [hu]
    simp [hH]
   ·by_cases hu2:Nm.u k i j=.u 2 0 0
    ·right
     rw [hu2]
     simp [hL]
    ·left
     simp at hu hu2
     simp only [qB7,Nm.under,Bool.or_eq_false_iff,decide_eq_false_iff_not]
     refine⟨fun e=>?_,fun e=>?_⟩
     ·injection e with e1 e2 e3
      exact hu e1 e2 e3
     ·injection e with e1 e2 e3
      exact hu2 e1 e2 e3
  ·simp [h0,h1]
  ·rintro y H1 ⟨v,rfl,hv,hH1⟩
   exact⟨v,H1,hv,hH1,rfl⟩
 ·rintro s ⟨v,H1,hv,hH1,rfl⟩
  refine⟨((st.rdr a d (rdO bs (pos+1))).put (some d) (iv v)).hp,fun m ob e=>?_,?_⟩
  ·simp only [qD5,qUO] at e
   split at e
   ·rename_i hm
    subst hm
    simp only [qD5,St.call,St.nm]
    simp [hH1]
    exact sI e
   ·split at e
    ·cases e
    ·rename_i hm1 hm2
     simp only [Bool.or_eq_true,not_or,Bool.not_eq_true] at hm2
     obtain⟨⟨h12,hsd⟩,hsa⟩:=hm2
     have hu2:Nm.under (.u 2 0 0) m=false:=by
      simp only [qB7,Bool.or_eq_false_iff] at h12
      exact h12.2
     obtain⟨o,ho,rfl⟩:=Option.map_eq_some_iff.1 e
     simp only [qD5,St.call,St.nm,h12,hsd,Bool.or_false,Bool.false_eq_true,if_false,St.move,hmv,hu2,hsa,ho,Option.map_some,Option.some.injEq]
     rw [AO.tr_tr,← hc]
     rfl
  ·have ht:(((st.move (.s a) (.u 2 0 0)).call d D12 (jl D12 (st.move (.s a) (.u 2 0 0)).hp) H1).put (some d) (iv v)).tm=((st.rdr a d (rdO bs (pos+1))).put (some d) (iv v)).tm:=by
    funext t
    by_cases e:t=d
    ·simp [St.put,e]
    ·simp only [St.put,e,if_false]
     show (((st.tm t).tr (mv (.s a) (.u 2 0 0))).tr (cf d D12 (jl D12 (st.move (.s a) (.u 2 0 0)).hp)))=(st.tm t).tr (rk a d)
     rw [AV.tr_tr,← hc]
   rw [ht]
   exact h v hv
end
def rn (d:Nat) (m:Nm):Option Nm:=if Nm.under (.s d) m then none else if Nm.under (.u 1 0 0) m then (if m=.u 1 0 0 then some (.u 1 0 0) else none) else some m
def St.rdn (st:St) (d:Nat) (R:AO) (Hn:Nm→Option AO):St :=
 { tm:=fun t=>(st.tm t).tr (rn d),
   hp:=fun m=>if m=.u 1 0 0 then some R else if Nm.under (.u 1 0 0) m then none else if Nm.under (.s d) m then Hn m else (st.hp m).map (AO.tr (rn d)),
   n:=st.n,gl:=st.gl }
section
variable {st:St} {d t:Nat} {m:Nm} {R:AO} {Hn:Nm→Option AO}
@[simp] theorem rn_eq:rn d m=if Nm.under (.s d) m then none else if Nm.under (.u 1 0 0) m then (if m=.u 1 0 0 then some (.u 1 0 0) else none) else some m:=rfl
@[simp] theorem rdn_tm:(st.rdn d R Hn).tm t=(st.tm t).tr (rn d):=rfl
@[simp] theorem rdn_gl:(st.rdn d R Hn).gl=st.gl:=rfl
@[simp] theorem qPU:(st.rdn d R Hn).hp m=if m=.u 1 0 0 then some R else if Nm.under (.u 1 0 0) m then none else if Nm.under (.s d) m then Hn m else (st.hp m).map (AO.tr (rn d)):=rfl
end
theorem qQn {d:Nat} {Hs:Nm→Option AO} (h1:(Hs (.u 1 0 0)).isSome=true):cf d (Nm.under (.u 1 0 0)) Hs=rn d:=by
 funext x
 by_cases hd:Nm.under (.s d) x=true
 ·simp [hd]
 ·simp only [Bool.not_eq_true] at hd
  by_cases hw:Nm.under (.u 1 0 0) x=true
  ·by_cases e:x=.u 1 0 0
   ·subst e
    simp [hd,h1,Nm.isU]
   ·have hi:x.isU=false:=by
     cases x with
     | s d=>simp [Nm.under] at hw
     | u a b c=>simp [Nm.under] at hw;exact absurd (by simp [hw]) e
     | c q i j=>rfl
    simp [hd,hw,e,hi]
  ·simp only [Bool.not_eq_true] at hw
   simp [hd,hw]
section
variable {X:Ctx} {st:St} {K:St→Prop} {E:AV→St→Prop} {d f:Nat} {ty:TypeId} {ps:String} {aft:Array Edge} {gd:Option (Nat×Bool)} {args:Array Operand} {Ts:Array TypeId} {az:List AV} {R:Nm→AV→(Nm→Option AO)→Prop} {bs:List Int}
theorem qB8 (hd:d<X.n:=by first|(simp;done)|fail) (hs:(st.hp (.u 1 0 0)).isSome=true) (ha:args.toList.map (ev st)=az) (hF:FnE X.P X.gl f (Nm.under (.u 1 0 0)) az (qG3 (.u 1 0 0) st.hp) R noE)
  (h:∀ z H',R (.s d) z H'→∃ pos',H' (.u 1 0 0)=some (rdO bs pos')∧K ((st.rdn d (rdO bs pos') H').put (some d) z)) :
  qK X ⟨some d,.call ⟨.value (.func f),args,Ts⟩,ty,ps,aft,gd⟩ K E st:=by
 have hc:=qQn (d:=d) (Hs:=qG3 (.u 1 0 0) st.hp) (by simpa using hs)
 refine qK.weak (K':=fun s=>∃ z H',R (.s d) z H'∧s=((st.call d (Nm.under (.u 1 0 0)) (qG3 (.u 1 0 0) st.hp) H').put (some d) z)) ?_ ?_
 ·refine qKS (.u 1 0 0) rfl (fun _=>by rw [← Option.isSome_iff_ne_none];exact hs) hd ha hF fun z H' hR=>⟨z,H',hR,rfl⟩
 ·rintro s ⟨z,H',hR,rfl⟩
  obtain⟨pos',hH,hK⟩:=h z H' hR
  refine⟨((st.rdn d (rdO bs pos') H').put (some d) z).hp,fun m ob e=>?_,?_⟩
  ·simp only [qD5,qPU] at e
   simp only [qD5,St.call,St.nm]
   split at e
   ·rename_i hm
    subst hm
    simp [hH]
    exact sI e
   ·split at e
    ·cases e
    ·rename_i hw
     split at e
     ·rename_i hsd
      simp [hsd,e]
     ·rename_i hsd
      simp only [Bool.not_eq_true] at hw hsd
      simp only [hw,hsd,Bool.or_false,Bool.false_eq_true,if_false]
      rw [hc]
      exact e
  ·have ht:((st.call d (Nm.under (.u 1 0 0)) (qG3 (.u 1 0 0) st.hp) H').put (some d) z).tm=((st.rdn d (rdO bs pos') H').put (some d) z).tm:=by
    funext t
    by_cases e:t=d
    ·simp [St.put,e]
    ·simp only [St.put,e,if_false]
     show (st.tm t).tr (cf d (Nm.under (.u 1 0 0)) (qG3 (.u 1 0 0) st.hp))=(st.tm t).tr (rn d)
     rw [hc]
   rw [ht]
   exact hK
def qJB {α:Type} (bs:List Int) (V:α→AV) (Q:α→Nat→Prop):Nm→AV→(Nm→Option AO)→Prop:=fun _ z H'=>∃ v pos',z=V v∧Q v pos'∧H' (.u 1 0 0)=some (rdO bs pos')
theorem qAj {α:Type} {V:α→AV} {Q:α→Nat→Prop} (hd:d<X.n:=by first|(simp;done)|fail) (hs:(st.hp (.u 1 0 0)).isSome=true) (ha:args.toList.map (ev st)=az) (hF:FnE X.P X.gl f (Nm.under (.u 1 0 0)) az (qG3 (.u 1 0 0) st.hp) (qJB bs V Q) noE)
  (h:∀ v pos',Q v pos'→K ((st.rdn d (rdO bs pos') (fun _=>none)).put (some d) (V v))) :
  qK X ⟨some d,.call ⟨.value (.func f),args,Ts⟩,ty,ps,aft,gd⟩ K E st:=by
 refine qK.weak (K':=fun s=>∃ v pos' H',Q v pos'∧s=((st.rdn d (rdO bs pos') H').put (some d) (V v))) ?_ ?_
 ·refine qB8 (bs:=bs) hd hs ha hF ?_
  rintro z H' ⟨v,pos',rfl,hQ,hH⟩
  exact⟨pos',hH,v,pos',H',hQ,rfl⟩
 ·rintro s ⟨v,pos',H',hQ,rfl⟩
  refine⟨((st.rdn d (rdO bs pos') (fun _=>none)).put (some d) (V v)).hp,fun m ob e=>?_,h v pos' hQ⟩
  simp only [qD5,qPU] at e ⊢
  split at e
  ·rename_i hm;simp only [hm,if_true];exact e
  ·rename_i hm
   rw [if_neg hm]
   split at e
   ·cases e
   ·rename_i hw
    rw [if_neg hw]
    split at e
    ·cases e
    ·rename_i hsd
     rw [if_neg hsd]
     exact e
end
end Go.Hm
end
section
namespace Go.Hm
open Go Go.RowKit
def wJ (L:List Stm):List Stm:=L.filter fun s=>!((s.kind==9)||(s.kind==10))
def qAA (k:Blk):Blk:={ k with body:=wJ k.body }
def qAf (p:Prg):Prg:=p.map qAA
theorem qGp {L:List Stm}:(wJ L).length≤L.length:=List.length_filter_le _ _
theorem qKF {L:List Stm} {i:Nat} {s:Stm} (h:L[i]?=some s):wJ (L.take (i+1))=if ((s.kind==9)||(s.kind==10))=true then wJ (L.take i) else wJ (L.take i)++[s]:=by
 rw [List.take_add_one,h]
 simp only [wJ,List.filter_append,Option.toList_some]
 cases e:((s.kind==9)||(s.kind==10))
 ·rw [if_neg (by simp)]
  simp only [List.filter_cons,e,Bool.not_false,if_true,List.filter_nil]
 ·rw [if_pos rfl]
  simp only [List.filter_cons,e,Bool.not_true,Bool.false_eq_true,if_false,List.filter_nil,List.append_nil]
theorem qHm {p:Prg} {i:Nat} {k:Blk} (h:p[i]?=some k):setBody (uO qAA p i) i (wJ k.body)=uO qAA p (i+1):=by
 rw [← qLT (f:=qAA) h]
 have hg:=qGT (f:=qAA) h
 apply List.ext_getElem?
 intro j
 rw [List.getElem?_set]
 cases hj:(uO qAA p i)[j]? with
 | none =>
  have h1:(setBody (uO qAA p i) i (wJ k.body))[j]?=none:=by
   rw [List.getElem?_eq_none_iff,z8]
   exact List.getElem?_eq_none_iff.1 hj
  rw [h1]
  by_cases e:i=j
  ·subst e;rw [hg] at hj;cases hj
  ·rw [if_neg e]
 | some q =>
  rw [jM hj]
  by_cases e:i=j
  ·subst e
   rw [hg] at hj
   obtain rfl:=sI hj
   rw [if_pos rfl,if_pos rfl,if_pos (gS hg).1]
   rfl
  ·rw [if_neg e,if_neg e]
def al (N V m:Nm):Option Nm:=if m=N then some V else if Nm.under V m then none else some m
def St.alias (st:St) (N V:Nm) (t:Nat):St:={ tm:=fun t'=>if t'=t then (st.tm t).tr (al N V) else (st.tm t').tr (kl V),hp:=hkl V st.hp,n:=st.n,gl:=st.gl }
section
variable {st:St} {N V m:Nm} {t t':Nat}
@[simp] theorem al_eq:al N V m=if m=N then some V else if Nm.under V m then none else some m:=rfl
@[simp] theorem alias_tm:(st.alias N V t).tm t'=if t'=t then (st.tm t).tr (al N V) else (st.tm t').tr (kl V):=rfl
@[simp] theorem alias_gl:(st.alias N V t).gl=st.gl:=rfl
@[simp] theorem alias_hp:(st.alias N V t).hp m=if Nm.under V m then none else (st.hp m).map (AO.tr (kl V)):=rfl
end
theorem Rw.alias {X:Ctx} {st:St} {a:Go.Act} {w:World} (h:Rw X st a w) (N V:Nm) (t:Nat) (hV:X.ext V=false):Rw X (st.alias N V t) a w:=by
 obtain⟨C,g,h1,h2,h3,h4,h5,hg⟩:=h
 let g':Gh:={ C:=g.C,φ:=fun m=>if m=V then g.φ N else g.φ m,κ:=fun m=>if m=V then g.κ N else g.κ m }
 have hs:=hg.step (g':=g') (w':=w) (f:=kl V) (hp':=hkl V st.hp) rfl (fun n n' e=>by
  obtain⟨rfl,hu⟩:=qCi e
  have:¬ n=V:=fun e=>by rw [e,Nm.under_self] at hu;cases hu
  simp [g',this]) rfl rfl rfl (Nat.le_refl _) (fun _ _=>rfl) (fun _ _ _=>rfl) (fun m o e=>by
  obtain⟨o',e1,e2,e3⟩:=qEs e
  exact .inl ⟨m,o',e1,e2,e3,fun _ _=>rfl⟩)
 refine⟨C,g',h1,h2,h3,h4,fun k i j he=>?_,⟨hs.inv,hs.defers,hs.size,fun t'=>?_,hs.glob⟩⟩
 ·have:¬ Nm.u k i j=V:=fun e=>by rw [e,hV] at he;cases he
  simp only [g',this,if_false]
  exact h5 k i j he
 ·by_cases e:t'=t
  ·subst e
   simp only [St.alias,if_true]
   refine (hg.slots t').tr (g':=g') (fun _ h=>h) (fun _ _=>rfl) (fun n n' e=>?_)
   unfold al at e
   split at e
   ·rename_i hn
    subst hn
    obtain rfl:=sI e
    simp [g']
   ·split at e
    ·cases e
    ·rename_i hu
     obtain rfl:=sI e
     have:¬ n=V:=fun e=>by rw [e,Nm.under_self] at hu;exact hu rfl
     simp [g',this]
  ·simp only [St.alias,e,if_false]
   exact hs.slots t'
section
variable {X:Ctx} {st:St} {K:St→Prop} {E:AV→St→Prop} {o:Oper}
theorem qAw (N V:Nm) (t:Nat) (hV:X.ext V=false) (h:qK X o K E (st.alias N V t)):qK X o K E st :=
 fun a w Q hR hE=>h a w Q (hR.alias N V t hV) hE
end
section
variable {n:Nm} {p:Prg} {a d i j k:Nat}
@[simp] theorem pRows_rk (h1:Nm.under (.s a) n=false) (h2:Nm.under (.s d) n=false) (h3:Nm.under (.u 2 0 0) n=false) (h4:Nm.under (.u 1 0 0) n=false):(jN n p).map (fun r=>r.map (AV.tr (rk a d)))=jN n p:=zO (by simp [h1,h2,h3,h4])
@[simp] theorem pRows_rn (h2:Nm.under (.s d) n=false) (h4:Nm.under (.u 1 0 0) n=false):(jN n p).map (fun r=>r.map (AV.tr (rn d)))=jN n p:=zO (by simp [h2,h4])
@[simp] theorem pRows_klu (h:Nm.under (.u i j k) n=false):(jN n p).map (fun r=>r.map (AV.tr (kl (.u i j k))))=jN n p:=zO (by simp [h])
end
end Go.Hm
end
section
namespace Go.Hm
open Go Go.RowKit
structure GenP (p:Prg):Prop where
 heads:z6 p
 len:1≤p.length∧p.length≤8
 params:∀ k∈p,k.params.length≤2
 body:∀ k∈p,k.body.length≤14
theorem GenP.sml {p:Prg} (h:GenP p):Sml p:=⟨by have:=h.len;omega,fun k hk=>by have:=h.params k hk;omega,fun k hk=>by have:=h.body k hk;omega⟩
theorem GenP.one {k:Blk} (h:k.parent=-1) (hp:k.params.length≤2) (hb:k.body.length≤14):GenP [k]:=by
 refine⟨fun i q hq=>?_,by simp,fun q hq=>?_,fun q hq=>?_⟩
 ·cases i with
  | zero =>
   simp at hq
   subst hq
   omega
  | succ i=>simp at hq
 all_goals
  simp at hq
  subst hq
  assumption
theorem GenP.add {p:Prg} {k:Blk} (h:GenP p) (hl:p.length≤7) (hp:0≤k.parent∧k.parent<p.length) (h1:k.params.length≤2) (h2:k.body.length≤14):GenP (p++[k]):=by
 refine⟨fun i q hq=>?_,by simp;omega,fun q hq=>?_,fun q hq=>?_⟩
 ·rw [List.getElem?_append] at hq
  split at hq
  ·exact h.heads i q hq
  ·rename_i hi
   have:i - p.length=0:=by
    refine Nat.eq_zero_of_not_pos fun hlt=>?_
    obtain⟨m,hm⟩:∃ m,i - p.length=m+1:=⟨i - p.length - 1,by omega⟩
    rw [hm] at hq
    simp at hq
   rw [this] at hq
   simp at hq
   subst hq
   omega
 ·rcases List.mem_append.1 hq with hq|hq
  ·exact h.params q hq
  ·simp at hq;subst hq;exact h1
 ·rcases List.mem_append.1 hq with hq|hq
  ·exact h.body q hq
  ·simp at hq;subst hq;exact h2
theorem ve {p:Prg} {i:Nat} {L:List Stm} {q:Blk} (h:q∈setBody p i L):∃ r∈p,q.params=r.params∧(q.body=r.body∨q.body=L):=by
 obtain⟨c,hc⟩:=List.getElem?_of_mem h
 cases hr:p[c]? with
 | none =>
  have:=(gS hc).1
  rw [z8] at this
  rw [gE this] at hr
  cases hr
 | some r =>
  rw [jM hr] at hc
  refine⟨r,gM hr,?_⟩
  split at hc
  ·obtain rfl:=sI hc
   exact⟨rfl,.inr rfl⟩
  ·obtain rfl:=sI hc
   exact⟨rfl,.inl rfl⟩
theorem qEJ {p:Prg} {i:Nat} {L:List Stm} (h:z6 p):z6 (setBody p i L):=by
 intro c q hq
 cases hr:p[c]? with
 | none =>
  have:=(gS hq).1
  rw [z8] at this
  rw [gE this] at hr
  cases hr
 | some r =>
  have:=h c r hr
  rw [jM hr] at hq
  split at hq <;> obtain rfl:=sI hq <;> exact this
theorem GenP.setBody {p:Prg} {i:Nat} {L:List Stm} (h:GenP p) (hL:L.length≤14):GenP (setBody p i L):=by
 refine⟨qEJ h.heads,by simpa using h.len,fun q hq=>?_,fun q hq=>?_⟩
 ·obtain⟨r,hr,h1,_⟩:=ve hq
  rw [h1];exact h.params r hr
 ·obtain⟨r,hr,_,h2⟩:=ve hq
  rcases h2 with h2|h2
  ·rw [h2];exact h.body r hr
  ·rw [h2];exact hL
theorem GenP.bare {p:Prg} (h:GenP p):GenP (qAf p):=by
 refine⟨fun i q hq=>?_,by simpa [qAf] using h.len,fun q hq=>?_,fun q hq=>?_⟩
 ·simp only [qAf,List.getElem?_map] at hq
  obtain⟨r,hr,rfl⟩:=Option.map_eq_some_iff.1 hq
  exact h.heads i r hr
 ·obtain⟨r,hr,rfl⟩:=List.mem_map.1 hq
  exact h.params r hr
 ·obtain⟨r,hr,rfl⟩:=List.mem_map.1 hq
  exact Nat.le_trans qGp (h.body r hr)
def qHq (bs:List Int) (Q:Prg→Nat→Prop):Nm→AV→(Nm→Option AO)→Prop:=fun r z H'=>∃ (p:Prg) (pos':Nat),z=.agg [.hs r 4 0 p.length]∧OwnP H' r p∧Q p pos'∧H' (.u 1 0 0)=some (rdO bs pos')
theorem Sml.set {p:Prg} {i:Nat} {k:Blk} (h:Sml p) (h1:k.params.length≤1048576) (h2:k.body.length≤1048576):Sml (p.set i k):=by
 refine⟨by simpa using h.len,fun q hq=>?_,fun q hq=>?_⟩
 ·rcases List.mem_or_eq_of_mem_set hq with hq|rfl
  ·exact h.params q hq
  ·exact h1
 ·rcases List.mem_or_eq_of_mem_set hq with hq|rfl
  ·exact h.body q hq
  ·exact h2
theorem qCI {p:Prg} {i:Nat} {L:List Stm} (h:Sml p) (hL:L.length≤1048576):Sml (setBody p i L):=by
 refine⟨by simpa using h.len,fun q hq=>?_,fun q hq=>?_⟩
 ·obtain⟨r,hr,h1,_⟩:=ve hq
  rw [h1];exact h.params r hr
 ·obtain⟨r,hr,_,h2⟩:=ve hq
  rcases h2 with h2|h2
  ·rw [h2];exact h.body r hr
  ·rw [h2];exact hL
theorem qGI {n:Nm} {p:Prg} {i:Nat} {k:Blk} {v:Int} (hk:p[i]?=some k):qa (jN n p) i 1 [iv v]=jN n (p.set i { k with parent:=v }):=by
 apply List.ext_getElem?
 intro j
 simp only [qa,List.getElem?_modify,kU,List.getElem?_set]
 by_cases e:i=j
 ·subst e
  simp [hk,(gS hk).1,(gS hk).2]
 ·simp [e]
theorem qC3 {n:Nm} {a i len:Nat} {p:Prg} {k:Blk} {L:List Int} (hk:p[i]?=some k) (hl:len=L.length) (hn:Nm.under (.s a) n=false) (hn':Nm.under (.c n i 2) n=false) :
  (qa (jN n p) i 2 [.hs (.s a) 1 0 len]).map (fun r=>r.map (AV.tr (mv (.s a) (.c n i 2))))=jN n (p.set i { k with params:=L }):=by
 subst hl
 apply List.ext_getElem?
 intro j
 simp only [qa,List.getElem?_map,List.getElem?_modify,kU,List.getElem?_set]
 by_cases e:i=j
 ·subst e
  simp [(gS hk).1,(gS hk).2,hn,hn']
 ·have e':¬ j=i:=fun h=>e h.symm
  cases hx:p[j]? with
  | none=>simp [hx,e]
  | some x=>simp [hx,hn,hn',e,e']
end Go.Hm
end
section

end
section
namespace Go.Hm
open Go Go.RowKit
structure Free (k:Blk) (y:Int):Prop where
 rd:y∉zq k.body
 bd:y∉uv k
 d9:y∉kj k 9
 d10:y∉kj k 10
section
variable {k:Blk} {x y z:Int} (hx:0≤x∧x≤7) (hy:0≤y∧y≤7) (hxy:x≠y) (hf:Free k y)
include hx hy hxy hf
end
structure RenH (p:Prg) (b:Nat) (x y:Int):Prop where
 sh:ShapeP p
 made:∀ i,0<i→i<p.length→vQ p i=1
 decl:∀ (c:Nat) k,0<c→p[c]?=some k→∀ n:Nat,n<8→yk p c k n=true
 hb:0<b
 hbl:b<p.length
 hx:0≤x∧x≤7
 hy:0≤y∧y≤7
 hxy:x≠y
 fn:∀ k,p[b]?=some k→k.kind=1
 loc:∀ k,p[b]?=some k→zZ b k x=true
 free:∀ (c:Nat) k,p[c]?=some k→zJ p c b=true→Free k y
theorem ja {p:Prg} {c b:Int} (h:zJ p c b=true):b≤c:=by
 by_cases e:c≤b
 ·rw [jU e] at h
  simp at h
  omega
 ·omega
theorem qBg {p:Prg} {b:Nat} {z:Int} (hh:z6 p) (hb:0<b):∀ (n:Nat),n<p.length→zF p z p.length n=b→zJ p n b=true:=by
 intro n
 induction n using Nat.strongRecOn with
 | ind n ih =>
  intro hn ho
  rcases Nat.eq_zero_or_pos n with e|e
  ·subst e
   rw [yp (by simp)] at ho
   omega
  ·obtain⟨q,hq⟩:∃ q,p[n]?=some q:=⟨_,gE hn⟩
   rw [j5 hh hq e] at ho
   obtain⟨g1,g2,g3⟩:=hh n q hq
   have key:zF p z p.length q.parent=b→zJ p n b=true:=by
    intro h
    have g4:=g3 e
    obtain⟨m,hm⟩:∃ m:Nat,q.parent=m:=⟨q.parent.toNat,by omega⟩
    have h2:=ih m (by omega) (by omega) (by rw [← hm];exact h)
    have h3:=ja h2
    rw [jB hh (by omega) hq (by omega),hm]
    exact h2
   split at ho
   ·exact key ho
   ·split at ho
    ·omega
    ·split at ho
     ·have:n=b:=by omega
      subst this
      rw [jU (by omega)]
      simp
     ·exact key ho
theorem kh {p:Prg} {b c:Nat} {k:Blk} {z:Int} (hh:z6 p) (hb:0<b) (hk:p[c]?=some k) (h0:0<c) (h:outer p c z=b):zJ p c b=true:=by
 rw [jv hh hk] at h
 obtain⟨g1,g2,g3⟩:=hh c k hk
 have g4:=g3 h0
 have hc:=(gS hk).1
 obtain⟨m,hm⟩:∃ m:Nat,k.parent=m:=⟨k.parent.toNat,by omega⟩
 have h2:=qBg hh hb m (by omega) (by rw [← hm];exact h)
 have h3:=ja h2
 rw [jB hh (by omega) hk (by omega),hm]
 exact h2
theorem vk {p:Prg} {b c:Nat} {k:Blk} {z:Int} (hh:z6 p) (hb:0<b) (hk:p[c]?=some k) (h:qz p c z=b):zJ p c b=true:=by
 simp only [qz,hk] at h
 split at h
 ·omega
 ·rename_i hn
  split at h
  ·have:c=b:=by omega
   subst this
   rw [jU (by omega)]
   simp
  ·exact kh hh hb hk (by omega) h
section
variable {p:Prg} {b:Nat} {x y:Int} (H:RenH p b x y)
include H
omit H in
end
end Go.Hm
end
section

end
section
namespace Go.Hm
open Go Go.RowKit Go.ChangeShapes Go.WideShapes Go.Deep
variable {H:Type} {enc:TypeId×Value→H} {P:Program} {w:World}
theorem qQq {t:TypeId} (ht:P.underlying t=some (.int .u8)):qHp enc P w t (fun k:Int=>[byt k]) (fun k=>0≤k∧k≤255):=by
 intro n cs y h _
 obtain⟨k,rfl,_,hw⟩:=DataW.trod_int ht h
 refine⟨k,by simpa [Lit.wf,IntKind.min,IntKind.max,IntKind.signed,IntKind.bits] using hw,rfl,fun j v a hv ha=>?_⟩
 cases j with
 | zero =>
  simp at hv ha
  subst hv;subst ha
  exact⟨.sc _,rfl⟩
 | succ j=>simp at hv
theorem qIN {t e:TypeId} (ht:P.underlying t=some (.slice e)) (he:P.underlying e=some (.int .u8)) (hc:P.cellsOf e=1) (hby:0<P.bytesOf e)
  {r:Reach} {b0:Nat} {v:Value} {d:DataW H} {p:List MemPlace} (hv:Value.okWide P w r b0 t v) (h:DataW.Trod enc P w 0 (fun _=>true) true t v d p) (hw:∀ m∈d.weights P t,m≤reachBytes) :
  ∃ bs:List Int,(bs.length≤1152921504606846976∧∀ x∈bs,0≤x∧x≤255)∧RV (g0 w) w v (bsl bs):=by
 obtain⟨a,len,cap,rfl⟩:=okWide_slice ht hv
 obtain⟨fuel,hf⟩:=h
 obtain⟨x,hx,hl,hr⟩:=qNs (enc:=enc) (w:=w) ht hc (by omega) hby (fun _=>rfl) (qQq he) _ _ _ hf hw
 exact⟨x,hx,(hr 0 _ _ rfl rfl).1⟩
end Go.Hm
end
