/-
  Own texts, joined by mkclaim.py: Hm161, Hm162, Hm163, Hm164, Hm165, Hm166, Hm167, Hm168, Hm169.
-/
import Derived.Test.YtbgmnmnoaamgkaaGreatDoorC12
import Derived.Test.YtbgmnmnoaamgkaaGreatDoorC10
import Derived.Test.YtbgmnmnoaamgkaaGreatDoorC15
import Derived.Test.YtbgmnmnoaamgkaaGreatDoorC11
import Derived.Test.YtbgmnmnoaamgkaaGreatDoorC14
import Derived.ScopeJumps
set_option linter.unusedSimpArgs false
set_option linter.unusedVariables false
set_option maxRecDepth 100000
set_option maxHeartbeats 4000000

section
namespace Go.Hm
open Go Go.RowKit
theorem Nm.ren_ren_back {k0 k1:Nm}:∀ {k:Nm},Nm.under k0 k=true→Nm.ren k1 k0 (Nm.ren k0 k1 k)=k:=by
 have base:∀ k:Nm,k=k0→Nm.ren k1 k0 (Nm.ren k0 k1 k)=k:=by
  intro k e
  have h1:Nm.ren k0 k1 k=k1:=by cases k <;> simp [Nm.ren,e]
  rw [h1,e]
  cases k1 <;> simp [Nm.ren]
 intro k
 induction k with
 | s d=>intro h;simp [Nm.under] at h;exact base _ h
 | u a b d=>intro h;simp [Nm.under] at h;exact base _ h
 | c q i j ih =>
  intro h
  by_cases hq:Nm.c q i j=k0
  ·exact base _ hq
  ·simp [Nm.under,hq] at h
   have h1:Nm.ren k0 k1 (.c q i j)=.c (Nm.ren k0 k1 q) i j:=by simp [Nm.ren,hq]
   have h2:=Nm.not_under_c (i:=i) (j:=j) (Nm.under_ren (k1:=k1) q h)
   rw [h1]
   simp only [Nm.ren,h2,if_false,ih h]
def wrO (n:Nm) (o:AO) (hp:Nm→Option AO):Nm→Option AO:=fun m=>if m=n then some o else hp m
@[simp] theorem wrO_eq {n m:Nm} {o:AO} {hp:Nm→Option AO}:wrO n o hp m=if m=n then some o else hp m:=rfl
def qBE (D:Nm→Bool) (hp' hp:Nm→Option AO):Prop:=∃ F:Nm→Option Nm,(∀ k,D k=true→F k=some k)∧∀ k,D k=true→hp' k=(hp k).map (AO.tr F)
def qDn (D:Nm→Bool) (v:AV) (n:Nm) (o:AO) (H:Nm→Option AO):Nm→AV→(Nm→Option AO)→Prop:=fun _ y H'=>y=v∧∀ k,D k=true→H' k=(wrO n o H k).map (AO.tr (jO D []))
def rtn (D:Nm→Bool) (N V:Nm) (d:Nat) (hp:Nm→Option AO) (m:Nm):Option Nm :=
 if Nm.under N m then (if m=N then some N else none) else if Nm.under V m then none else if Nm.under (.s d) m then none else if D m then (if m.isU&&(hp m).isSome then some m else none) else some m
def St.mutn (st:St) (N V:Nm) (d:Nat) (D:Nm→Bool) (hp':Nm→Option AO):St :=
 { tm:=fun t=>(st.tm t).tr (rtn D N V d st.hp),
   hp:=fun m=>if D m||Nm.under (.s d) m then hp' m else if Nm.under V m then none else (st.hp m).map (AO.tr (rtn D N V d st.hp)),
   n:=st.n,gl:=st.gl }
section
variable {st:St} {N V m n:Nm} {d t:Nat} {D:Nm→Bool} {hp hp' H':Nm→Option AO}
@[simp] theorem rtn_eq:rtn D N V d hp m=if Nm.under N m then (if m=N then some N else none) else if Nm.under V m then none else if Nm.under (.s d) m then none else if D m then (if m.isU&&(hp m).isSome then some m else none) else some m:=rfl
@[simp] theorem mutn_tm:(st.mutn N V d D hp').tm t=(st.tm t).tr (rtn D N V d st.hp):=rfl
@[simp] theorem mutn_gl:(st.mutn N V d D hp').gl=st.gl:=rfl
@[simp] theorem mutn_hp:(st.mutn N V d D hp').hp m=if D m||Nm.under (.s d) m then hp' m else if Nm.under V m then none else (st.hp m).map (AO.tr (rtn D N V d st.hp)):=rfl
theorem qNu (hV:V.isU=true) (hNV:Nm.under V N=false) (hDN:∀ k,Nm.under N k=true→D k=true) (hDV:∀ k,Nm.under V k=true→D k=false) (hs:(hp N).isSome=true) :
  (fun m=>((mv N V m).bind (cf d (fun k=>D k||Nm.under V k) (yC (fun k=>D k||Nm.under V k) (hmv N V hp)))).bind (mv V N))=rtn D N V d hp:=by
 funext x
 by_cases hx:Nm.under N x=true
 ·have hu:Nm.under V (Nm.ren N V x)=true:=Nm.under_ren x hx
  have hsd:=qFX (d:=d) hV hu
  by_cases e:x=N
  ·subst e
   obtain⟨o,ho⟩:=Option.isSome_iff_exists.1 hs
   simp [hV,Nm.under_self,hsd] at hsd ⊢
   simp [hsd,hmv,ho]
  ·have:=qKl (V:=V) hx e
   simp [hx,hu,hsd,this,e]
 ·simp only [Bool.not_eq_true] at hx
  by_cases hv:Nm.under V x=true
  ·simp [hx,hv]
  ·simp only [Bool.not_eq_true] at hv
   by_cases hd:Nm.under (.s d) x=true
   ·simp [hx,hv,hd]
   ·simp only [Bool.not_eq_true] at hd
    by_cases hD:D x=true
    ·simp [hx,hv,hd,hD,hmv]
     cases hp x <;> cases x.isU <;> simp [hx,hv]
    ·simp only [Bool.not_eq_true] at hD
     simp [hx,hv,hd,hD]
theorem qLQ {y:AV} (hV:V.isU=true) (hNV:Nm.under V N=false) (hDN:∀ k,Nm.under N k=true→D k=true) (hDV:∀ k,Nm.under V k=true→D k=false) (hDr:∀ k,D k=true→k.sroot=false) (hs:(st.hp N).isSome=true) (hy:y.tr (mv V N)=y) :
  ∃ q,q=((((st.move N V).call d (fun k=>D k||Nm.under V k) (yC (fun k=>D k||Nm.under V k) (st.move N V).hp) H').put (some d) y).move V N)∧q=(st.mutn N V d D q.hp).put (some d) y:=by
 refine⟨_,rfl,?_⟩
 have hc:=qNu (hp:=st.hp) (d:=d) hV hNV hDN hDV hs
 have e1:∀ a:AV,((a.tr (mv N V)).tr (cf d (fun k=>D k||Nm.under V k) (yC (fun k=>D k||Nm.under V k) (hmv N V st.hp)))).tr (mv V N)=a.tr (rtn D N V d st.hp):=by
  intro a
  rw [AV.tr_tr (mv N V),AV.tr_tr,← hc]
 have e2:∀ o:AO,((o.tr (mv N V)).tr (cf d (fun k=>D k||Nm.under V k) (yC (fun k=>D k||Nm.under V k) (hmv N V st.hp)))).tr (mv V N)=o.tr (rtn D N V d st.hp):=by
  intro o
  rw [AO.tr_tr (mv N V),AO.tr_tr,← hc]
 generalize hq:((((st.move N V).call d (fun k=>D k||Nm.under V k) (yC (fun k=>D k||Nm.under V k) (st.move N V).hp) H').put (some d) y).move V N)=q
 have h1:q.tm=((st.mutn N V d D q.hp).put (some d) y).tm:=by
  subst hq
  funext t
  simp only [St.move,St.nm,St.put,St.mutn,St.call]
  by_cases h:t=d
  ·simp [h,hy]
  ·simp only [h,if_false]
   exact e1 _
 have h2:q.hp=((st.mutn N V d D q.hp).put (some d) y).hp:=by
  funext m
  simp only [St.put,St.mutn]
  by_cases hD:D m=true
  ·simp [hD]
  simp only [Bool.not_eq_true] at hD
  by_cases hd:Nm.under (.s d) m=true
  ·simp [hd]
  simp only [Bool.not_eq_true] at hd
  have hN:Nm.under N m=false:=by
   cases h:Nm.under N m with
   | false=>rfl
   | true=>rw [hDN m h] at hD;cases hD
  simp only [hD,hd,Bool.or_false,Bool.false_eq_true,if_false]
  subst hq
  simp only [St.move,St.nm,St.put,St.call,hmv,hN,Bool.false_eq_true,if_false]
  by_cases hv:Nm.under V m=true
  ·simp [hv]
  ·simp only [Bool.not_eq_true] at hv
   simp only [hv,hD,hd,Bool.or_false,Bool.false_eq_true,if_false]
   cases hm:st.hp m with
   | none=>rfl
   | some o=>simp only [Option.map_some];rw [← e2 o]
 have h3:q.n=((st.mutn N V d D q.hp).put (some d) y).n:=by subst hq;rfl
 have h4:q.gl=((st.mutn N V d D q.hp).put (some d) y).gl:=by subst hq;rfl
 cases q
 simp only [St.put,St.mutn] at h1 h2 h3 h4 ⊢
 congr 1
theorem qLO {o:AO} {y:AV} (hV:V.isU=true) (hNV:Nm.under V N=false) (hDN:∀ k,Nm.under N k=true→D k=true) (hDV:∀ k,Nm.under V k=true→D k=false) (hDn:D n=true) (hNn:Nm.under N n=false)
  (hR:∀ k,(D k||Nm.under V k)=true→H' k=(wrO n (o.tr (mv N V)) (yC (fun k=>D k||Nm.under V k) (hmv N V st.hp)) k).map (AO.tr (jO (fun k=>D k||Nm.under V k) []))) :
  qBE D ((((st.move N V).call d (fun k=>D k||Nm.under V k) (yC (fun k=>D k||Nm.under V k) (st.move N V).hp) H').put (some d) y).move V N).hp (wrO n o st.hp):=by
 have hVn:Nm.under V n=false:=by
  cases h:Nm.under V n with
  | false=>rfl
  | true=>rw [hDV n h] at hDn;cases hDn
 refine⟨fun k=>((mv N V k).bind (jO (fun k=>D k||Nm.under V k) [])).bind (mv V N),fun k hk=>?_,fun k hk=>?_⟩
 ·by_cases hx:Nm.under N k=true
  ·have hu:Nm.under V (Nm.ren N V k)=true:=Nm.under_ren k hx
   simp only [mv,hx,if_true,Option.bind_some,jO,hu,Bool.or_true,Nm.ren_ren_back hx]
  ·simp only [Bool.not_eq_true] at hx
   have hv:Nm.under V k=false:=by
    cases h:Nm.under V k with
    | false=>rfl
    | true=>rw [hDV k h] at hk;cases hk
   simp [mv,hx,hv,jO,hk]
 ·have e2:∀ o:AO,((o.tr (mv N V)).tr (jO (fun k=>D k||Nm.under V k) [])).tr (mv V N)=o.tr (fun k=>((mv N V k).bind (jO (fun k=>D k||Nm.under V k) [])).bind (mv V N)):=by
   intro o
   rw [AO.tr_tr (mv N V),AO.tr_tr]
  by_cases hx:Nm.under N k=true
  ·have hu:Nm.under V (Nm.ren N V k)=true:=Nm.under_ren k hx
   have hne:¬ Nm.ren N V k=n:=fun e=>by rw [e,hVn] at hu;cases hu
   have hne2:¬ k=n:=fun e=>by rw [e,hNn] at hx;cases hx
   have hb:=Nm.ren_ren_back (k1:=V) hx
   have hb2:mv V N (Nm.ren N V k)=some k:=by simp only [mv,hu,if_true,hb]
   have hb3:mv N V k=some (Nm.ren N V k):=by simp only [mv,hx,if_true]
   have hR1:=hR (Nm.ren N V k) (by simp [hu])
   simp only [wrO,hne,if_false,yC,hu,Bool.or_true,if_true,hmv,hb,hb3] at hR1
   simp only [St.move,St.nm,St.put,St.call]
   simp only [hmv,hx,if_true,hb2,hu,Bool.or_true,Bool.true_or,hR1,wrO,hne2,if_false]
   cases st.hp k with
   | none=>rfl
   | some o=>simp only [Option.map_some];rw [← e2 o]
  ·simp only [Bool.not_eq_true] at hx
   have hv:Nm.under V k=false:=by
    cases h:Nm.under V k with
    | false=>rfl
    | true=>rw [hDV k h] at hk;cases hk
   have hR1:=hR k (by simp [hk])
   simp only [wrO,yC,hk,Bool.true_or,if_true,hmv,hx,hv,Bool.false_eq_true,if_false] at hR1
   simp only [St.move,St.nm,St.put,St.call]
   simp only [hmv,hx,hv,hk,Bool.false_eq_true,if_false,Bool.true_or,if_true,hR1,wrO]
   by_cases e:k=n
   ·simp only [e,if_true,Option.map_some];rw [← e2 o]
   ·simp only [e,if_false]
    cases st.hp k with
    | none=>rfl
    | some o=>simp only [Option.map_some];rw [← e2 o]
end
section
variable {D:Nm→Bool} {d i off:Nat} {rows:List (List AV)} {vals:List AV} {o:Option AO}
theorem wA {F:Nm→Option Nm}:(q8 rows i off vals).map (fun r=>r.map (AV.tr F))=q8 (rows.map (fun r=>r.map (AV.tr F))) i off (vals.map (AV.tr F)):=by
 apply List.ext_getElem?
 intro q
 simp only [q8,List.getElem?_map,List.getElem?_modify]
 by_cases e:i=q
 ·subst e
  cases rows[i]? with
  | none=>simp
  | some r=>simp [List.map_take,List.map_drop]
 ·cases rows[q]? with
  | none=>simp [e]
  | some r=>simp [e]
theorem qPY (hD:∀ k,D k=true→k.sroot=false):(fun m=>(kl (.s d) m).bind (jO D []))=jO D []:=by
 funext m
 by_cases h:Nm.under (.s d) m=true
 ·have h1:=Nm.sroot_under (a:=.s d) rfl h
  have h2:D m=false:=by
   cases hx:D m with
   | false=>rfl
   | true=>rw [hD m hx] at h1;cases h1
  simp [h,jO,h2]
 ·simp only [Bool.not_eq_true] at h
  simp [h]
theorem qLo (hD:∀ k,D k=true→k.sroot=false) {a:AV}:(a.tr (kl (.s d))).tr (jO D [])=a.tr (jO D []):=by rw [AV.tr_tr,qPY hD]
theorem qLm (hD:∀ k,D k=true→k.sroot=false):(o.map (AO.tr (kl (.s d)))).map (AO.tr (jO D []))=o.map (AO.tr (jO D [])):=by
 cases o with
 | none=>rfl
 | some o=>simp only [Option.map_some,AO.tr_tr,qPY hD]
theorem qLl (hD:∀ k,D k=true→k.sroot=false):(rows.map (fun r=>r.map (AV.tr (kl (.s d))))).map (fun r=>r.map (AV.tr (jO D [])))=rows.map (fun r=>r.map (AV.tr (jO D []))):=by
 simp only [List.map_map]
 refine List.map_congr_left fun r _=>?_
 simp only [Function.comp,List.map_map]
 refine List.map_congr_left fun a _=>?_
 exact qLo hD
theorem qOh {b:Nat} (hD:∀ k,D k=true→k.sroot=false):(rows.map ((fun r=>r.map (AV.tr (kl (.s b))))∘fun r=>r.map (AV.tr (kl (.s d))))).map (fun r=>r.map (AV.tr (jO D [])))=rows.map (fun r=>r.map (AV.tr (jO D []))):=by
 rw [← List.map_map,qLl hD,qLl hD]
theorem D_s (hD:∀ k,D k=true→k.sroot=false) {q:Nm} (hq:D q=true) (d:Nat):¬ q=.s d∧Nm.under (.s d) q=false:=by
 have h:Nm.under (.s d) q=false:=by
  cases h:Nm.under (.s d) q with
  | false=>rfl
  | true=>have:=Nm.sroot_under (a:=.s d) rfl h;rw [hD _ hq] at this;cases this
 refine⟨fun e=>?_,h⟩
 rw [e] at h
 simp at h
end
section
variable {X:Ctx} {st:St} {K:St→Prop} {E:AV→St→Prop} {d f:Nat} {ty:TypeId} {pos:String} {aft:Array Edge} {g:Option (Nat×Bool)} {args:Array Operand} {Ts:Array TypeId} {az:List AV}
theorem qHo (D:Nm→Bool) (N V n:Nm) (o:AO) (v:AV) (hV:V.isU=true:=by rfl) (hN:N.isU=false:=by rfl) (hVe:X.ext V=false) (hDr:∀ k,D k=true→k.sroot=false) (hNV:Nm.under V N=false) (hDN:∀ k,Nm.under N k=true→D k=true) (hDV:∀ k,Nm.under V k=true→D k=false) (hs:(st.hp N).isSome=true)
  (hext:∀ k i j,X.ext (.u k i j)=true→D (.u k i j)=false∨st.hp (.u k i j)≠none) (hDn:D n=true) (hNn:Nm.under N n=false) (hv:v.tr (mv V N)=v) (hd:d<X.n:=by first|(simp;done)|fail)
  (ha:args.toList.map (ev (st.move N V))=az:=by simp [fx];first|done|rfl)
  (hF:FnE X.P X.gl f (fun k=>D k||Nm.under V k) az (yC (fun k=>D k||Nm.under V k) (hmv N V st.hp)) (qDn (fun k=>D k||Nm.under V k) v n (o.tr (mv N V)) (yC (fun k=>D k||Nm.under V k) (hmv N V st.hp))) noE)
  (h:∀ hp',qBE D hp' (wrO n o st.hp)→K ((st.mutn N V d D hp').put (some d) v)) :
  qj X ⟨some d,.call ⟨.value (.func f),args,Ts⟩,ty,pos,aft,g⟩ K E st:=by
 refine qOR N V (.inl hN) (.inr hVe) (j6 V N (.inr hVe) (.inl hN) ?_)
 refine qFU (fun k=>D k||Nm.under V k) (fun k hk=>?_) (fun k i j he=>?_) hd ha hF ?_
 ·rcases Bool.or_eq_true _ _ ▸ hk with h|h
  ·exact hDr k h
  ·exact qu hV h
 ·by_cases hD:D (.u k i j)=true
  ·right
   rcases hext k i j he with h|h
   ·rw [h] at hD;cases hD
   ·have hn:Nm.under N (.u k i j)=false:=by cases N <;> simp [Nm.isU,Nm.under] at *
    have hv:Nm.under V (.u k i j)=false:=by
     cases h:Nm.under V (.u k i j) with
     | false=>rfl
     | true=>rw [hDV _ h] at hD;cases hD
    simp only [yC,hD,Bool.true_or,if_true,St.move,St.nm,hmv,hn,hv,Bool.false_eq_true,if_false]
    cases hx:st.hp (.u k i j) with
    | none=>exact absurd hx h
    | some o=>simp
  ·simp only [Bool.not_eq_true] at hD
   by_cases hv:Nm.under V (.u k i j)=true
   ·have:Nm.u k i j=V:=by cases V <;> simp [Nm.isU,Nm.under] at * <;> exact⟨hv.1,hv.2.1,hv.2.2⟩
    rw [this,hVe] at he
    cases he
   ·simp only [Bool.not_eq_true] at hv
    exact .inl (by simp [hD,hv])
 ·rintro y H' ⟨rfl,hR⟩
  obtain⟨q,hq,e⟩:=qLQ (d:=d) (H':=H') (st:=st) hV hNV hDN hDV hDr hs hv
  have hS:=qLO (d:=d) (y:=y) (st:=st) hV hNV hDN hDV hDn hNn hR
  rw [← hq] at hS ⊢
  rw [e]
  exact h _ hS
end
section
variable {hp hp':Nm→Option AO} {p:Prg} {n:Nm} {m m':Mch} {dp dp' i k:Nat} {fs L:List Frm} {f g:Frm} {o:Int×Int} {s:Slt} {rows:List (List AV)} {j:List Val}
theorem OwnX.same (h:OwnX hp p n m dp) (hn:Nm.under Xn n=true∨n=.u 2 0 0) (hs:qBE D12 hp' hp):OwnX hp' p n m dp:=by
 obtain⟨F,h1,h2⟩:=hs
 exact h.ren hn h1 h2
theorem qCB (h:f.stack.length=k+1):f.stack=f.pop.stack++[f.tos]:=by
 have hne:f.stack≠[]:=fun e=>by rw [e] at h;simp at h
 simp only [Frm.pop,Frm.tos]
 rw [List.getLastD_eq_getLast?,List.getLast?_eq_some_getLast hne]
 exact (List.dropLast_concat_getLast hne).symm
theorem ja (h:f.stack.length=k+1):(f.stack++j)[k]?=some f.tos:=by
 have h1:=qCB h
 have h2:f.pop.stack.length=k:=by simp [Frm.pop,h]
 rw [h1,List.append_assoc,List.getElem?_append_right (by omega),h2]
 simp
theorem vh (h:f.stack.length=k+1):f.pop.stack.length=k:=by simp [Frm.pop,h]
theorem OwnX.popped (h:OwnX hp p (.u 2 0 0) (m.top fs f) dp) (hr:hp (.u 2 0 0)=some (.row 7 rows)) (hk:f.stack.length=k+1):OwnX (wrO (.u 2 0 0) (.row 7 (q8 rows fs.length 6 [.hs (.c (.u 2 0 0) fs.length 6) 2 0 k])) hp) p (.u 2 0 0) (m.top fs f.pop) dp:=by
 obtain⟨L,j,hL,hat,hlt,hF,h3,h5,h6⟩:=h.topF rfl
 obtain rfl:rows=qq p (.u 2 0 0) L:=by
  rw [hr] at hF
  injection hF with e
  injection e
 have hs:q8 (qq p (.u 2 0 0) L) fs.length 6 [.hs (.c (.u 2 0 0) fs.length 6) 2 0 k]=qq p (.u 2 0 0) (L.set fs.length f.pop):=qCp hat (by simp [zg,Frm.pop,hk,vV])
 rw [hs]
 refine h.reT rfl hL (g:=f.pop) rfl (by simp) (by simp [h3,Frm.pop]) (by simp [h5,Frm.pop]) ⟨[f.tos]++j,?_⟩ (h0:=by simp [h.top,jQ,Mch.top]) (h2:=by simp [h.cells,Mch.top]) (h3:=by simp [h.glob,Mch.top]) (h4:=by simp [h.funs,Mch.top]) (h5:=by simp [h.clss,Mch.top]) (h6:=by simp [h.out,Mch.top]) (h7:=by simp [h.trc,Mch.top])
 have e:=qCB hk
 simp only [wrO]
 rw [if_neg (by simp),h6,← List.append_assoc,← e]
end
end Go.Hm
end
section
namespace Go.Hm
open Go Go.RowKit
section
variable {p:Prg} {m:Mch} {fs:List Frm} {f:Frm} {o:Int×Int}
structure SlOk (m:Mch) (f:Frm) (o:Int×Int):Prop where
 arg:0≤o.2∧o.2≤1000
 lt:slI f o<(slL m f o).length
 cell:5≤o.1→o.1≤7→f.cells[o.2.toNat]?=some (slI f o)
theorem SlOk.of (hM:MOk p m fs f) (hO:OrdOk p f.blk o) (hc:2≤o.1∧o.1≤13):SlOk m f o:=by
 have h1:=hM.top.fl
 have h2:=hM.top.cl
 have h3:=hM.top.nm.1
 have h4:=hM.glob.1
 have h5:=hO.arg
 have h6:=hO.fast hc.1
 have h7:=hO.cell
 have h8:=hO.name
 have key:5≤o.1→o.1≤7→f.cells[o.2.toNat]?=some (slI f o):=by
  intro e1 e2
  have hl:o.2.toNat<f.cells.length:=by have:=h7 e1 e2;omega
  simp only [slI]
  rw [if_neg (by omega),if_pos e2,List.getD_eq_getElem?_getD,gE hl]
  rfl
 refine⟨h5,?_,key⟩
 unfold slL
 by_cases c4:o.1≤4
 ·have:=h6 c4
  simp only [slI,c4,if_true]
  omega
 by_cases c7:o.1≤7
 ·have:=hM.top.cr _ (gM (key (by omega) c7))
  simpa [c4,c7] using this
 by_cases c10:o.1≤10
 ·have:=h8 (by omega) hc.2
  simp only [slI,c4,c7,c10,if_true,if_false]
  omega
 ·have:=h8 (by omega) hc.2
  simp only [slI,c4,c7,c10,if_false]
  omega
variable {hp:Nm→Option AO} {dp k:Nat} {N:Nm}
def qMb (hp:Nm→Option AO) (p:Prg) (n:Nm) (m:Mch) (dp:Nat):Prop:=∃ fr,(m.en=0→fr=m.frames)∧OwnX hp p n { m with frames:=fr } dp
theorem OwnX.out' {n:Nm} (h:OwnX hp p n m dp):qMb hp p n m dp:=⟨m.frames,fun _=>rfl,h⟩
def D9:Nm→Bool:=fun k=>D12 k||Nm.under (.u 9 0 0) k
theorem qM2 {q:Nm} (h:D9 q=true):q.sroot=false:=by
 rcases Bool.or_eq_true _ _ ▸ h with h|h
 ·exact z7 h
 ·exact qu rfl h
theorem OwnX.keep (h:OwnX hp p (.u 2 0 0) (m.top fs f) dp) (hk:f.stack.length=k+1) (h1:Nm.under N (.u 2 0 0)=false) (h2:Nm.under N (.c (.u 2 0 0) fs.length 6)=false):∃ (rows rows':List (List AV)) (a0 a1 a2 a3 a4 a5:AV) (vs:List Val),hp (.u 2 0 0)=some (.row 7 rows)∧(yC D9 (hmv N (.u 9 0 0) hp)) (.u 2 0 0)=some (.row 7 rows')∧rows'[fs.length]?=some [a0,a1,a2,a3,a4,a5,.hs (.c (.u 2 0 0) fs.length 6) 2 0 (k+1)]∧(yC D9 (hmv N (.u 9 0 0) hp)) (.c (.u 2 0 0) fs.length 6)=some (.row 2 (zB vs))∧vs[k]?=some f.tos ∧
  (AO.row 7 (q8 rows fs.length 6 [.hs (.c (.u 2 0 0) fs.length 6) 2 0 k])).tr (mv N (.u 9 0 0))=.row 7 (q8 rows' fs.length 6 [.hs (.c (.u 2 0 0) fs.length 6) 2 0 k]):=by
 obtain⟨L,j,hL,hat,hlt,hF,h3,h5,h6⟩:=h.topF rfl
 have hm:mv N (.u 9 0 0) (.c (.u 2 0 0) fs.length 6)=some (.c (.u 2 0 0) fs.length 6):=by simp only [mv,h2,Bool.false_eq_true,if_false];simp
 have he:∀ q,(AV.hs (.c (.u 2 0 0) fs.length 6) 2 0 q).tr (mv N (.u 9 0 0))=.hs (.c (.u 2 0 0) fs.length 6) 2 0 q:=fun q=>by simp only [AV.tr,hm]
 refine⟨qq p (.u 2 0 0) L,(qq p (.u 2 0 0) L).map fun r=>r.map (AV.tr (mv N (.u 9 0 0))),(iv f.blk).tr (mv N (.u 9 0 0)),(iv f.pc).tr (mv N (.u 9 0 0)),(iv (vV p f)).tr (mv N (.u 9 0 0)),(AV.hs (.c (.u 2 0 0) fs.length 3) 3 0 f.fasts.length).tr (mv N (.u 9 0 0)),(isl (zm f.cells)).tr (mv N (.u 9 0 0)),(AV.hs (.c (.u 2 0 0) fs.length 5) 3 0 8).tr (mv N (.u 9 0 0)),f.stack++j,hF,?_,?_,?_,ja hk,?_⟩
 ·simp only [yC,D9,hmv,h1,hF]
  simp [AO.tr]
 ·rw [List.getElem?_map,zY,hat]
  simp only [Option.map_some,zg,List.map_cons,List.map_nil,hk,he]
 ·simp only [yC,D9,hmv,h2,h6]
  simp [AO.tr]
 ·simp only [AO.tr,wA,List.map_cons,List.map_nil,he]
theorem OwnX.take (h:OwnX hp p (.u 2 0 0) (m.top fs f) dp) (hk:f.stack.length=k+1):∃ (rows:List (List AV)) (a0 a1 a2 a3 a4 a5:AV) (vs:List Val),hp (.u 2 0 0)=some (.row 7 rows)∧(yC D12 hp) (.u 2 0 0)=some (.row 7 rows)∧rows[fs.length]?=some [a0,a1,a2,a3,a4,a5,.hs (.c (.u 2 0 0) fs.length 6) 2 0 (k+1)]∧(yC D12 hp) (.c (.u 2 0 0) fs.length 6)=some (.row 2 (zB vs))∧vs[k]?=some f.tos:=by
 obtain⟨L,j,hL,hat,hlt,hF,h3,h5,h6⟩:=h.topF rfl
 refine⟨qq p (.u 2 0 0) L,iv f.blk,iv f.pc,iv (vV p f),.hs (.c (.u 2 0 0) fs.length 3) 3 0 f.fasts.length,isl (zm f.cells),.hs (.c (.u 2 0 0) fs.length 5) 3 0 8,f.stack++j,hF,by simp [hF],?_,by simp [h6],ja hk⟩
 rw [zY,hat]
 simp only [Option.map_some,zg,hk]
theorem OwnX.taken {H':Nm→Option AO} {r:Nm} {y v:AV} {rows:List (List AV)} (h:OwnX hp p (.u 2 0 0) (m.top fs f) dp) (hr:hp (.u 2 0 0)=some (.row 7 rows)) (hk:f.stack.length=k+1) (hw:qDn D12 v (.u 2 0 0) (.row 7 (q8 rows fs.length 6 [.hs (.c (.u 2 0 0) fs.length 6) 2 0 k])) (yC D12 hp) r y H'):OwnX H' p (.u 2 0 0) (m.top fs f.pop) dp:=by
 refine (h.popped hr hk).ren (f:=jO D12 []) (.inr rfl) (fun q hq=>by simp only [jO,hq,if_true]) fun q hq=>?_
 rw [hw.2 q hq]
 simp only [wrO,yC,hq,if_true]
theorem qM3 (h1:hp Xn≠none) (h2:hp (.u 2 0 0)≠none) (k i j:Nat):D12 (.u k i j)=false∨hp (.u k i j)≠none:=by
 by_cases e1:Nm.u k i j=.u 1 0 0
 ·exact .inr (e1 ▸ h1)
 by_cases e2:Nm.u k i j=.u 2 0 0
 ·exact .inr (e2 ▸ h2)
 ·left
  simp at e1 e2
  simp only [qDp,Nm.under,Bool.or_eq_false_iff,decide_eq_false_iff_not]
  refine⟨fun e=>?_,fun e=>?_⟩
  ·injection e with x1 x2 x3
   exact e1 x1 x2 x3
  ·injection e with x1 x2 x3
   exact e2 x1 x2 x3
theorem qVU {q:Nm} (h:Nm.under (.u 9 0 0) q=true):D12 q=false:=by
 induction q with
 | s d=>simp at h
 | u a b c =>
  simp at h
  obtain⟨rfl,rfl,rfl⟩:=h
  simp
 | c r i j ih =>
  simp only [qDw] at h
  have:=ih h
  simpa using this
theorem OwnX.cong {hp':Nm→Option AO} {n:Nm} (h:OwnX hp p n m dp) (hn:Nm.under Xn n=true∨n=.u 2 0 0) (hh:∀ q,D12 q=true→hp' q=hp q):OwnX hp' p n m dp:=by
 refine h.ren hn (f:=some) (fun _ _=>rfl) fun q hq=>?_
 rw [hh q hq]
 cases hp q with
 | none=>rfl
 | some o=>simp [AO.tr_some]
theorem OwnX.cut {hp':Nm→Option AO} {n:Nm} (h:OwnX hp p n m dp) (hm:m.frames=fs++[f])
  (h0:hp' Xn=some (.row 13 [jQ p n { m with frames:=fs } dp]))
  (hh:∀ q,q≠Xn→D12 q=true→hp' q=hp q) (hn:n=.u 2 0 0):OwnX hp' p n { m with frames:=fs } dp:=by
 subst hn
 have hX:∀ j,hp' (.c Xn 0 j)=hp (.c Xn 0 j):=fun j=>hh _ (by simp) (by simp)
 have hF:∀ i j,hp' (.c (.u 2 0 0) i j)=hp (.c (.u 2 0 0) i j):=fun i j=>hh _ (by simp) (by simp)
 have hf:∀ (i:Nat) g,fs[i]?=some g→m.frames[i]?=some g:=fun i g hg=>by
  rw [hm,List.getElem?_append_left (gS hg).1];exact hg
 refine⟨h0,by rw [hX];exact h.caps,by rw [hX];exact h.cells,by rw [hX];exact h.glob,by rw [hX];exact h.funs,by rw [hX];exact h.clss,by rw [hX];exact h.out,by rw [hX];exact h.trc,?_,fun i g hg=>?_,fun i g hg=>?_,fun i g hg=>?_⟩
 ·obtain⟨js,hj⟩:=h.fr.top
  refine⟨f::js,?_⟩
  rw [hh _ (by simp) (by simp),hj,hm]
  simp
 ·rw [hF];exact h.fr.fasts i g (hf i g hg)
 ·rw [hF];exact h.fr.names i g (hf i g hg)
 ·exact (h.fr.stack i g (hf i g hg)).imp fun j hj=>by rw [hF];exact hj
theorem OwnX.ends {hp':Nm→Option AO} {e:Int} {n:Nm} (h:OwnX hp p n m dp) (hn:n=.u 2 0 0) (hh:∀ q,D12 q=true→hp' q=if q=Xn then some (.row 13 [jQ p n { m with en:=e } dp]) else hp q):OwnX hp' p n { m with en:=e } dp:=by
 subst hn
 have h2:OwnX (fun q=>if q=Xn then some (.row 13 [jQ p (.u 2 0 0) { m with en:=e } dp]) else hp q) p (.u 2 0 0) { m with en:=e } dp:=OwnX.re h (h0:=by simp) (h1:=by simp [h.caps]) (h2:=by simp [h.cells]) (h3:=by simp [h.glob]) (h4:=by simp [h.funs]) (h5:=by simp [h.clss]) (h6:=by simp [h.out]) (h7:=by simp [h.trc]) (h8:=h.fr.re)
 exact h2.cong (.inr rfl) hh
structure SlN (N:Nm):Prop where
 isU:N.isU=false
 D:∀ k,Nm.under N k=true→D12 k=true
 u9:Nm.under (.u 9 0 0) N=false
 u2:Nm.under N (.u 2 0 0)=false
 x:Nm.under N Xn=false
 st:∀ i,Nm.under N (.c (.u 2 0 0) i 6)=false
 s:∀ d,Nm.under (.s d) N=false∧N≠.s d
 b:∃ b,Nm.under (.u 1 0 0) N=b∧Nm.under (.u 2 0 0) N=!b
theorem qUI {i:Nat}:SlN (slN (.u 2 0 0) i o):=by
 unfold slN
 repeat' split
 all_goals refine⟨rfl,fun k hk=>?_,by simp,by simp,by simp,by simp,by simp,by simp⟩
 ·have:=Nm.under_trans (a:=.u 2 0 0) (by simp) hk;simp [this]
 ·have:=Nm.under_trans (a:=.u 1 0 0) (by simp) hk;simp [this]
 ·have:=Nm.under_trans (a:=.u 1 0 0) (by simp) hk;simp [this]
 ·have:=Nm.under_trans (a:=.u 2 0 0) (by simp) hk;simp [this]
end
def St.stl (st:St) (t:Nat) (N:Nm) (x:AV):St:={ tm:=fun s=>if s=t then x else (st.tm s).tr (kl N),hp:=hkl N st.hp,n:=st.n,gl:=st.gl }
section
variable {X:Ctx} {st:St} {a:Go.Act} {w:World} {K:St→Prop} {E:AV→St→Prop} {o:Oper} {t s:Nat} {N m:Nm} {x:AV}
@[simp] theorem stl_tm:(st.stl t N x).tm s=if s=t then x else (st.tm s).tr (kl N):=rfl
@[simp] theorem stl_hp:(st.stl t N x).hp m=if Nm.under N m then none else (st.hp m).map (AO.tr (kl N)):=rfl
@[simp] theorem stl_gl:(st.stl t N x).gl=st.gl:=rfl
theorem Rw.settle (h:Rw X st a w) (hb:Bw st.hp (fun n=>decide (n≠N)) (st.tm t) x):Rw X (st.stl t N x) a w:=by
 obtain⟨C,g,h1,h2,h3,h4,h5,hg⟩:=h
 have hCN:∀ b,g.φ N=some b→st.hp N≠none→¬ C b∧(X.w0.heap.size≤b∨X.own b)∧b<w.heap.size:=by
  intro b hb hn
  obtain⟨o,ho⟩:=Option.ne_none_iff_exists'.1 hn
  exact hg.inv.blk N o b ho hb
 let C':Nat→Prop:=fun b=>C b∨(g.φ N=some b∧st.hp N≠none)
 have hS:=hg.stepC (C':=C') (g':=g.more C') (w':=w) (f:=kl N) (hp':=hkl N st.hp) rfl (fun b hb=>.inl hb) (by
  rintro b (hb|⟨hb,hn⟩)
  ·exact hg.inv.clt b hb
  ·exact (hCN b hb hn).2.2) (by
  intro n n' e
  simp only [kl] at e
  split at e
  ·cases e
  ·obtain rfl:=sI e;exact⟨rfl,rfl⟩) rfl rfl rfl (Nat.le_refl _) (fun _ _=>rfl) (fun b hb ho=>rfl) (by
  intro n' o' e
  left
  simp only [hkl] at e
  split at e
  ·cases e
  ·rename_i hu
   obtain⟨o,ho,rfl⟩:=Option.map_eq_some_iff.1 e
   refine⟨n',o,by simp [kl,hu],ho,rfl,fun b hb=>⟨rfl,?_⟩⟩
   rintro (hc|⟨hc,hn⟩)
   ·exact (hg.inv.blk n' o b ho hb).1 hc
   ·obtain⟨o2,ho2⟩:=Option.ne_none_iff_exists'.1 hn
    have:=hg.inv.inj n' N o o2 b ho ho2 hb hc
    subst this
    exact hu (Nm.under_self _))
 refine⟨C',g.more C',fun b hb=>.inl (h1 b hb),?_,h3,h4,h5,?_⟩
 ·rintro b (hb|⟨hb,hn⟩)
  ·exact h2 b hb
  ·exact .inr (hCN b hb hn).2.1
 ·refine⟨hS.inv,hS.defers,hS.size,fun s=>?_,hS.glob⟩
  by_cases e:s=t
  ·subst e
   simp only [St.stl,if_true]
   refine RV.bw hg.inv (fun b hb=>.inl hb) (fun n o b hD ho hk=>?_) hb (hg.slots s)
   have:n=N:=by simpa using hD
   subst this
   exact .inr ⟨hk,by rw [ho];simp⟩
  ·have:=hS.slots s
   simp only [St.nm] at this
   simp only [St.stl,e,if_false]
   exact this
theorem qOQ (t:Nat) (N:Nm) (x:AV) (hb:Bw st.hp (fun n=>decide (n≠N)) (st.tm t) x) (h:qj X o K E (st.stl t N x)):qj X o K E st:=fun a w Q hR hE=>h a w Q (hR.settle hb) hE
theorem qGF (t:Nat) (N:Nm) (h:qj X o (fun s=>∃ x,Bw s.hp (fun n=>decide (n≠N)) (s.tm t) x∧K (s.stl t N x)) E st):qj X o K E st:=by
 refine qj.post h ?_
 rintro s a w hR ⟨x,hb,hK⟩
 exact⟨_,hR.settle hb,hK⟩
theorem qMJ {hp:Nm→Option AO} {N:Nm} {z len:Nat} {rows:List (List AV)} (hn:hp N=some (.row z rows)) (hl:len=rows.length) (hu:∀ r∈rows,r.length=z):Bw hp (fun n=>decide (n≠N)) (.hs N z 0 len) (.sl z rows):=by
 refine .hs N z 0 len rows rows (by simp) hn (by omega) hl.symm hu fun i r r' h1 h2 j a a' h3 h4=>?_
 rw [Nat.zero_add,h2] at h1
 obtain rfl:=sI h1
 rw [h3] at h4
 obtain rfl:=sI h4
 exact .refl _
theorem qC2 (t:Nat) (N:Nm) (z len:Nat) (rows:List (List AV)) (ht:st.tm t=.hs N z 0 len) (hn:st.hp N=some (.row z rows)) (hl:len=rows.length) (hu:∀ r∈rows,r.length=z) (h:qj X o K E (st.stl t N (.sl z rows))):qj X o K E st :=
 qOQ t N _ (by rw [ht];exact qMJ hn hl hu) h
theorem qX1 {a:AV} {d:Nat}:(a.tr (kl (.s d))).tr (kl (.s d))=a.tr (kl (.s d)):=by
 rw [AV.tr_tr]
 congr 1
 funext m
 by_cases h:Nm.under (.s d) m=true <;> simp [h]
theorem qBw {d z n:Nat} {rows:List (List AV)} (hcall:∀ K':St→Prop,K' (((st.kill (.s d)).setO (.s d) (.row z rows)).put (some d) (.hs (.s d) z 0 n))→qj X o K' E st) (hl:n=rows.length) (hu:∀ r∈rows,r.length=z) (h:K ((st.kill (.s d)).put (some d) (.sl z rows))):qj X o K E st:=by
 refine qGF d (.s d) (hcall _ ⟨.sl z rows,?_,?_⟩)
 ·have:((((st.kill (.s d)).setO (.s d) (.row z rows)).put (some d) (.hs (.s d) z 0 n)).tm d)=.hs (.s d) z 0 n:=by simp
  rw [this]
  exact qMJ (by simp) hl hu
 ·have:((((st.kill (.s d)).setO (.s d) (.row z rows)).put (some d) (.hs (.s d) z 0 n)).stl d (.s d) (.sl z rows))=(st.kill (.s d)).put (some d) (.sl z rows):=by
   simp only [St.stl,St.put,St.setO,St.kill,St.nm]
   congr 1
   ·funext s
    by_cases e:s=d
    ·simp [e]
    ·simp only [e,if_false]
     exact qX1
   ·funext m
    simp only [hkl]
    by_cases e:Nm.under (.s d) m=true
    ·simp [e]
    ·have hne:¬ m=.s d:=fun e'=>e (by rw [e'];simp)
     simp only [e,hne,if_false]
     cases st.hp m with
     | none=>rfl
     | some o =>
      have:(fun m=>(kl (.s d) m).bind (kl (.s d)))=kl (.s d):=by
       funext m
       by_cases h:Nm.under (.s d) m=true <;> simp [h]
      have h2:(o.tr (kl (.s d))).tr (kl (.s d))=o.tr (kl (.s d)):=by rw [AO.tr_tr,this]
      simp [h2]
  rw [this]
  exact h
end
end Go.Hm
end
section
namespace Go.Hm
open Go Go.RowKit
theorem qR5 {X:Ctx} {c:Code} {Q:Ex→St→Prop} {G:Prop} (I:St→Prop) (k:∀ st,I st→qa X c Q st) (h:KTag (∀ st,I st→qa X c Q st)→G):G:=h ⟨k⟩
theorem qM4 {X:Ctx} {st:St} {c:Code} {Q:Ex→St→Prop} (n0 n1:Nm) (h0:n0.isU=false∨X.ext n0=false) (h1:n1.isU=false∨X.ext n1=false) (h:qa X c Q (st.move n0 n1)):qa X c Q st:=fun a w hR=>h a w (hR.move n0 n1 h0 h1)
def qR7 (l:Nat) (I:St→Prop) (Q:Ex→St→Prop):Ex→St→Prop
 | .goto l',st=>l'=l∧I st
 | .normal,st=>Q .normal st
 | .exit id,st=>Q (.exit id) st
 | .ret,st=>Q .ret st
 | .pan x,st=>Q (.pan x) st
section
variable {X:Ctx} {st:St} {Q:Ex→St→Prop} {l:Nat} {I:St→Prop} {id:Nat} {x:AV}
theorem qJi (h:Q .normal st):qR7 l I Q .normal st:=h
theorem qR6 (h:Q .ret st):qR7 l I Q .ret st:=h
theorem qI3 (h:I st):qR7 l I Q (.goto l) st:=⟨rfl,h⟩
theorem qPj {c rest:Code} (l:Nat) (hf:findLabel c l=some rest) (I:Nat→St→Prop) (h0:qa X c (qR7 l (fun s=>∃ n,I n s) Q) st) (hpass:∀ n s,s.n=X.n→s.gl=X.gl→I n s→qa X rest (qR7 l (fun s'=>∃ m,m<n∧I m s') Q) s):qa X (.scope c) Q st:=by
 intro a w hR
 let J:Nat→Go.Act→World→Prop:=fun n a w=>∃ st,Rw X st a w∧I n st
 let μ:Go.Act→World→Nat:=fun a w=>open Classical in if h:∃ n,J n a w then (qJg h).choose else 0
 have hμ:∀ n a w,J n a w→μ a w≤n:=by
  intro n a w hJ
  have hex:∃ n,J n a w:=⟨n,hJ⟩
  simp only [μ,dif_pos hex]
  exact (qJg hex).choose_spec.2 n hJ
 refine wp_scope_jumps l (fun a w=>∃ n,J n a w) μ hf (wp_mono (h0 a w hR) fun e a' w' he=>?_) fun a w hJ=>?_
 ·cases e with
  | goto l' =>
   obtain⟨st',hR',rfl,n,hI⟩:=he
   exact⟨rfl,n,st',hR',hI⟩
  | normal=>exact he
  | exit id=>exact he
  | ret=>exact he
  | panic ch=>exact he
  | outgrown=>exact he
 ·have hspec:J (μ a w) a w:=by
   simp only [μ,dif_pos hJ]
   exact (qJg hJ).choose_spec.1
  obtain⟨st1,hR1,hI1⟩:=hspec
  have hR1':=hR1
  obtain⟨C,g,x1,x2,x3,x4,x5,x6⟩:=hR1
  refine wp_mono (hpass _ st1 x3 x4 hI1 a w hR1') fun e a' w' he=>?_
  cases e with
  | goto l' =>
   obtain⟨st',hR',rfl,m,hlt,hI⟩:=he
   exact⟨rfl,⟨m,st',hR',hI⟩,Nat.lt_of_le_of_lt (hμ m a' w' ⟨st',hR',hI⟩) hlt⟩
  | normal=>exact he
  | exit id=>exact he
  | ret=>exact he
  | panic ch=>exact he
  | outgrown=>exact he
end
section
variable {D:Nm→Bool} {a b c:Nat} {l:List AV}
theorem qLn (hD:∀ k,D k=true→k.sroot=false):(l.map (AV.tr (kl (.s a)))).map (AV.tr (jO D []))=l.map (AV.tr (jO D [])):=by
 rw [List.map_map]
 exact List.map_congr_left fun x _=>qLo hD
theorem qOi (hD:∀ k,D k=true→k.sroot=false):(l.map (AV.tr (kl (.s a))∘AV.tr (kl (.s b)))).map (AV.tr (jO D []))=l.map (AV.tr (jO D [])):=by
 rw [← List.map_map,qLn hD,qLn hD]
end
abbrev yo (i:Nat):Nat:=32+29 * i
def qP0 (D:Nm→Bool) (v:AV) (H:Nm→Option AO):Nm→AV→(Nm→Option AO)→Prop:=fun _ y H'=>y=v∧∀ k,D k=true→H' k=(H k).map (AO.tr (jO D []))
section
variable {hp hp' H H':Nm→Option AO} {p:Prg} {m m0 m':Mch} {fs:List Frm} {f g:Frm} {R:List AV} {k:Nat} {r:Nm} {y v:AV} {o:AO}
variable {P:Program} {C:Nat→Prop} {w:World} {g0:Gh} {gl:Nat→Option (List AV)} {n:Nat} {st:St} {K:St→Prop} {E:AV→St→Prop} {d c:Nat} {ty:TypeId} {pos:String} {aft:Array Edge} {gd:Option (Nat×Bool)} {args:Array Operand} {Ts:Array TypeId} {az:List AV} {Rr:Nm→AV→(Nm→Option AO)→Prop}
theorem qZ (h0:OwnY H p m0) (hO:OwnY st.hp p m) (hl:m0.cells.length≤m.cells.length) (hd:d<n:=by first|(simp;done)|fail) (ha:args.toList.map (ev st)=az:=by simp [fx];first|done|rfl)
  (hF:OwnY (yC DM st.hp) p m→FnE P gl c DM az (yC DM st.hp) Rr noE) (h:∀ y H',Rr (.s d) y H'→K ((st.call d DM (yC DM st.hp) H').put (some d) y)) :
  qj (ue P C w g0 H n gl) ⟨some d,.call ⟨.value (.func c),args,Ts⟩,ty,pos,aft,gd⟩ K E st:=qFU DM (fun _=>qQ) (fun k i j he=>h0.ext hO hl k i j he) hd ha (hF hO.sub) h
theorem OwnY.post (h:OwnY hp p m) (hh:∀ q,DM q=true→hp' q=(hp q).map (AO.tr (jO DM []))):OwnY hp' p m :=
 h.ren (f:=jO DM []) (fun q hq=>by simp only [jO,hq,if_true]) hh
theorem OwnY.smp (h:OwnY hp p m) (hw:qP0 DM v (yC DM hp) r y H'):OwnY H' p m:=by
 refine h.post fun q hq=>?_
 rw [hw.2 q hq]
 simp only [yC,hq,if_true]
theorem OwnY.wrp (h:OwnY (wrO Yn o hp) p m) (hw:qDn DM v Yn o (yC DM hp) r y H'):OwnY H' p m:=by
 refine h.post fun q hq=>?_
 rw [hw.2 q hq]
 simp only [wrO,yC,hq,if_true]
theorem OwnY.topF (h:OwnY hp p m) (hm:m.frames=fs++[f]):∃ (J:Nat→List AV) (j:List Val),(∀ i,(J i).length=29)∧hp Yn=some (.row 4415 [qw p m (fs.length+1) (yc (fs++[f]) J)])∧hp (.c Yn 0 (yo fs.length+2))=some (.row 3 (qV f.fasts))∧hp (.c Yn 0 (yo fs.length+3))=some (.row 1 (zI f.cells))∧hp (.c Yn 0 (yo fs.length+28))=some (.row 2 (zB (f.stack++j))):=by
 obtain⟨J,hJ,e⟩:=h.top
 have hf:m.frames[fs.length]?=some f:=by simp [hm]
 obtain⟨j,hs⟩:=h.stack _ f hf
 refine⟨J,j,hJ,?_,h.fasts _ f hf,h.cls _ f hf,hs⟩
 rw [e,hm]
 simp
structure TopR (p:Prg) (m:Mch) (i:Nat) (f:Frm) (R:List AV):Prop where
 len:R.length=4415
 r0:R[0]?=some (csl (qf p p.length))
 r1:R[1]?=some (.hs (.c Yn 0 1) 1 0 p.length)
 r2:R[2]?=some (iv m.left)
 r3:R[3]?=some (iv m.en)
 r4:R[4]?=some (.hs (.c Yn 0 4) 1 0 m.out.length)
 r5:R[5]?=some (.hs (.c Yn 0 5) 2 0 m.trace.length)
 r30:R[30]?=some (.hs (.c Yn 0 30) 2 0 m.funs.length)
 r31:R[31]?=some (.hs (.c Yn 0 31) 24 0 m.classes.length)
 h:R[4411]?=some (iv ((i:Int)+1))
 f0:R[yo i]?=some (iv f.blk)
 f1:R[yo i+1]?=some (iv f.pc)
 f2:R[yo i+2]?=some (.hs (.c Yn 0 (yo i+2)) 3 0 f.fasts.length)
 f3:R[yo i+3]?=some (.hs (.c Yn 0 (yo i+3)) 1 0 f.cells.length)
 f28:R[yo i+28]?=some (.hs (.c Yn 0 (yo i+28)) 2 0 f.stack.length)
 gl:∀ x j:Nat,x<8→j<3→R[6+(3 * x+j)]?=(zu (yt m.globals x))[j]?
 nm:∀ x j:Nat,x<8→j<3→R[yo i+4+(3 * x+j)]?=(zu (yt f.names x))[j]?
 tb:(R.drop (yo i+4)).take 24=vR f.names
theorem qY3 {J:Nat→List AV} (hJ:∀ i,(J i).length=29) (hi:fs.length<151):TopR p m fs.length f (qw p m (fs.length+1) (yc (fs++[f]) J)):=by
 have hc:=j8 (fs:=fs++[f]) hJ
 have hf:(fs++[f])[fs.length]?=some f:=by simp
 have hat:∀ {j:Nat},j<29→(qw p m (fs.length+1) (yc (fs++[f]) J))[yo fs.length+j]?=(yfr fs.length f)[j]?:=by
  intro j hj
  rw [Nat.add_assoc,qY1 hc hi hj,qGl hf]
 refine⟨yN hc,qPI,qS9,qPH,qPG,qPF,qPE,qPh,qPg,?_,?_,?_,?_,?_,?_,fun x j hx hj=>qS8 hx hj,fun x j hx hj=>?_,?_⟩
 ·rw [qAD hc];simp
 ·exact (hat (j:=0) (by omega)).trans rfl
 ·rw [hat (by omega)];rfl
 ·rw [hat (by omega)];rfl
 ·rw [hat (by omega)];rfl
 ·rw [hat (by omega)];exact qKM
 ·rw [Nat.add_assoc,hat (by omega)];exact qMe hx hj
 ·rw [show yo fs.length+4=32+(29 * fs.length+4) from Nat.add_assoc _ _ _,qV9 hc hi (by omega),qGl hf]
  exact qKJ
theorem kw {a b:AV} {i:Nat} (h1:R[i]?=some a) (h2:R[i+1]?=some b):(R.drop i).take 2=[a,b]:=by
 obtain⟨l1,e1⟩:=gS h1
 obtain⟨l2,e2⟩:=gS h2
 rw [List.drop_eq_getElem_cons l1,List.drop_eq_getElem_cons l2,e1,e2]
 rfl
theorem OwnY.popped (h:OwnY hp p m) (hm:m.frames=fs++[f]) (hi:fs.length<151) (hr:hp Yn=some (.row 4415 [R])) (hk:f.stack.length=k+1):OwnY (wrO Yn (.row 4415 [spl R (yo fs.length+28) [.hs (.c Yn 0 (yo fs.length+28)) 2 0 k]]) hp) p { m with frames:=fs++[f.pop] }:=by
 obtain⟨J,j,hJ,hT,h2,h3,h28⟩:=h.topF hm
 obtain rfl:R=qw p m (fs.length+1) (yc (fs++[f]) J):=by
  rw [hr] at hT
  injection hT with e
  injection e with e1 e2
  injection e2
 have hlen:=vh hk
 have hs:spl (qw p m (fs.length+1) (yc (fs++[f]) J)) (yo fs.length+28) [.hs (.c Yn 0 (yo fs.length+28)) 2 0 k]=qw p m (fs.length+1) (yc (fs++[f.pop]) J):=by
  have:=qHm (p:=p) (m:=m) (h:=fs.length+1) (fs:=fs++[f]) (i:=fs.length) (f:=f) (g:=f.pop) (j:=28) (vals:=[.hs (.c Yn 0 (yo fs.length+28)) 2 0 k]) hJ (by simp) hi (by simp) (by
   have:=qKK (i:=fs.length) (f:=f) (l:=f.pop.stack)
   rw [hlen] at this
   exact this)
  rw [← Nat.add_assoc] at this
  rw [this]
  simp
 rw [hs]
 have key:∀ (i:Nat) f',(fs++[f.pop])[i]?=some f'→∃ f'',m.frames[i]?=some f''∧f'.fasts=f''.fasts∧f'.cells=f''.cells∧∃ l,f''.stack=f'.stack++l:=by
  intro i f' hf
  rcases Nat.lt_trichotomy i fs.length with e|e|e
  ·rw [List.getElem?_append_left e] at hf
   exact⟨f',by rw [hm,List.getElem?_append_left e];exact hf,rfl,rfl,[],by simp⟩
  ·subst e
   simp at hf
   subst hf
   exact⟨f,by simp [hm],rfl,rfl,[f.tos],qCB hk⟩
  ·rw [List.getElem?_eq_none (by simp;omega)] at hf
   cases hf
 refine⟨⟨J,hJ,?_⟩,by simp [h.caps],by simp [h.out],by simp [h.trc],by simp [h.funs],by simp [h.clss],fun i f' hf=>?_,fun i f' hf=>?_,fun i f' hf=>?_,fun c s hc=>by simp [h.cell c s hc],fun a b c ha hn=>?_⟩
 ·simp only [wrO,if_true,List.length_append,List.length_singleton]
  rfl
 ·obtain⟨f'',h1,h2,_,_⟩:=key i f' hf
  rw [h2];simp [h.fasts i f'' h1]
 ·obtain⟨f'',h1,_,h2,_⟩:=key i f' hf
  rw [h2];simp [h.cls i f'' h1]
 ·obtain⟨f'',h1,_,_,l,h2⟩:=key i f' hf
  obtain⟨j',hj'⟩:=h.stack i f'' h1
  exact⟨l++j',by simp [hj',h2]⟩
 ·by_cases e:a=1∧b=0∧c=0
  ·exact .inl e
  ·refine h.only a b c ha fun e'=>hn ?_
   simp only [wrO]
   rw [if_neg (by simpa using e),e']
end
end Go.Hm
end
section
namespace Go.Hm
open Go Go.RowKit
def Frm.cut (f:Frm) (i:Nat):Frm:={ f with stack:=f.stack.take (f.stack.length - i) }
section
variable {f:Frm} {i n:Nat} {p:Prg} {m:Mch} {fs:List Frm}
theorem qIi:f.cut 0=f:=by simp [Frm.cut]
theorem qHa (h:i<f.stack.length):(f.cut i).stack.length=(f.stack.length - (i+1))+1:=by simp [Frm.cut];omega
theorem qEv (h:i<f.stack.length):(f.cut i).pop=f.cut (i+1):=by
 simp only [Frm.pop,Frm.cut]
 congr 1
 rw [List.dropLast_eq_take,List.take_take,List.length_take]
 congr 1
 omega
theorem qEu (h:i<f.stack.length):f.stack[f.stack.length - (i+1)]?=some (f.cut i).tos:=by
 have h1:=ja (f:=f.cut i) (j:=[]) (qHa h)
 rw [List.append_nil] at h1
 rw [← h1]
 simp only [Frm.cut]
 rw [List.getElem?_take,if_pos (by omega)]
theorem qIj (h:i<f.stack.length):f.stack.drop (f.stack.length - (i+1))=(f.cut i).tos::f.stack.drop (f.stack.length - i):=by
 have h1:=qEu h
 obtain⟨hl,hE⟩:=gS h1
 rw [List.drop_eq_getElem_cons hl,hE]
 congr 2
 omega
theorem qGe (h:n+1≤f.stack.length):qA9 p m fs f (17,(n:Int))=if (f.cut n).tos.1≠2 then m.stop fs (f.cut (n+1)) 5 else match m.funs[(f.cut n).tos.2.toNat]? with
  | some g=>if qIP p g.1≠n then m.stop fs (f.cut (n+1)) 6 else z6 p (m.top fs (f.cut (n+1))) g.1 g.2 (f.stack.drop (f.stack.length - n))
  | none=>m.stop fs (f.cut (n+1)) 5:=by
 have h1:=qEu (f:=f) (i:=n) (by omega)
 have h2:f.stack.getD (f.stack.length - n - 1) (0,0)=(f.cut n).tos:=by
  rw [List.getD_eq_getElem?_getD,Nat.sub_sub,h1]
  rfl
 have h3:({ f with stack:=f.stack.take (f.stack.length - n - 1) }:Frm)=f.cut (n+1):=by rw [Nat.sub_sub];rfl
 have h4:f.stack.length - n - 1+1=f.stack.length - n:=by omega
 simp only [qA9,Int.toNat_natCast]
 rw [h2,h3,h4]
 rfl
def qPA (p:Prg) (m:Mch) (b:Nat) (vs:List Val) (j:Nat) (fl C:List Slt):Prop :=
 (j=0∧fl=List.replicate (qT p b).length none∧C=m.cells++List.replicate (qF p b).length none) ∨
 (j=1∧∃ x v,(qk p b).params=[x]∧vs=[v]∧((x∈qT p b∧fl=(List.replicate (qT p b).length none).set (qx (qT p b) x).toNat (some v)∧C=m.cells++List.replicate (qF p b).length none) ∨
   (x∉qT p b∧fl=List.replicate (qT p b).length none∧C=(m.cells++List.replicate (qF p b).length none).set (m.cells.length+(qx (qF p b) x).toNat) (some v))))
theorem qPA.fl {b j:Nat} {vs:List Val} {fl C:List Slt} (h:qPA p m b vs j fl C):fl.length=(qT p b).length:=by
 rcases h with⟨_,rfl,_⟩|⟨_,_,_,_,_,⟨_,rfl,_⟩|⟨_,rfl,_⟩⟩ <;> simp
theorem qPA.cl {b j:Nat} {vs:List Val} {fl C:List Slt} (h:qPA p m b vs j fl C):C.length=m.cells.length+(qF p b).length:=by
 rcases h with⟨_,_,rfl⟩|⟨_,_,_,_,_,⟨_,_,rfl⟩|⟨_,_,rfl⟩⟩ <;> simp
theorem qPA.fin {b j:Nat} {cs:List Nat} {vs:List Val} {fl C:List Slt} (h:qPA p m b vs j fl C) (hj:vs.length=j):z6 p m b cs vs={ m with cells:=C,made:=m.made+1,deep:=max m.deep (m.frames.length+1),frames:=m.frames++[⟨b,0,fl,(List.range (qF p b).length).map (m.cells.length+·)++cs,qm,[]⟩] }:=by
 rcases h with⟨rfl,rfl,rfl⟩|⟨rfl,x,v,hx,rfl,⟨h1,rfl,rfl⟩|⟨h1,rfl,rfl⟩⟩
 ·have:vs=[]:=List.eq_nil_of_length_eq_zero hj
  subst this
  unfold z6
  split
  ·rename_i e;cases e
  ·rfl
 ·simp only [z6,hx,h1,if_true]
 ·simp only [z6,hx,h1,if_false]
end
section
variable {hp:Nm→Option AO} {p:Prg} {n:Nm} {m:Mch} {dp i b e nf nk nc:Nat} {fs L:List Frm} {f:Frm} {k:Blk}
theorem qIo (h:OwnX hp p n m dp) (h0:0<p.length):Bw hp noD (.pt Xn 0) (.el [csl (qf p p.length),.sl 1 (yW qOs p),.hs (.c Xn 0 2) 3 0 m.cells.length,.hs (.c Xn 0 3) 3 0 8,.hs (.c Xn 0 4) 2 0 m.funs.length,.hs (.c Xn 0 5) 1 0 m.classes.length,.hs n 7 0 m.frames.length,iv m.made,iv dp,.hs (.c Xn 0 9) 1 0 m.out.length,.hs (.c Xn 0 10) 2 0 m.trace.length,iv m.en,iv m.left] 0):=by
 refine .pt Xn 13 0 _ _ [] rfl h.top rfl fun j a a' ha ha'=>?_
 match j,ha,ha' with
 | 0,ha,ha'=>obtain rfl:=sI ha;obtain rfl:=sI ha';exact .refl _
 | 1,ha,ha' =>
  obtain rfl:=sI ha
  obtain rfl:=sI ha'
  refine .hs (.c Xn 0 1) 1 0 _ _ _ rfl h.caps (by rw [qDB h0];omega) (qDB h0) (by simp [yW]) fun i r1 r2 e1 e2 j a a' e3 e4=>?_
  rw [Nat.zero_add,e2] at e1
  obtain rfl:=sI e1
  rw [e3] at e4
  obtain rfl:=sI e4
  exact .refl _
 | 2,ha,ha'=>obtain rfl:=sI ha;obtain rfl:=sI ha';exact .refl _
 | 3,ha,ha'=>obtain rfl:=sI ha;obtain rfl:=sI ha';exact .refl _
 | 4,ha,ha'=>obtain rfl:=sI ha;obtain rfl:=sI ha';exact .refl _
 | 5,ha,ha'=>obtain rfl:=sI ha;obtain rfl:=sI ha';exact .refl _
 | 6,ha,ha'=>obtain rfl:=sI ha;obtain rfl:=sI ha';exact .refl _
 | 7,ha,ha'=>obtain rfl:=sI ha;obtain rfl:=sI ha';exact .refl _
 | 8,ha,ha'=>obtain rfl:=sI ha;obtain rfl:=sI ha';exact .refl _
 | 9,ha,ha'=>obtain rfl:=sI ha;obtain rfl:=sI ha';exact .refl _
 | 10,ha,ha'=>obtain rfl:=sI ha;obtain rfl:=sI ha';exact .refl _
 | 11,ha,ha'=>obtain rfl:=sI ha;obtain rfl:=sI ha';exact .refl _
 | 12,ha,ha'=>obtain rfl:=sI ha;obtain rfl:=sI ha';exact .refl _
 | j+13,ha,_=>simp [jQ] at ha
theorem qMK (hF:hp n=some (.row 7 (qq p n L))) (hat:L[i]?=some f):Bw hp noD (.ep n 7 i 0) (.el (zg p n i f) 0):=by
 refine .ep n 7 i 0 _ _ _ rfl hF (by rw [zY,hat];rfl) rfl fun j a a' ha ha'=>?_
 rw [ha] at ha'
 obtain rfl:=sI ha'
 exact .refl _
theorem qMF (hh:zj p) (h:FOk p nf nk nc f e) (hk:p[b]?=some k) (hpar:k.parent=f.blk) (i:Nat) (y:Int) (hy:(zL p b)[i]?=some y):∃ z:Nat,y=z∧∃ c,(zm f.cells)[z]?=some c∧((y9 p f b)[i]?).map (fun (x:Nat)=>(x:Int))=some c:=by
 have hpa:uD p b=f.blk:=by simp [uD,hk,hpar]
 have hr:=qME hh hk y (gM hy)
 rw [hpa] at hr
 have hcl:=h.cl
 have hlt:y.toNat<f.cells.length:=by omega
 refine⟨y.toNat,by omega,(f.cells[y.toNat]:Nat),?_,?_⟩
 ·simp [zm,hlt]
 ·simp only [y9,List.getElem?_map,hy,Option.map_some,List.getD_eq_getElem?_getD,gE hlt]
  rfl
theorem qIl (b:Nat):(y9 p f b).length=(zL p b).length:=by simp [y9]
end
end Go.Hm
end
section
namespace Go.Hm
open Go Go.RowKit
theorem qC3 {X:Ctx} {st:St} {K:St→Prop} {E:AV→St→Prop} {o:Oper} (n0 n1:Nm) (h0:n0.isU=false∨X.ext n0=false) (h1:n1.isU=false∨X.ext n1=false) (h:qj X o (fun s=>K s∨K (s.move n0 n1)) E st):qj X o K E st:=by
 refine qj.post h ?_
 rintro s a w hR (hK|hK)
 ·exact⟨_,hR,hK⟩
 ·exact⟨_,hR.move n0 n1 h0 h1,hK⟩
structure EndX0 (hp:Nm→Option AO) (p:Prg) (m:Mch) (dp:Nat):Prop where
 top:∃ (a b c d:AV) (k:Nat),hp Xn=some (.row 13 [[a,b,.hs (.c Xn 0 2) 3 0 m.cells.length,.hs (.c Xn 0 3) 3 0 8,c,d,.hs (.c Xn 0 6) 7 0 k,iv m.made,iv dp,.hs (.c Xn 0 9) 1 0 m.out.length,.hs (.c Xn 0 10) 2 0 m.trace.length,iv m.en,iv m.left]])
 cells:hp (.c Xn 0 2)=some (.row 3 (qV m.cells))
 glob:hp (.c Xn 0 3)=some (.row 3 (qV m.globals))
 out:hp (.c Xn 0 9)=some (.row 1 (qY m.out))
 trc:hp (.c Xn 0 10)=some (.row 2 (yI m.trace))
section
variable {hp hp':Nm→Option AO} {p:Prg} {n:Nm} {m:Mch} {dp:Nat} {fs L:List Frm} {f g:Frm} {o:Int×Int}
theorem OwnX.end0 (h:OwnX hp p (.c Xn 0 6) m dp):EndX0 hp p m dp:=⟨⟨_,_,_,_,_,h.top⟩,h.cells,h.glob,h.out,h.trc⟩
theorem qMb.done {fr:List Frm} (h:OwnX hp p (.c Xn 0 6) { m with frames:=fr } dp) (h1:m.en=0→fr=m.frames):OwnX hp p (.c Xn 0 6) m dp∨(m.en≠0∧EndX0 hp p m dp):=by
 by_cases e:m.en=0
 ·left
  have:=h1 e
  subst this
  exact h
 ·have h3:=h.end0
  exact .inr ⟨e,h3.top,h3.cells,h3.glob,h3.out,h3.trc⟩
theorem EndX0.ren (h:EndX0 hp p m dp) {F:Nm→Option Nm} (hF:∀ k,Nm.under Xn k=true→F k=some k) (hh:∀ k,Nm.under Xn k=true→hp' k=(hp k).map (AO.tr F)):EndX0 hp' p m dp:=by
 have hc:∀ j,Nm.under Xn (.c Xn 0 j)=true:=fun j=>by simp
 obtain⟨a,b,c,d,e,ht⟩:=h.top
 refine⟨⟨a.tr F,b.tr F,c.tr F,d.tr F,e,?_⟩,?_,?_,?_,?_⟩
 ·rw [hh _ (by simp),ht];simp [AO.tr,hF _ (hc 2),hF _ (hc 3),hF _ (hc 6),hF _ (hc 9),hF _ (hc 10)]
 ·rw [hh _ (hc 2),h.cells];simp [AO.tr]
 ·rw [hh _ (hc 3),h.glob];simp [AO.tr]
 ·rw [hh _ (hc 9),h.out];simp [AO.tr]
 ·rw [hh _ (hc 10),h.trc];simp [AO.tr]
theorem EndX0.cong (h:EndX0 hp p m dp) (hh:∀ k,Nm.under Xn k=true→hp' k=hp k):EndX0 hp' p m dp:=by
 refine h.ren (F:=some) (fun _ _=>rfl) fun q hq=>?_
 rw [hh q hq]
 cases hp q with
 | none=>rfl
 | some o=>simp [AO.tr_some]
theorem EndX0.fin (h:EndX0 hp p m dp) {D:Nm→Bool} (hD:∀ k,D k=true→k.sroot=false) (hW:∀ k,Nm.under Xn k=true→D k=true):EndX0 (wX D [] hp) p m dp :=
 h.ren (F:=jO D []) (fun k hk=>by simp only [jO,hW k hk,if_true]) (fun k hk=>by simp only [wX,hW k hk,if_true])
theorem OwnX.ren1 (h:OwnX hp p (.c Xn 0 6) m dp) {F:Nm→Option Nm} (hF:∀ k,Nm.under Xn k=true→F k=some k) (hh:∀ k,Nm.under Xn k=true→hp' k=(hp k).map (AO.tr F)):OwnX hp' p (.c Xn 0 6) m dp:=by
 have hc:∀ j,Nm.under Xn (.c Xn 0 j)=true:=fun j=>by simp
 have hq:∀ i j,Nm.under Xn (.c (.c Xn 0 6) i j)=true:=fun i j=>by simp
 refine⟨?_,?_,?_,?_,?_,?_,?_,?_,h.fr.top.imp fun js hj=>?_,fun i g hg=>?_,fun i g hg=>?_,fun i g hg=>(h.fr.stack i g hg).imp fun j hj=>?_⟩
 ·rw [hh _ (by simp),h.top]
  simp [jQ,AO.tr,AV.tr,jM,hF _ (hc 1),hF _ (hc 2),hF _ (hc 3),hF _ (hc 4),hF _ (hc 5),hF _ (hc 9),hF _ (hc 10),hF _ (hc 6)]
 ·rw [hh _ (hc 1),h.caps];simp [AO.tr,AV.tr]
 ·rw [hh _ (hc 2),h.cells];simp [AO.tr]
 ·rw [hh _ (hc 3),h.glob];simp [AO.tr]
 ·rw [hh _ (hc 4),h.funs];simp [AO.tr]
 ·rw [hh _ (hc 5),h.clss];simp [AO.tr]
 ·rw [hh _ (hc 9),h.out];simp [AO.tr]
 ·rw [hh _ (hc 10),h.trc];simp [AO.tr]
 ·rw [hh _ (hc 6),hj]
  simp only [Option.map_some,AO.tr]
  rw [qCr fun i j=>hF _ (hq i j)]
 ·rw [hh _ (hq i 3),h.fr.fasts i g hg];simp [AO.tr]
 ·rw [hh _ (hq i 5),h.fr.names i g hg];simp [AO.tr]
 ·rw [hh _ (hq i 6),hj];simp [AO.tr]
theorem OwnX.fin1 (h:OwnX hp p (.c Xn 0 6) m dp):OwnX (wX (Nm.under Xn) [] hp) p (.c Xn 0 6) m dp :=
 h.ren1 (F:=jO (Nm.under Xn) []) (fun k hk=>by simp only [jO,hk,if_true]) (fun k hk=>by simp only [wX,hk,if_true])
theorem qJf (ho:(jx p f.blk)[f.pc]?=some o) (h:o.1≠0):vV p f.next=vV p f:=by
 simp only [vV,Frm.next]
 rw [kv ho,if_neg h]
 rfl
theorem qJe (ho:(jx p f.blk)[f.pc]?=some o) (h:o.1=0):vV p f.next=vV p f+1:=by
 simp only [vV,Frm.next]
 rw [kv ho,if_pos h]
 omega
theorem qGX (hat:L[fs.length]?=some f) (ho:(jx p f.blk)[f.pc]?=some o) (h:o.1≠0):q8 (qq p n L) fs.length 1 [iv ((f.pc:Int)+1)]=qq p n (L.set fs.length f.next):=by
 refine qCp hat ?_
 have:=qJf ho h
 simp only [zg,this]
 simp [Frm.next]
theorem qGW (hat:L[fs.length]?=some f) (ho:(jx p f.blk)[f.pc]?=some o) (h:o.1=0):q8 (q8 (qq p n L) fs.length 1 [iv ((f.pc:Int)+1)]) fs.length 2 [iv (vV p f+1)]=qq p n (L.set fs.length f.next):=by
 have hl:=(gS hat).1
 apply List.ext_getElem?
 intro j
 simp only [q8,List.getElem?_modify,zY,List.getElem?_set]
 by_cases e:fs.length=j
 ·subst e
  rw [hat]
  have:=qJe ho h
  simp only [Option.map_some,if_true,hl,zg,this]
  simp [Frm.next]
 ·simp [e]
end
end Go.Hm
end
