/-
  Own texts, joined by mkclaim.py: Hm18, Hm19.
-/
import Derived.Test.YtbgmnmnoaamgkaaGreatDoorD06
import Derived.KernelRfl
set_option linter.unusedSimpArgs false
set_option linter.unusedVariables false
set_option maxRecDepth 100000
set_option maxHeartbeats 4000000

section
namespace Go.Hm
open Go Go.RowKit
section
variable {X:Ctx} {ops:Array Oper} {st:St} {K:St→Prop}
theorem qGb {p p':Nat→Bool}:∀ (l:List Nat),(∀ x∈l,p' x=true→p x=true)→(∃ x∈l,p x=true∧p' x=false)→(l.filter p').length<(l.filter p).length
 | [],_,h=>by obtain⟨x,hx,_⟩:=h;cases hx
 | y::l,h1,h2=>by
  have le:∀ (l:List Nat),(∀ x∈l,p' x=true→p x=true)→(l.filter p').length≤(l.filter p).length:=by
   intro l
   induction l with
   | nil=>intro _;simp
   | cons z l ih =>
    intro h
    have:=ih (fun x hx=>h x (List.mem_cons_of_mem _ hx))
    have hz:=h z (by simp)
    cases e:p' z <;> cases e':p z <;> simp_all
    omega
  have hle:=le l (fun x hx=>h1 x (List.mem_cons_of_mem _ hx))
  obtain⟨x,hx,e1,e2⟩:=h2
  rcases List.mem_cons.1 hx with rfl|hx
  ·simp [e1,e2];omega
  ·have:=qGb l (fun x hx=>h1 x (List.mem_cons_of_mem _ hx)) ⟨x,hx,e1,e2⟩
   have hy:=h1 y (by simp)
   cases e:p' y <;> cases e':p y <;> simp_all
   omega
def unl (ops:Array Oper) (listed:Array Bool):Nat:=((List.range ops.size).filter (fun i=>!listed.getD i true)).length
theorem yO {listed:Array Bool} {i j:Nat} (hi:i<listed.size):(listed.setIfInBounds i true).getD j true=if j=i then true else listed.getD j true:=by
 simp only [Array.getD_eq_getD_getElem?]
 split
 ·rename_i e
  subst e
  rw [Array.getElem?_setIfInBounds_self_of_lt hi]
  rfl
 ·rename_i e
  rw [Array.getElem?_setIfInBounds_ne (fun h=>e h.symm)]
theorem uP {listed:Array Bool} {i:Nat} (hi:i<listed.size):listed.getD i true=listed.getD i false:=by
 simp [Array.getD_eq_getD_getElem?,hi]
theorem qGx {listed:Array Bool} {i:Nat} (hs:listed.size=ops.size) (hi:i<ops.size) (h:listed.getD i true=false):unl ops (listed.setIfInBounds i true)<unl ops listed:=by
 unfold unl
 refine qGb _ (fun x _ hx=>?_) ⟨i,List.mem_range.2 hi,by simp [h],?_⟩
 ·rw [yO (by omega)] at hx
  split at hx
  ·simp at hx
  ·exact hx
 ·rw [yO (by omega),if_pos rfl];rfl
theorem qLR {i j:Nat} {o:Oper} (ho:ops[i]?=some o):j∈prd ops i↔∃ e∈o.after,Region.binds .any e=true∧e.on=j:=by
 simp only [prd,ho,List.mem_map,List.mem_filter,Array.mem_toList_iff]
 constructor
 ·rintro⟨e,⟨h1,h2⟩,h3⟩;exact⟨e,h1,h2,h3⟩
 ·rintro⟨e,h1,h2,h3⟩;exact⟨e,⟨h1,h2⟩,h3⟩
theorem qAR {listed:Array Bool} {i:Nat}:i∈Region.ready .any ops listed↔listed.getD i true=false∧i<ops.size∧∀ j∈prd ops i,listed.getD j false=true:=by
 rw [mem_ready]
 constructor
 ·rintro⟨h0,o,ho,h⟩
  refine⟨h0,(Array.getElem?_eq_some_iff.1 ho).1,fun j hj=>?_⟩
  obtain⟨e,h1,h2,rfl⟩:=(qLR ho).1 hj
  exact h e h1 h2
 ·rintro⟨h0,hi,h⟩
  exact⟨h0,ops[i],Array.getElem?_eq_getElem hi,fun e he hb=>h _ ((qLR (Array.getElem?_eq_getElem hi)).2 ⟨e,he,hb,rfl⟩)⟩
theorem qLz {listed:Array Bool}:∀ (l:List Nat),qM0 ops l→(∃ q∈l,listed.getD q true=false)→∃ q∈l,listed.getD q true=false∧∀ j∈prd ops q,listed.getD j true=true
 | [],_,h=>by obtain⟨q,hq,_⟩:=h;cases hq
 | x::l,hl,h=>by
  by_cases ht:∃ q∈l,listed.getD q true=false
  ·obtain⟨q,h1,h2,h3⟩:=qLz l hl.2.2.2 ht
   exact⟨q,List.mem_cons_of_mem _ h1,h2,h3⟩
  ·obtain⟨q,hq,e⟩:=h
   rcases List.mem_cons.1 hq with rfl|hq
   ·refine⟨q,by simp,e,fun j hj=>?_⟩
    have hj':=hl.2.2.1 j hj
    cases e':listed.getD j true with
    | true=>rfl
    | false=>exact absurd ⟨j,hj',e'⟩ ht
   ·exact absurd ⟨q,hq,e⟩ ht
theorem qMo {P:Program} {o:Oper} {a b:Act} {K1 K2:Act→World→Prop} {Q:Exit→Act→World→Prop} {r:Result Next} (hdef:a.defers=b.defers)
  (hK:∀ v D w',K1 (Act.put { b with defers:=D } o.dst v) w'→K2 (Act.put { a with defers:=D } o.dst v) w') (h:o.upon P b K1 (fun _ _ _=>False) r):o.upon P a K2 Q r:=by
 have hb:({ b with defers:=b.defers }:Act)=b:=rfl
 have ha:({ a with defers:=b.defers }:Act)=a:=by rw [← hdef]
 have hv:∀ v w',K1 (b.put o.dst v) w'→K2 (a.put o.dst v) w':=fun v w' h=>by
  have:=hK v b.defers w' (by rw [hb];exact h)
  rwa [ha] at this
 cases r with
 | ok n w' =>
  cases n with
  | value v=>exact hv v w' h
  | skip=>exact hv undef w' h
  | defer d =>
   have h:K1 (Act.put { b with defers:=d::b.defers } o.dst undef) w':=h
   show K2 (Act.put { a with defers:=d::a.defers } o.dst undef) w'
   rw [hdef]
   exact hK _ _ _ h
  | enter f args =>
   refine Calls.mono h fun e w'' he=>?_
   cases e with
   | returned v=>exact hv v w'' he
   | panicked ch=>exact he.elim
   | outgrown=>obtain⟨_,_,h⟩:=he;exact h.elim
  | row row args=>exact Rows.mono h fun v w'' he=>hv v w'' he
  | _=>exact h.elim
 | halt x w' =>
  cases x with
  | panic v=>exact h.elim
  | _=>exact h.elim
theorem qI4 {LV:List Nat} (h:okD ops .done LV=true):∀ i,i<ops.size→i∈LV:=by
 intro i hi
 simp only [okD] at h
 exact zH.1 (List.all_eq_true.1 h i (List.mem_range.2 hi))
theorem qEh {LV:List Nat} {i:Nat}:i∈qPT ops LV↔i<ops.size∧i∉LV∧∀ j∈prd ops i,j∈LV:=by
 simp only [qPT,List.mem_filter,List.mem_range,rdy,Bool.and_eq_true,Bool.not_eq_true',List.all_eq_true]
 constructor
 ·rintro⟨h1,h2,h3⟩
  refine⟨h1,fun hm=>?_,fun j hj=>zH.1 (h3 j hj)⟩
  rw [zH.2 hm] at h2
  cases h2
 ·rintro⟨h1,h2,h3⟩
  refine⟨h1,?_,fun j hj=>zH.2 (h3 j hj)⟩
  cases e:LV.contains i with
  | false=>rfl
  | true=>exact absurd (zH.1 e) h2
theorem qP3 {sch:Sch} {LV:List Nat} {listed:Array Bool} {a b:Act} {w:World} {Q:Exit→Act→World→Prop} (hK:∀ a' w' st',Rw X st' a' w'→K st'→Q .normal a' w') (hD:DI X ops LV listed st a b w)
  (hnq:∀ i r,sch≠.q i r) (hok:okD ops sch LV=true) (hr:yW X ops.toList (ops.toList.map (·.dst)) K sch st) (hall:∀ i,i<ops.size→listed.getD i true=true):Q .normal a w:=by
 have hin:∀ i,i<ops.size→i∈LV:=fun i hi=>hD.sub i hi (hall i hi)
 have no:∀ i,i∉qPT ops LV:=fun i hm=>by
  obtain⟨h1,h2,_⟩:=qEh.1 hm
  exact h2 (hin i h1)
 have hab:a=b:=by
  obtain⟨t1,d1⟩:=a
  obtain⟨t2,d2⟩:=b
  have hd:d1=d2:=hD.agr.defers
  have ht:t1=t2:=by
   apply Array.ext_getElem?
   intro t
   exact hD.agr.tmps t (fun⟨q,x1,x2,_⟩=>by rw [hall q (hD.ord.lt q x1)] at x2;cases x2)
  rw [hd,ht]
 cases sch with
 | done=>exact hK a w st (hab ▸ hD.rw) hr
 | q i r=>exact absurd rfl (hnq i r)
 | l i ps r =>
  simp only [okD,Bool.and_eq_true,beq_iff_eq] at hok
  exact absurd (by rw [hok.1.1.1];simp) (no i)
 | l2 i ps r j qs s =>
  simp only [okD,Bool.and_eq_true,beq_iff_eq] at hok
  exact absurd (by rw [hok.1.1.1.1.1.1];simp) (no i)
 | l3 i ps r j qs s k us t =>
  simp only [okD,Bool.and_eq_true,beq_iff_eq] at hok
  exact absurd (by rw [hok.1.1.1.1.1.1.1.1.1];simp) (no i)
theorem qRx {fuel i:Nat} {ps LV:List Nat} {r:Sch} {listed:Array Bool} {a b:Act} {w:World} {Q:Exit→Act→World→Prop} {o:Oper} (hw:WfD ops) (ho:ops[i]?=some o) (hq:qui ops i=false) (hD:DI X ops LV listed st a b w)
  (hni:i∉LV) (hlist:∀ j∈prd ops i,listed.getD j false=true) (hps:∀ q∈qGH ops LV i,q∈ps) (hok:okD ops r (i::LV)=true)
  (h:qKG X (ops.toList.map (·.dst)) o (fun s=>kI X ops.toList (ops.toList.map (·.dst)) ps s∧yW X ops.toList (ops.toList.map (·.dst)) K r s) (fun _ _=>False) st)
  (hun:unl ops listed≤fuel+1)
  (ih:∀ (sch:Sch) (LV:List Nat) (listed:Array Bool) (st:St) (a b:Act) (w:World),DI X ops LV listed st a b w→okD ops sch LV=true→yW X ops.toList (ops.toList.map (·.dst)) K sch st→unl ops listed≤fuel→wpAny X.P .any ops Q fuel listed a w) :
  wpOp X.P ops Q i (wpAny X.P .any ops Q fuel (listed.setIfInBounds i true)) a w:=by
 have hlt:i<ops.size:=(Array.getElem?_eq_some_iff.1 ho).1
 have hlt':i<listed.size:=by rw [hD.len];exact hlt
 have lst:∀ j∈prd ops i,j<ops.size→listed.getD j true=true:=fun j hj hjlt=>by
  rw [uP (by rw [hD.len];exact hjlt)];exact hlist j hj
 have hlook:∀ t∈o.looksAt ops,¬ ∃ q∈LV,listed.getD q true=false∧vY ops q=some t:=by
  rintro t ht ⟨q,x1,x2,x3⟩
  have hqlt:=hD.ord.lt q x1
  have:=hw.look i o t q ho ht hqlt x3 (hD.pend q x1 x2).1
  rw [lst q this hqlt] at x2
  cases x2
 have hex:=hD.agr.exec (hw.sel i o · · ho) hlook
 have hwt:=hD.agr.wanted hlook
 have hprd:∀ j∈prd ops i,j∈LV:=fun j hj=>by
  have hjl:=hlist j hj
  have hjlt:j<ops.size:=by
   refine Nat.lt_of_not_le fun hge=>?_
   rw [Array.getD_eq_getD_getElem?,Array.getElem?_eq_none (by rw [hD.len];exact hge)] at hjl
   cases hjl
  exact hD.sub j hjlt (lst j hj hjlt)
 have hni':listed.getD i true=false:=by
  cases e:listed.getD i true with
  | false=>rfl
  | true=>exact absurd (hD.sub i hlt e) hni
 -- what comes behind
 have next:∀ (a' b':Act) (w':World) (s:St),Rw X s b' w'→kI X ops.toList (ops.toList.map (·.dst)) ps s→yW X ops.toList (ops.toList.map (·.dst)) K r s →
   Agr (fun t=>∃ q∈LV,listed.getD q true=false∧vY ops q=some t) a' b'→wpAny X.P .any ops Q fuel (listed.setIfInBounds i true) a' w':=by
  intro a' b' w' s hR hst hrun hag
  have un':∀ q,(listed.setIfInBounds i true).getD q true=false→q≠i∧listed.getD q true=false:=by
   intro q e
   rw [yO hlt'] at e
   split at e
   ·cases e
   ·rename_i hne;exact⟨hne,e⟩
  have lis':∀ k,listed.getD k true=true→(listed.setIfInBounds i true).getD k true=true:=by
   intro k e
   rw [yO hlt']
   split
   ·rfl
   ·exact e
  have hord:qM0 ops (i::LV):=⟨hni,hlt,hprd,hD.ord⟩
  obtain⟨b2,hR2,hP2,hag2⟩:=qUN hw hR (listed:=listed.setIfInBounds i true) (i::LV) hord (fun q hqm e=>by
   obtain⟨hne,eq⟩:=un' q e
   have hqLV:q∈LV:=(List.mem_cons.1 hqm).resolve_left hne
   obtain⟨x1,o',d',x2,x3,x4,_⟩:=hD.pend q hqLV eq
   have hqlt:=hD.ord.lt q hqLV
   refine⟨x1,?_⟩
   have hqp:q∈qGH ops LV i:=by
    refine List.mem_filter.2 ⟨hqLV,?_⟩
    simp only [x1,Bool.true_and,Bool.not_eq_true',List.any_eq_false]
    intro l hl hc
    simp only [Bool.and_eq_true,Bool.not_eq_true'] at hc
    obtain⟨hlq,hlp⟩:=hc
    have hlp:=zH.1 hlp
    have hl1:∀ q'∈prd ops l,listed.getD q' false=true:=by
     rcases List.mem_cons.1 hl with rfl|hl
     ·exact hlist
     ·exact hD.closed l (hD.ord.lt l hl) (by
       cases e':listed.getD l true with
       | true=>rfl
       | false=>rw [(hD.pend l hl e').1] at hlq;cases hlq)
    have this:listed.getD q false=true:=qIY (L:=fun q=>listed.getD q false=true) (fun q' h3=>by
     have hlt2:q'<ops.size:=by
      refine Nat.lt_of_not_le fun hge=>?_
      rw [Array.getD_eq_getD_getElem?,Array.getElem?_eq_none (by rw [hD.len];exact hge)] at h3
      cases h3
     exact hD.closed q' hlt2 (by rw [uP (by rw [hD.len];exact hlt2)];exact h3)) _ _ hl1 q hlp
    rw [← uP (by rw [hD.len];exact hqlt),eq] at this
    cases this
   obtain⟨o2,y1,y2⟩:=qFd hst q (hps q hqp)
   refine⟨o2,y1,y2,fun d hd=>?_⟩
   rw [x2] at y1
   obtain rfl:=sI y1
   rw [x3] at hd
   obtain rfl:=sI hd
   rw [← hD.rw.size];exact x4)
  refine ih r (i::LV) (listed.setIfInBounds i true) s a' b2 w' ⟨hR2,by rw [Array.size_setIfInBounds];exact hD.len,fun k hk e=>?_,fun k hk e j hj=>?_,fun q hqm e=>?_,⟨?_,?_,fun t ht=>?_⟩,hord⟩ hok hrun ?_
  ·rw [yO hlt'] at e
   split at e
   ·rename_i e';rw [e'];simp
   ·exact List.mem_cons_of_mem _ (hD.sub k hk e)
  ·have:listed.getD j false=true:=by
    rw [yO hlt'] at e
    split at e
    ·rename_i e';subst e';exact hlist j hj
    ·exact hD.closed k hk e j hj
   have hjlt:j<listed.size:=by
    refine Nat.lt_of_not_le fun hge=>?_
    rw [Array.getD_eq_getD_getElem?,Array.getElem?_eq_none hge] at this
    cases this
   rw [← uP (by rw [Array.size_setIfInBounds];exact hjlt)]
   exact lis' j (by rw [uP hjlt];exact this)
  ·obtain⟨hne,e'⟩:=un' q e
   have hqLV:q∈LV:=(List.mem_cons.1 hqm).resolve_left hne
   exact⟨(hD.pend q hqLV e').1,hP2 q hqm e⟩
  ·rw [hag.defers,hag2.defers]
  ·rw [hag.size,hag2.size]
  ·rw [hag2.tmps t ht]
   refine hag.tmps t fun⟨q,x1,x2,x3⟩=>ht ⟨q,List.mem_cons_of_mem _ x1,?_,x3⟩
   rw [yO hlt']
   split
   ·rename_i e;exact absurd (e ▸ x1) hni
   ·exact x2
  ·have:=qGx hD.len hlt hni'
   omega
 -- the operation itself
 have hop:=h ops i rfl ho b w (fun _ _ _=>False) hD.rw (fun _ _ _ _ _ h=>h.elim)
 have agr':∀ v,Agr (fun t=>∃ q∈LV,listed.getD q true=false∧vY ops q=some t) (a.put o.dst v) (b.put o.dst v):=fun v=>hD.agr.put o.dst v (fun t ht=>.inr ht)
 unfold wpOp at hop ⊢
 simp only [ho] at hop ⊢
 rw [hwt]
 split at hop
 ·rename_i hwd
  rw [if_pos hwd]
  rcases hop with hop|⟨_,_,_,hop⟩
  ·left
   unfold Oper.wp at hop ⊢
   rw [hex]
   refine qMo hD.agr.defers ?_ hop
   rintro v D w' ⟨s,hR,hst,hrun⟩
   refine next _ _ w' s hR hst hrun ?_
   have:Agr (fun t=>∃ q∈LV,listed.getD q true=false∧vY ops q=some t) { a with defers:=D } { b with defers:=D }:=⟨rfl,hD.agr.size,hD.agr.tmps⟩
   exact this.put o.dst v (fun t ht=>.inr ht)
  ·exact hop.elim
 ·rename_i hwd
  rw [if_neg hwd]
  obtain⟨s,hR,hst,hrun⟩:=hop
  exact next _ _ w s hR hst hrun (agr' _)
theorem qVX.of_sch {E:AV→St→Prop} (sch:Sch) (hwf:wfD ops=true) (hok:okD ops sch []=true) (h:yW X ops.toList (ops.toList.map (·.dst)) K sch st):qVX X ops K E st:=by
 have hw:=qMi hwf
 intro a w Q hR hK _
 have main:∀ (fuel:Nat) (sch:Sch) (LV:List Nat) (listed:Array Bool) (st:St) (a b:Act) (w:World),DI X ops LV listed st a b w→okD ops sch LV=true→yW X ops.toList (ops.toList.map (·.dst)) K sch st→unl ops listed≤fuel →
   wpAny X.P .any ops Q fuel listed a w:=by
  intro fuel
  induction fuel with
  | zero =>
   intro sch0 LV0 listed st0 a b0 w hD0 hok0 hr0 hun
   obtain⟨sch,LV,st,b,hnq,hok,hr,hD⟩:=qMV hw sch0 hok0 hr0 hD0
   have hall:∀ i,i<ops.size→listed.getD i true=true:=by
    intro i hi
    cases e:listed.getD i true with
    | true=>rfl
    | false =>
     have:=qGx hD.len hi e
     omega
   refine⟨?_,qP3 hK hD hnq hok hr hall⟩
   apply List.eq_nil_iff_forall_not_mem.2
   intro i hm
   obtain⟨h1,h2,_⟩:=qAR.1 hm
   rw [hall i h2] at h1
   cases h1
  | succ fuel ih =>
   intro sch0 LV0 listed st0 a b0 w hD0 hok0 hr0 hun
   obtain⟨sch,LV,st,b,hnq,hok,hr,hD⟩:=qMV hw sch0 hok0 hr0 hD0
   refine⟨fun hnone=>qP3 hK hD hnq hok hr ?_,fun i hi=>?_⟩
   ·-- nothing is ready: all is done
    have tf:∀ j,listed.getD j false=true↔(j<ops.size∧listed.getD j true=true):=by
     intro j
     by_cases hj:j<ops.size
     ·rw [uP (by rw [hD.len];exact hj)];simp [hj]
     ·simp [Array.getD_eq_getD_getElem?,Array.getElem?_eq_none (by rw [hD.len];omega:listed.size≤j),hj]
    have hLV:∀ q∈LV,listed.getD q true=true:=by
     intro q hq
     cases e:listed.getD q true with
     | true=>rfl
     | false =>
      obtain⟨q',h1,h2,h3⟩:=qLz LV hD.ord ⟨q,hq,e⟩
      have:q'∈Region.ready .any ops listed:=qAR.2 ⟨h2,hD.ord.lt q' h1,fun j hj=>(tf j).2 ⟨hD.ord.lt j (hD.ord.prd q' h1 j hj),h3 j hj⟩⟩
      rw [hnone] at this
      cases this
    have no:∀ i,i∉qPT ops LV:=fun i hm=>by
     obtain⟨h1,h2,h3⟩:=qEh.1 hm
     have hnl:listed.getD i true=false:=by
      cases e:listed.getD i true with
      | false=>rfl
      | true=>exact absurd (hD.sub i h1 e) h2
     have:i∈Region.ready .any ops listed:=qAR.2 ⟨hnl,h1,fun j hj=>(tf j).2 ⟨hD.ord.lt j (h3 j hj),hLV j (h3 j hj)⟩⟩
     rw [hnone] at this
     cases this
    cases sch with
    | done=>exact fun i hi=>hLV i (qI4 hok i hi)
    | q i r=>exact absurd rfl (hnq i r)
    | l i ps r =>
     simp only [okD,Bool.and_eq_true,beq_iff_eq] at hok
     exact absurd (by rw [hok.1.1.1];simp) (no i)
    | l2 i ps r j qs s =>
     simp only [okD,Bool.and_eq_true,beq_iff_eq] at hok
     exact absurd (by rw [hok.1.1.1.1.1.1];simp) (no i)
    | l3 i ps r j qs s k us t =>
     simp only [okD,Bool.and_eq_true,beq_iff_eq] at hok
     exact absurd (by rw [hok.1.1.1.1.1.1.1.1.1];simp) (no i)
   ·obtain⟨h0,hlt,hlist⟩:=qAR.1 hi
    have ho:ops[i]?=some ops[i]:=Array.getElem?_eq_getElem hlt
    by_cases hin:i∈LV
    ·-- a quiet one that is pending
     obtain⟨hq,o,d,ho',hd,hdlt,hP⟩:=hD.pend i hin h0
     rw [ho] at ho'
     obtain rfl:=sI ho'
     have hdi:vY ops i=some d:=by simp [vY,ho,hd]
     have hlt':i<listed.size:=by rw [hD.len];exact hlt
     have hlook:∀ t∈ops[i].looksAt ops,¬ ∃ q∈LV,listed.getD q true=false∧vY ops q=some t:=by
      rintro t ht ⟨q,x1,x2,x3⟩
      have hqlt:=hD.ord.lt q x1
      have hqp:=hw.look i _ t q ho ht hqlt x3 (hD.pend q x1 x2).1
      have:=hlist q hqp
      rw [← uP (by rw [hD.len];exact hqlt),x2] at this
      cases this
     have hex:=hD.agr.exec (hw.sel i _ · · ho) hlook
     have hwt:=hD.agr.wanted hlook
     have nx:wpAny X.P .any ops Q fuel (listed.setIfInBounds i true) (a.put (some d) (b.tmps.getD d undef)) w:=by
      refine ih sch LV _ st _ b w ⟨hD.rw,by rw [Array.size_setIfInBounds];exact hD.len,fun k hk e=>?_,fun k hk e j hj=>?_,fun q hqm e=>?_,⟨hD.agr.defers,by simpa [Act.put] using hD.agr.size,fun t ht=>?_⟩,hD.ord⟩ hok hr ?_
      ·rw [yO hlt'] at e
       split at e
       ·rename_i e';rw [e'];exact hin
       ·exact hD.sub k hk e
      ·have hjl:listed.getD j false=true:=by
        rw [yO hlt'] at e
        split at e
        ·rename_i e';subst e';exact hlist j hj
        ·exact hD.closed k hk e j hj
       have hjlt:j<listed.size:=by
        refine Nat.lt_of_not_le fun hge=>?_
        rw [Array.getD_eq_getD_getElem?,Array.getElem?_eq_none hge] at hjl
        cases hjl
       rw [← uP (by rw [Array.size_setIfInBounds];exact hjlt),yO hlt']
       by_cases hji:j=i
       ·rw [if_pos hji]
       ·rw [if_neg hji]
        exact (uP hjlt).trans hjl
      ·rw [yO hlt'] at e
       split at e
       ·cases e
       ·exact hD.pend q hqm e
      ·simp only [Act.put]
       by_cases htd:d=t
       ·subst htd
        rw [Array.getElem?_setIfInBounds_self_of_lt (by rw [hD.agr.size];exact hdlt),Array.getElem?_eq_getElem hdlt]
        simp [Array.getD_eq_getD_getElem?,hdlt]
       ·rw [Array.getElem?_setIfInBounds_ne htd]
        refine hD.agr.tmps t fun⟨q,x1,x2,x3⟩=>ht ⟨q,x1,?_,x3⟩
        rw [yO hlt']
        split
        ·rename_i e;subst e;rw [hdi] at x3;exact absurd (sI x3) htd
        ·exact x2
      ·have:=qGx hD.len hlt h0
       omega
     unfold wpOp
     simp only [ho]
     rw [hwt,hd]
     rcases hP with⟨hwd,hrun⟩|⟨hwd,hund⟩
     ·rw [if_pos hwd]
      left
      unfold Oper.wp
      rw [hex,hrun,Oper.upon_value,hd]
      exact nx
     ·rw [if_neg (by rw [hwd];simp)]
      rw [hund] at nx
      exact nx
    ·-- one that is not quiet
     have hprd:∀ j∈prd ops i,j∈LV:=fun j hj=>by
      have hjl:=hlist j hj
      have hjlt:j<ops.size:=by
       refine Nat.lt_of_not_le fun hge=>?_
       rw [Array.getD_eq_getD_getElem?,Array.getElem?_eq_none (by rw [hD.len];exact hge)] at hjl
       cases hjl
      exact hD.sub j hjlt (by rw [uP (by rw [hD.len];exact hjlt)];exact hjl)
     have hrd:i∈qPT ops LV:=qEh.2 ⟨hlt,hin,hprd⟩
     cases sch with
     | done=>exact absurd (qI4 hok i hlt) hin
     | q i r=>exact absurd rfl (hnq i r)
     | l i1 ps r =>
      simp only [okD,Bool.and_eq_true,beq_iff_eq,Bool.not_eq_true'] at hok
      obtain⟨⟨⟨k1,k2⟩,k3⟩,k4⟩:=hok
      rw [k1] at hrd
      obtain rfl:=List.mem_singleton.1 hrd
      simp only [yW,Array.getElem?_toList,ho] at hr
      exact qRx hw ho k2 hD hin hlist (fun q hq=>zH.1 (List.all_eq_true.1 k3 q hq)) k4 hr hun ih
     | l2 i1 ps r j1 qs s =>
      simp only [okD,Bool.and_eq_true,beq_iff_eq,Bool.not_eq_true'] at hok
      obtain⟨⟨⟨⟨⟨⟨k1,k2⟩,k3⟩,k4⟩,k5⟩,k6⟩,k7⟩:=hok
      rw [k1] at hrd
      simp only [yW,Array.getElem?_toList] at hr
      rcases List.mem_cons.1 hrd with rfl|hrd
      ·have hr1:=hr.1
       simp only [ho] at hr1
       exact qRx hw ho k2 hD hin hlist (fun q hq=>zH.1 (List.all_eq_true.1 k4 q hq)) k6 hr1 hun ih
      ·obtain rfl:=List.mem_singleton.1 hrd
       have hr2:=hr.2
       simp only [ho] at hr2
       exact qRx hw ho k3 hD hin hlist (fun q hq=>zH.1 (List.all_eq_true.1 k5 q hq)) k7 hr2 hun ih
     | l3 i1 ps r j1 qs s m1 us t =>
      simp only [okD,Bool.and_eq_true,beq_iff_eq,Bool.not_eq_true'] at hok
      obtain⟨⟨⟨⟨⟨⟨⟨⟨⟨k1,k2⟩,k3⟩,k4⟩,k5⟩,k6⟩,k7⟩,k8⟩,k9⟩,k10⟩:=hok
      rw [k1] at hrd
      simp only [yW,Array.getElem?_toList] at hr
      rcases List.mem_cons.1 hrd with rfl|hrd
      ·have hr1:=hr.1
       simp only [ho] at hr1
       exact qRx hw ho k2 hD hin hlist (fun q hq=>zH.1 (List.all_eq_true.1 k5 q hq)) k8 hr1 hun ih
      ·rcases List.mem_cons.1 hrd with rfl|hrd
       ·have hr2:=hr.2.1
        simp only [ho] at hr2
        exact qRx hw ho k3 hD hin hlist (fun q hq=>zH.1 (List.all_eq_true.1 k6 q hq)) k9 hr2 hun ih
       ·obtain rfl:=List.mem_singleton.1 hrd
        have hr3:=hr.2.2
        simp only [ho] at hr3
        exact qRx hw ho k4 hD hin hlist (fun q hq=>zH.1 (List.all_eq_true.1 k7 q hq)) k10 hr3 hun ih
 refine main ops.size sch [] (Array.replicate ops.size false) st a a w ⟨hR,by simp,?_,?_,by simp,⟨rfl,rfl,fun _ _=>rfl⟩,trivial⟩ hok h ?_
 ·intro i hi e
  simp [Array.getD_eq_getD_getElem?,hi] at e
 ·intro i hi e
  simp [Array.getD_eq_getD_getElem?,hi] at e
 ·unfold unl
  refine Nat.le_trans (List.length_filter_le _ _) ?_
  simp
end
section
variable {X:Ctx} {st:St} {K:St→Prop} {E:AV→St→Prop} {ds:List (Option Nat)} {l:List Oper}
theorem qj {id:Nat} {l:List Oper} {Q:Ex→St→Prop} (h:∀ K:St→Prop,(∀ s,Q .normal s→K s)→wT X (l.map (·.dst)) K (fun x=>Q (.pan x)) l st):qW X (.region id l.toArray false) Q st :=
 qMk h
theorem qV7 {id:Nat} {l:List Oper} {Q:Ex→St→Prop} (sch:Sch) (hm:X.P.follows .mixedOrders=true) (hwf:wfD l.toArray=true) (hok:okD l.toArray sch []=true)
  (h:∀ K:St→Prop,(∀ s,Q .normal s→K s)→yW X l (l.map (·.dst)) K sch st):qW X (.region id l.toArray true) Q st :=
 qSh hm fun K hK=>qVX.of_sch sch hwf hok (h K hK)
theorem wSc {id:Nat} {l:List Oper} {Q:Ex→St→Prop} (sch:Sch) (hm:X.P.follows .mixedOrders=true) (h:∀ K:St→Prop,(∀ s,Q .normal s→K s)→yW X l (l.map (·.dst)) K sch st) (hwf:wfD l.toArray=true:=by kernel_rfl) (hok:okD l.toArray sch []=true:=by kernel_rfl):qW X (.region id l.toArray true) Q st:=qV7 sch hm hwf hok h
theorem qCL (h:K st):wT X ds K E [] st:=h
theorem qc {K':St→Prop} (hK:∀ s,K' s→K s) (h:K' st):wT X ds K E [] st:=hK st h
theorem wL {K':St→Prop} (hK:∀ s,K' s→K s) (h:K' st):yW X l ds K .done st:=hK st h
theorem qu {Q:Ex→St→Prop} {id:Nat} (h:Q (.exit id) st):qHA K Q (.exit id) st:=h
theorem qP {Q:Ex→St→Prop} (h:Q .ret st):qHA K Q .ret st:=h
theorem qF6 {Q:Ex→St→Prop} {id:Nat} (h:Q (.goto id) st):qHA K Q (.goto id) st:=h
theorem qb {Q:Ex→St→Prop} {id:Nat} (h:Q .normal st):uA id Q .normal st:=h
theorem zK {Q:Ex→St→Prop} {id:Nat} (h:Q .ret st):uA id Q .ret st:=h
theorem qYZ {o:Oper} {j e:Nat} {want t:Bool} (_ho:o.guard=some (j,want)) (_hj:ds[j]?=some (some e)) (ht:st.tm e=.sc (.bool t)) (h1:t=true→wT X ds K E (o::l) (st.put (some e) (.sc (.bool true)))) (h2:t=false→wT X ds K E (o::l) (st.put (some e) (.sc (.bool false)))) :
  wT X ds K E (o::l) st:=by
 cases t with
 | true=>have:=h1 rfl;rwa [vV ht] at this
 | false=>have:=h2 rfl;rwa [vV ht] at this
theorem qO {dst:Option Nat} {op:Op} {ty:TypeId} {pos:String} {aft:Array Edge} (h:qK X ⟨dst,op,ty,pos,aft,none⟩ (wT X ds K E l) E st):wT X ds K E (⟨dst,op,ty,pos,aft,none⟩::l) st:=qUx rfl h
def Gx (X:Ctx) (ds:List (Option Nat)) (K:St→Prop) (E:AV→St→Prop) (l:List Oper) (st:St) (dst:Option Nat) (op:Op) (ty:TypeId) (pos:String) (aft:Array Edge) (j:Nat) (want:Bool) (e:Nat) (v:AV):Prop :=
 ds[j]?=some (some e)→st.tm e=v→wT X ds K E (⟨dst,op,ty,pos,aft,some (j,want)⟩::l) st
section
variable {dst:Option Nat} {op:Op} {ty:TypeId} {pos:String} {aft:Array Edge} {j e:Nat} {want:Bool} {v:AV}
theorem qQk (hj:ds[j]?=some (some e)) (ht:st.tm e=v) (h:Gx X ds K E l st dst op ty pos aft j want e v):wT X ds K E (⟨dst,op,ty,pos,aft,some (j,want)⟩::l) st:=h hj ht
theorem jV (h:qK X ⟨dst,op,ty,pos,aft,some (j,true)⟩ (wT X ds K E l) E st):Gx X ds K E l st dst op ty pos aft j true e (.sc (.bool true)):=fun hj ht=>qP2 rfl hj ht h
theorem y7 (h:qK X ⟨dst,op,ty,pos,aft,some (j,false)⟩ (wT X ds K E l) E st):Gx X ds K E l st dst op ty pos aft j false e (.sc (.bool false)):=fun hj ht=>qP2 rfl hj ht h
theorem qXh (hn:∀ e,dst=some e→e<X.n) (h:wT X ds K E l (st.put dst (.sc undef))):Gx X ds K E l st dst op ty pos aft j true e (.sc (.bool false)):=fun hj ht=>qLj rfl hj ht hn h
theorem qXi (hn:∀ e,dst=some e→e<X.n) (h:wT X ds K E l (st.put dst (.sc undef))):Gx X ds K E l st dst op ty pos aft j false e (.sc (.bool true)):=fun hj ht=>qLj rfl hj ht hn h
theorem qY6 (hn:∀ e,dst=some e→e<X.n) (h:wT X ds K E l (st.put dst (.sc undef))):Gx X ds K E l st dst op ty pos aft j want e (.sc undef):=fun hj ht=>qRb rfl hj ht hn h
theorem kB {t:Bool} (h1:t=true→wT X ds K E (⟨dst,op,ty,pos,aft,some (j,want)⟩::l) (st.put (some e) (.sc (.bool true)))) (h2:t=false→wT X ds K E (⟨dst,op,ty,pos,aft,some (j,want)⟩::l) (st.put (some e) (.sc (.bool false)))) :
  Gx X ds K E l st dst op ty pos aft j want e (.sc (.bool t)):=fun hj ht=>qYZ rfl hj ht h1 h2
end
theorem ub {c:Nat} {x y:Code} {Q:Ex→St→Prop} {t:Bool} (ht:st.tm c=.sc (.bool t)) (h1:t=true→qW X x Q (st.put (some c) (.sc (.bool true)))) (h2:t=false→qW X y Q (st.put (some c) (.sc (.bool false)))):qW X (.cond (.tmp c) x y) Q st:=by
 cases t with
 | true=>have:=h1 rfl;rw [vV ht] at this;exact qHz (c:=.tmp c) ht (fun _=>this) (fun e=>by cases e)
 | false=>have:=h2 rfl;rw [vV ht] at this;exact qHz (c:=.tmp c) ht (fun e=>by cases e) (fun _=>this)
section
variable {d:Nat} {ty:TypeId} {pos:String} {aft:Array Edge} {g:Option (Nat×Bool)} {st' st1:St}
theorem o_q {op:Op} {z:AV} (hd:d<X.n) (hz:qev X.P st ⟨some d,op,ty,pos,aft,g⟩=some z) (h:K (st.put (some d) z)):qK X ⟨some d,op,ty,pos,aft,g⟩ K E st :=
 (qKd (fun _ e=>by obtain rfl:=sI e;exact hd) hz h)
theorem qOP {x:Operand} (hd:d<X.n) (hs:qHn X.P ty d (ev st x) st=st') (h:K st'):qK X ⟨some d,.assign x,ty,pos,aft,g⟩ K E st :=
 (qJO rfl rfl hd (hs ▸ h))
theorem qXT {T:TypeId} {x:Operand} {cs:List AV} (hd:d<X.n) (hq:(ev st x).cells=some cs) (hz:cs.length=tsz X.P T) (hs:wx X.P T d cs st=st') (h:K st'):qK X ⟨some d,.box T x,ty,pos,aft,g⟩ K E st :=
 (qQj rfl rfl hd hq hz (hs ▸ h))
theorem qRV {T:TypeId} {zs:List AV} (hd:d<X.n) (hq:jg X.P T=some zs) (hs:wx X.P T d zs st=st') (h:K st'):qK X ⟨some d,.alloc T,ty,pos,aft,g⟩ K E st :=
 (qKg rfl rfl hd hq (hs ▸ h))
theorem kX {key:Nat→Nm} {es:List Nat}:∀ {v:List AV} {j:Nat},v.all (fun x=>!qn x)=true→qr key es j v=[]
 | [],_,_=>rfl
 | x::l,j,h=>by
  simp only [List.all_cons,Bool.and_eq_true,Bool.not_eq_true'] at h
  simp only [qr,h.1,Bool.false_eq_true,if_false]
  exact kX h.2
theorem qDr {key:Nat→Nm} {es:List Nat}:∀ {v:List AV} {j:Nat},v.all (fun x=>!qn x)=true→zcs key es j v=v
 | [],_,_=>rfl
 | x::l,j,h=>by
  simp only [List.all_cons,Bool.and_eq_true,Bool.not_eq_true'] at h
  simp only [zcs,zc,h.1,Bool.false_eq_true,if_false,qDr h.2]
theorem qOM {T:TypeId} {p x:Operand} {n:Nm} {z i off:Nat} {v0:List AV} {rows:List (List AV)} (hT:(X.P.info? T).isSome=true) (hv0:(ev st x).cells=some v0) (hnil:v0.all (fun x=>!qn x)=true) (hlen:v0.length=tsz X.P T)
  (hp:pl (ev st p)=some (n,i,off)) (hrows:wO st (ev st p)=some (z,rows)) (hi:i<rows.length) (hoff:off+v0.length≤z) (hs:canon (prs (fun j=>.c n i (off+j)) 0 v0) (st.setO n (.row z (qa rows i off v0)))=st') (h:K st') :
  qK X ⟨none,.store T p x,ty,pos,aft,g⟩ K E st:=by
 have e1:qDE X.P T n i off v0 st=st:=by simp only [qDE,kX hnil];rfl
 have e2:qK1 X.P T n i off v0=v0:=by simp only [qK1,qDr hnil]
 refine (qFh (n:=n) (z:=z) (i:=i) (off:=off) (v0:=v0) (v1:=v0) (rows:=rows) rfl rfl hT hv0 hlen hp ?_ ?_ rfl ?_ hi hoff ?_)
 ·rw [e1];exact hp
 ·rw [e1];exact hv0
 ·rw [e1];exact hrows
 ·rw [e1,e2];simp only [qEC,hs];exact h
theorem qRS {T:TypeId} {p x:Operand} {n:Nm} {z i off:Nat} {v0 v1:List AV} {rows:List (List AV)} (hT:(X.P.info? T).isSome=true) (hv0:(ev st x).cells=some v0) (hlen:v0.length=tsz X.P T)
  (hp:pl (ev st p)=some (n,i,off)) (hk:qDE X.P T n i off v0 st=st1) (hp1:pl (ev st1 p)=some (n,i,off)) (hv1:(ev st1 x).cells=some v1) (hsame:v1.map qn=v0.map qn) (hrows:wO st1 (ev st1 p)=some (z,rows)) (hi:i<rows.length) (hoff:off+v1.length≤z)
  (hs:qEC n z i off rows (qK1 X.P T n i off v1) st1=st') (h:K st'):qK X ⟨none,.store T p x,ty,pos,aft,g⟩ K E st:=by
 subst hk
 exact (qFh rfl rfl hT hv0 hlen hp hp1 hv1 hsame hrows hi hoff (hs ▸ h))
theorem qOQ {T F:TypeId} {s x:Operand} {z len:Nat} {n:Nm} {rows0 rows2:List (List AV)} (hd:d<X.n) (hT:uw X.P T=some F) (hz:tsz X.P F=z) (hs:ev st s=.hs n z 0 len) (hn:st.hp n=some (.row z rows0)) (hle:len≤rows0.length)
  (hx:yD st z (ev st x)=some rows2) (hlen:len+rows2.length≤4294967296) (hq:qDQ d z (len+rows2.length) (some n) (rows0.take len++rows2) st=st') (h:K st'):qK X ⟨some d,.call ⟨.builtin .append,#[s,x],#[T,T]⟩,ty,pos,aft,g⟩ K E st :=
 (qD0 rfl rfl hd hT hz hs hn hle hx hlen (hq ▸ h))
theorem qLH {T F:TypeId} {s x:Operand} {z:Nat} {rows2:List (List AV)} (hd:d<X.n) (hT:uw X.P T=some F) (hz:tsz X.P F=z) (hs:ev st s=.sc (.slice none 0 0)) (hx:yD st z (ev st x)=some rows2) (hlen:rows2.length≤4294967296)
  (hq:qDQ d z rows2.length none rows2 st=st') (h:K st'):qK X ⟨some d,.call ⟨.builtin .append,#[s,x],#[T,T]⟩,ty,pos,aft,g⟩ K E st :=
 (qHL rfl rfl hd hT hz hs hx hlen (hq ▸ h))
theorem qUY {T F:TypeId} {x y:Operand} {ln z:Nat} {k k':IntKind} {zv:List AV} (hd:d<X.n) (hx:ev st x=.sc (.int k ln)) (hy:ev st y=.sc (.int k' ln)) (hE:uw X.P T=some F) (hz:tsz X.P F=z) (hzv:jg X.P F=some zv) (hl:ln≤4294967296)
  (hq:qUZ d z ln zv st=st') (h:K st'):qK X ⟨some d,.makeSlice T x y,ty,pos,aft,g⟩ K E st :=
 (qNm rfl rfl hd hx hy hE hz hzv hl (hq ▸ h))
theorem qRU {T F:TypeId} {len z:Nat} {parts:Array (Nat×Operand)} {rows:List (List AV)} (hd:d<X.n) (hE:uw X.P T=some F) (hz:tsz X.P F=z) (hrows:kN st parts.toList=some rows) (c1:parts.toList.map (·.1)=List.range len) (c2:len * z≤16777216)
  (c3:rows.all (fun r=>r.length==z)=true) (hs:qOu X.P F d z rows st=st') (h:K st'):qK X ⟨some d,.buildSlice T len parts,ty,pos,aft,g⟩ K E st :=
 (qKf rfl rfl hd hE hz hrows c1 c2 c3 (hs ▸ h))
end
theorem a_q {i d:Nat} {r:Sch} {op:Op} {ty:TypeId} {pos:String} {aft:Array Edge} {z:AV} (ho:l[i]?=some ⟨some d,op,ty,pos,aft,none⟩) (hd:d<X.n) (hz:qev X.P st ⟨some d,op,ty,pos,aft,none⟩=some z) (h:yW X l ds K r (st.put (some d) z)):yW X l ds K (.q i r) st:=by
 unfold yW
 rw [ho]
 exact .inl ⟨rfl,d,z,rfl,hd,hz,h⟩
theorem qYf {i d j e:Nat} {want:Bool} {r:Sch} {op:Op} {ty:TypeId} {pos:String} {aft:Array Edge} {z:AV} (ho:l[i]?=some ⟨some d,op,ty,pos,aft,some (j,want)⟩) (hj:ds[j]?=some (some e)) (ht:st.tm e=.sc (.bool want)) (hd:d<X.n) (hz:qev X.P st ⟨some d,op,ty,pos,aft,some (j,want)⟩=some z)
  (h:yW X l ds K r (st.put (some d) z)):yW X l ds K (.q i r) st:=by
 unfold yW
 rw [ho]
 exact .inr (.inl ⟨j,want,e,want,rfl,hj,ht,fun _=>⟨d,z,rfl,hd,hz,h⟩,fun e=>by cases want <;> cases e⟩)
theorem qYg {i d j e:Nat} {want:Bool} {r:Sch} {op:Op} {ty:TypeId} {pos:String} {aft:Array Edge} (ho:l[i]?=some ⟨some d,op,ty,pos,aft,some (j,want)⟩) (hj:ds[j]?=some (some e)) (ht:st.tm e=.sc (.bool (!want))) (hd:d<X.n)
  (h:yW X l ds K r (st.put (some d) (.sc undef))):yW X l ds K (.q i r) st:=by
 unfold yW
 rw [ho]
 exact .inr (.inl ⟨j,want,e,!want,rfl,hj,ht,(fun e=>by cases want <;> cases e),(fun _=>⟨fun _ e=>by obtain rfl:=sI e;exact hd,h⟩)⟩)
theorem qYe {i d j e:Nat} {want:Bool} {r:Sch} {op:Op} {ty:TypeId} {pos:String} {aft:Array Edge} (ho:l[i]?=some ⟨some d,op,ty,pos,aft,some (j,want)⟩) (hj:ds[j]?=some (some e)) (ht:st.tm e=.sc undef) (hd:d<X.n)
  (h:yW X l ds K r (st.put (some d) (.sc undef))):yW X l ds K (.q i r) st:=by
 unfold yW
 rw [ho]
 exact .inr (.inr ⟨j,want,e,rfl,hj,ht,fun _ e=>by obtain rfl:=sI e;exact hd,h⟩)
theorem qYh {sch:Sch} (e:Nat) {t:Bool} (ht:st.tm e=.sc (.bool t)) (h1:t=true→yW X l ds K sch (st.put (some e) (.sc (.bool true)))) (h2:t=false→yW X l ds K sch (st.put (some e) (.sc (.bool false)))):yW X l ds K sch st:=by
 cases t with
 | true=>have:=h1 rfl;rwa [vV ht] at this
 | false=>have:=h2 rfl;rwa [vV ht] at this
theorem a_l {i:Nat} {ps:List Nat} {r:Sch} {o:Oper} (ho:l[i]?=some o) (h:wT X ds (fun s=>kI X l ds ps s∧yW X l ds K r s) (fun _ _=>False) [o] st):yW X l ds K (.l i ps r) st:=by
 unfold yW
 rw [ho]
 exact h
theorem qPE {i j:Nat} {ps qs:List Nat} {r s:Sch} (h1:yW X l ds K (.l i ps r) st) (h2:yW X l ds K (.l j qs s) st):yW X l ds K (.l2 i ps r j qs s) st:=⟨h1,h2⟩
theorem qPD {i j k:Nat} {ps qs us:List Nat} {r s t:Sch} (h1:yW X l ds K (.l i ps r) st) (h2:yW X l ds K (.l j qs s) st) (h3:yW X l ds K (.l k us t) st):yW X l ds K (.l3 i ps r j qs s k us t) st:=⟨h1,h2,h3⟩
theorem kJ:kI X l ds [] st:=trivial
theorem qQd {q:Nat} {ps:List Nat} {o:Oper} (ho:l[q]?=some o) (h1:qFe X ds o st) (h2:kI X l ds ps st):kI X l ds (q::ps) st:=by
 unfold kI
 rw [ho]
 exact⟨h1,h2⟩
theorem z7 {dst:Option Nat} {f:FuncId} {args:Array Operand} {Ts:Array TypeId} {ty:TypeId} {pos:String} {aft:Array Edge} {g:Option (Nat×Bool)} (f':FuncId) (_hf:f=f') (h:qK X ⟨dst,.call ⟨.value (.func f),args,Ts⟩,ty,pos,aft,g⟩ K E st) :
  qK X ⟨dst,.call ⟨.value (.func f),args,Ts⟩,ty,pos,aft,g⟩ K E st:=h
theorem vR {dst:Option Nat} {op:Op} {ty:TypeId} {pos:String} {aft:Array Edge} {j:Nat} {want:Bool} (h:wT X ds K E (⟨dst,op,ty,pos,aft,some (j,want)⟩::l) st):wT X ds K E (⟨dst,op,ty,pos,aft,some (j,want)⟩::l) st:=h
theorem qDo {i:Nat} {r:Sch} (h:yW X l ds K (.q i r) st):yW X l ds K (.q i r) st:=h
theorem qK.weak {o:Oper} {K':St→Prop} (h:qK X o K' E st) (hK:∀ s,K' s→∃ hp':Nm→Option AO,(∀ m ob,hp' m=some ob→s.hp m=some ob)∧K { tm:=s.tm,hp:=hp',n:=s.n,gl:=s.gl }):qK X o K E st:=by
 intro a w Q hR hE
 refine Oper.wp_mono ?_ (h a w Q hR hE)
 rintro a' w' ⟨s,h1,h2⟩
 obtain⟨hp',e1,e2⟩:=hK s h2
 exact⟨_,h1.weaken hp' e1,e2⟩
theorem qAa {d:Nat}:cf d noD noH=kl (.s d):=by
 funext m
 simp [cf,kl,noD]
theorem qCJ {o:Oper} {f:FuncId} {args:Array Operand} {Ts:Array TypeId} {az:List AV} {R:Nm→AV→(Nm→Option AO)→Prop} {d:Nat} (ho:o.op=.call ⟨.value (.func f),args,Ts⟩) (hd:o.dst=some d) (hn:d<X.n) (hF:qV X.P X.gl f az R)
  (hB:BwL st.hp noD (args.toList.map (ev st)) az) (hK:∀ x H',R (.s d) x H'→K ((st.call d noD noH (hcln H')).put (some d) (qMh x))):qK X o K E st:=by
 refine qAb (D:=noD) (H:=noH) (R:=R) hF (qBq hF.1 ho) true hB (fun _ _=>rfl) (fun n h=>by cases h) (fun n h=>absurd rfl h) (fun k i j _=>.inl rfl) (fun e he=>by rw [hd] at he;obtain rfl:=sI he;exact hn) ?_ (fun _ _ h=>h.elim)
 intro x H' hR
 rw [hd] at hR ⊢
 exact hK x H' hR
section
variable {d f:Nat} {ty:TypeId} {pos:String} {aft:Array Edge} {g:Option (Nat×Bool)} {args:Array Operand} {Ts:Array TypeId} {az avs:List AV}
theorem qPW {x:AV} (hd:d<X.n) (ha:args.toList.map (ev st)=avs) (hB:BwL st.hp noD avs az) (hF:qV X.P X.gl f az (fun _ y _=>y=x)) (hc:x.cln=true) (h:K ((st.kill (.s d)).put (some d) x)) :
  qK X ⟨some d,.call ⟨.value (.func f),args,Ts⟩,ty,pos,aft,g⟩ K E st:=by
 subst ha
 refine (qK.weak (qCJ (K:=fun s=>∃ H',s=(st.call d noD noH H').put (some d) x) rfl rfl hd hF hB ?_) ?_)
 ·rintro y H' rfl
  exact⟨hcln H',by simp [qMh,hc]⟩
 ·rintro s ⟨H',rfl⟩
  refine⟨(st.kill (.s d)).hp,fun m ob e=>?_,?_⟩
  ·simp only [St.kill,St.nm,hkl] at e
   simp only [St.put,St.call,St.nm]
   split at e
   ·cases e
   ·rename_i hu
    simp [hu,noD,qAa,e]
  ·simpa only [St.put,St.call,St.nm,St.kill,qAa] using h
theorem qLG {z n:Nat} {rows:List (List AV)} (hd:d<X.n) (ha:args.toList.map (ev st)=avs) (hB:BwL st.hp noD avs az) (hF:qV X.P X.gl f az (fun r y H'=>y=.hs r z 0 n∧H' r=some (.row z rows))) (hc:rows.all (fun r=>r.all AV.cln)=true)
  (h:K (((st.kill (.s d)).setO (.s d) (.row z rows)).put (some d) (.hs (.s d) z 0 n))):qK X ⟨some d,.call ⟨.value (.func f),args,Ts⟩,ty,pos,aft,g⟩ K E st:=by
 subst ha
 refine (qK.weak (qCJ (K:=fun s=>∃ H',s=(st.call d noD noH H').put (some d) (.hs (.s d) z 0 n)∧H' (.s d)=some (.row z rows)) rfl rfl hd hF hB ?_) ?_)
 ·rintro y H' ⟨rfl,e⟩
  exact⟨_,rfl,by simp [hcln,e,AO.cln,hc]⟩
 ·rintro s ⟨H',rfl,e'⟩
  refine⟨((st.kill (.s d)).setO (.s d) (.row z rows)).hp,fun m ob e=>?_,?_⟩
  ·simp only [St.kill,St.nm,hkl,St.setO] at e
   simp only [St.put,St.call,St.nm]
   split at e
   ·rename_i hm
    subst hm
    simp [Nm.under_self,e',e]
   ·split at e
    ·cases e
    ·rename_i hu
     simp [hu,noD,qAa,e]
  ·simpa only [St.put,St.call,St.nm,St.kill,St.setO,qAa] using h
end
end
section
variable {P:Program} {root:Nm} {rs:List ResultVar} {R E:Nm→AV→(Nm→Option AO)→Prop} {st:St} {D:Nm→Bool}
theorem qF {xs:List AV} (sbs:List (Nm×Nm)) (hok:OkS D root sbs) (hx:qFS P st rs=some xs) (h:R root ((qM7 xs).tr (zu D sbs)) (wS D sbs st.hp)):qGa P D root rs R E .ret st:=⟨sbs,xs,hok,hx,h⟩
theorem zj {xs:List AV} (sbs:List (Nm×Nm)) (hok:OkS D root sbs) (hx:qFS P st rs=some xs) (h:R root ((qM7 xs).tr (zu D sbs)) (wS D sbs st.hp)):qGa P D root rs R E .normal st:=⟨sbs,xs,hok,hx,h⟩
theorem zY {t z n:Nat} {rows:List (List AV)} (hx:qFS P st rs=some [.hs (.s t) z 0 n]) (hn:st.hp (.s t)=some (.row z rows)) (hc:∀ f:Nm→Option Nm,rows.map (fun r=>r.map (AV.tr f))=rows) :
  qGa P noD root rs (fun r y H'=>y=.hs r z 0 n∧H' r=some (.row z rows)) E .ret st:=by
 refine qF [(.s t,root)] (.one rfl) hx ⟨?_,?_⟩
 ·simp [qM7,AV.tr,zu,Nm.under,Nm.ren]
 ·have:Nm.ren root (.s t) root=.s t:=by cases root <;> simp [Nm.ren]
  simp [wS,noD,qRd,Nm.under_self,this,zu,Nm.under,Nm.ren,hn,AO.tr,hc]
end
end Go.Hm
end
