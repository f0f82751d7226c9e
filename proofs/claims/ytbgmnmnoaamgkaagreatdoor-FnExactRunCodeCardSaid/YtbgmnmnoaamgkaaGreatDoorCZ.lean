/-
  Proved: the law FnExactRunCode returns true for every program and all integers handed to it, and these read az they did before; tied to the program's text. Conditions: the tables of the package hold what the program's text lays there (the card ties it).
  Own work: the arguments' readings are turned into values, the tables into integers; then the law's walk holds.
-/
import Derived.Test.YtbgmnmnoaamgkaaGreatDoorC36
import Derived.Test.YtbgmnmnoaamgkaaGreatDoorC34
import Derived.Test.YtbgmnmnoaamgkaaGreatDoorC12
import Derived.WalkKit
import Derived.ProofKit
import Derived.LaidMore
import Derived.OpenShut
import Derived.OpenVars
import Derived.ChangeVars
import Derived.Stop.Joined
import Derived.SevenTiedAt
import Derived.Test.YtbgmnmnoaamgkaaGreatDoorRows
import Derived.Test.YtbgmnmnoaamgkaaGreatDoorCards
import Derived.Test.YtbgmnmnoaamgkaaGreatDoorTie
set_option linter.unusedSimpArgs false
set_option linter.unusedVariables false

namespace Go.Proofs.YtbgmnmnoaamgkaaGreatDoor
open Go Go.ChangeShapes Go.WideShapes Go.ChangeAt Go.RowKit Go.Deep Go.Hm

theorem wl:Tryz.prog.underlying 3=some (.int .i64):=by kernel_rfl
theorem ux:Tryz.prog.cellsOf 3=1:=by kernel_rfl
theorem zd:Tryz.prog.underlying 246=some (.array 5 3):=by kernel_rfl
theorem qp:Tryz.prog.globalNamed "loop.example/closurecells/impl.loadCodes"=some 0:=by kernel_rfl
theorem zR:(Tryz.prog.globals[0]?).map (·.type)=some 246:=by kernel_rfl
abbrev jZ:List Int:=[8,5,11,5,2]

/-- what is laid -/
def jC:List (String×DataW Unit):=[("loop.example/closurecells/impl.loadCodes",Rows.laid_loop_example_closurecells_impl_loadCodes)]
/-- the tables -/
abbrev yU:List (Nat×List Int):=[(0,jZ)]
theorem uw (os:Os) (args:Array Value):laidMetH Tryz.prog jC ((World.doorLaid Tryz.prog 400 os).forCall (fun _ _=>0) ⟨#[],args,[]⟩).memory :=
 laidMetH_of_parts3 (fuel:=8) (laidMet_of_run' 8 (by kernel_rfl) (by kernel_rfl)) (by kernel_rfl) (by kernel_rfl)
theorem jq {W:World} (h:laidMetH Tryz.prog jC W):∀ t∈yU,0<t.2.length∧∀ i k,t.2[i]?=some k→W.cell? ⟨t.1,i,none⟩=some (.int .i64 k):=by
 rw [MakeChecks.laidMetH_plain _ _ _ (by kernel_rfl)] at h
 obtain⟨ps,⟨g0,t0,cs0,f0,p0,q0,hg0,ht0,hv0,hd0,_,_⟩,_,_⟩:=h
 intro t ht
 simp only [yU,List.mem_cons,List.not_mem_nil,or_false] at ht
 subst ht
 ·obtain rfl:=sI (qp.symm.trans hg0)
  obtain rfl:=sI (zR.symm.trans ht0)
  exact⟨by decide,qBj zd wl ux qp hv0 hd0⟩

set_option maxRecDepth 100000 in
theorem yv (os:Os) (started:os.Started) (H:Type) (enc:TypeId×Value→H) :
  ReturnsInHanded {} Tryz.checked os 8 .any (fun w args=>(Rows.fnExactRunCodeSpec.pre enc Tryz.prog Tryz.f8 [] false w args∧laidMetH Tryz.prog jC w)∧sizedMet enc Tryz.prog Tryz.f8 (OpenSpec.ofChange Rows.fnExactRunCodeSpec) false w args)
   (Rows.fnExactRunCodeSpec.post enc Tryz.prog Tryz.f8 false true false false):=by
 refine returnsInHanded_of_change_and (C:=Tryz.checked) (X:=fun w _=>laidMetH Tryz.prog jC w) (fun _ _ _ hh h=>h.of_heap hh) qEi started (by kernel_rfl) Tryz.func8
  (ChangeSpec.witness_shaped (enc:=enc) (C:=Tryz.checked) (os:=os) (X:=fun w _=>laidMetH Tryz.prog jC w) false (World.doorLaid Tryz.prog 400 os) #[.agg #[.slice none 0 0],.int .i64 0] 8 rfl (World.shaped_of_RefB (by kernel_rfl) (by kernel_rfl)) (by kernel_rfl) (by kernel_rfl) (by kernel_rfl) (uw os _)) ?_
 intro W base args ds gs before hval0 hW _ hsz0 hL _
 have hval:∀ (j:Nat) t v,Tryz.f8.params[j]?=some t→args[j]?=some v→Value.okWide Tryz.prog W .any base t v:=hval0
 have hsz:(DataW.weightsEach Tryz.prog (Tryz.f8.params.toList++Rows.fnExactRunCodeSpec.plain.varTypes Tryz.prog) (ds++gs)).all (·≤reachBytes)=true:=hsz0
 have hW':=hW
 obtain⟨p,q,hA0,hV,rfl,hfz,hnd⟩:=hW
 have hA:DataW.TrodAll enc Tryz.prog W 0 (fun _=>true) true Tryz.f8.params.toList args.toList ds p:=hA0
 rw [show Tryz.f8.params=#[24,3] from rfl] at hA hval hsz
 obtain⟨v0,v1,d0,d1,p0,p1,rfl,rfl,rfl,h0,h1⟩:=trodAll_two hA
 obtain⟨i1,rfl,rfl,rfl,w1⟩:=open_int qAZ (hval 1 3 v1 rfl rfl) h1
 have hw:∀ m∈d0.weights Tryz.prog 24,m≤reachBytes:=fun m hm=>of_decide_eq_true (List.all_eq_true.1 hsz m (DataW.weights_mem_each (j:=0) (t:=24) rfl rfl m hm))
 obtain⟨P,hP,hr⟩:=wB (hval 0 24 v0 rfl rfl) h0 hw
 obtain⟨_,_,_,_,dv,_,rfl,_⟩:=trodVars_one hV
 clear hA0 hval0 hsz0
 refine (qW.rawG (qBF (glT yU) (by rfl) P i1 hP) (W:=W) (g:=g0 W) (args:=#[v0,.int .i64 i1]) (fun b hb=>hb) (qCo (jq hL)) rfl ?_).mono fun e W' he=>?_
 ·intro j v a hv ha
  match j,hv,ha with
  | 0,hv,ha=>simp at hv ha;subst hv;subst ha;exact hr
  | 1,hv,ha=>simp at hv ha;subst hv;subst ha;exact .sc _
  | j+2,hv,ha=>simp at hv
 ·obtain⟨rfl,hb⟩:=he
  have hlt:∀ y∈p0,y.block<W.heap.size:=fun y hy=>hW'.lt y (by simp [hy])
  refine⟨_,rfl,[d0,.lit (.int .i64 i1)],[dv],p0++q,[],p0++[],_,?_,trodAll_cons_mk (shut_bool qBk _) trodAll_mk0,?_,hb.trodVars uI (by kernel_rfl) hV,hb.frame _,fun h=>by cases h⟩
  ·simpa using hW'
  ·exact trodAll_cons_mk (hb.trod uI (by kernel_rfl) (of_decide_eq_true (by kernel_rfl)) h0 hlt) (trodAll_cons_mk (shut_int qAZ w1) trodAll_mk0)
theorem qCg:Rows.fnExactRunCodeRow.wf (OpenSpec.ofChange Rows.fnExactRunCodeSpec)=true:=by kernel_rfl
theorem qCf:Tryz.f8.params.all (Tryz.prog.readableRec ·)=true:=by kernel_rfl
theorem qCe:namedTie Tryz.prog Rows.fnExactRunCodeRow.named Rows.fnExactRunCodeSpec.vars=true:=by kernel_rfl
theorem qCd:(Rows.fnExactRunCodeRow.inPlace==Tryz.prog.inPlace 8)=true:=by kernel_rfl
theorem qCc:(Rows.fnExactRunCodeRow.unfollowed==Tryz.prog.unfollowed 8)=true:=by kernel_rfl
theorem qCb:(Rows.fnExactRunCodeRow.recurses==Tryz.prog.recurses 8)=true:=by kernel_rfl
theorem qCa:(Rows.fnExactRunCodeRow.named==Tryz.prog.varsNamed 8)=true:=by kernel_rfl
theorem yw:joinedFacts Tryz.prog 8 Tryz.f8 Rows.fnExactRunCodeSpec Rows.fnExactRunCodeRow=true :=
 qA0 qAU qCg qCf qCe rfl rfl qCd qCc qCb qCa (by kernel_rfl) (by kernel_rfl) (by kernel_rfl) (by kernel_rfl) (by kernel_rfl) (by kernel_rfl) (by kernel_rfl) (by kernel_rfl) (by kernel_rfl) rfl rfl rfl rfl (by kernel_rfl) (by kernel_rfl) (by kernel_rfl) (by kernel_rfl)

theorem uv:Rows.fnExactRunCodeRow.holds Tryz.pinned (OpenSpec.ofChange Rows.fnExactRunCodeSpec) :=
 OpenClaim.holds_of_wide 8 Tryz.f8 rfl rfl rfl rfl rfl rfl rfl ⟨rfl,rfl,rfl,rfl,rfl⟩ rfl rfl rfl rfl rfl (by kernel_rfl) Tryz.func8 yw
  (of_decide_eq_true (by kernel_rfl)) (by unfold Func.isWrapper;first|(rw [if_pos (by decide +kernel)];kernel_rfl)|(rw [if_neg (by decide +kernel)];exact⟨rfl,rfl⟩))
  (fun os started H enc _=>yv os started H enc)

theorem fnExactRunCode_holds:Rows.FnExactRunCodeCardSaid :=
 Claim7.holds_tied_plain_at .later [] [.data] true Rows.fnExactRunCodeCard.stood.harness true
  uv (fun _ h=>by cases h) (by kernel_rfl) (fun _ h=>by cases h) fnExactRunCode_row_tie rfl ⟨rfl,rfl⟩ (by kernel_rfl) rfl
  (fun f fn hf hfn=>by
    obtain rfl:f=8:=sI ((show Tryz.prog.funcNamed "loop.example/closurecells/laws.FnExactRunCode"=some 8 by kernel_rfl).symm.trans hf) |>.symm
    obtain rfl:fn=Tryz.f8:=(sI (Tryz.func8.symm.trans hfn)).symm
    exact⟨by kernel_rfl,fun j t ht=>by
     rw [show Tryz.f8.params=#[24,3] from rfl] at ht
     have hm:t∈[24,3]:=by simpa using Array.mem_of_getElem? ht
     have hall:([24,3].all fun u=>!Tryz.prog.wantsStandIn u)=true:=by kernel_rfl
     exact (show Tryz.prog.wantsStandIn t=false by simpa using List.all_eq_true.1 hall t hm)⟩)
  (by kernel_rfl)

#print axioms fnExactRunCode_holds
end Go.Proofs.YtbgmnmnoaamgkaaGreatDoor
