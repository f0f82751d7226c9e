/-
  Proved: the law FnCellsMade returns true for every list of bytes handed to it, and these read az they did before; tied to the program's text. Conditions: the tables of the package hold what the program's text lays there (the card ties it).
  Own work: the arguments' readings are turned into values, the tables into integers; then the law's walk holds.
-/
import Derived.Test.YtbgmnmnoaamgkaaGreatDoorD39
import Derived.Test.YtbgmnmnoaamgkaaGreatDoorD10
import Derived.Test.YtbgmnmnoaamgkaaGreatDoorD12
import Derived.Test.YtbgmnmnoaamgkaaGreatDoorD36
import Derived.WalkKit
import Derived.ProofKit
import Derived.LaidMore
import Derived.OpenShut
import Derived.OpenVars
import Derived.ChangeVars
import Derived.Stop.Joined
import Derived.SevenTiedAt
import Derived.Test.YtbgmnmnoaamgkaaGreatDoorRows
import Derived.Test.YtbgmnmnoaamgkaaGreatDoorCards
import Derived.Test.YtbgmnmnoaamgkaaGreatDoorTie
set_option linter.unusedSimpArgs false
set_option linter.unusedVariables false

namespace Go.Proofs.YtbgmnmnoaamgkaaGreatDoor
open Go Go.ChangeShapes Go.WideShapes Go.ChangeAt Go.RowKit Go.Deep Go.Hm

theorem qH5:ownKnob Tryz.prog.godebug=none:=by kernel_rfl
theorem qA3:laidOutB Tryz.prog=true:=by kernel_rfl
theorem qEo:Tryz.prog.underlying 4=some .bool:=by kernel_rfl
theorem qL2:Tryz.prog.underlying 5=some (.int .u8):=by kernel_rfl
theorem qLa:Tryz.prog.cellsOf 5=1:=by kernel_rfl
theorem qLb:Tryz.prog.bytesOf 5=1:=by kernel_rfl
theorem qCh:Tryz.prog.underlying 35=some (.slice 5):=by kernel_rfl
theorem qH6:Tryz.prog.underlying 3=some (.int .i64):=by kernel_rfl
theorem qEn:Tryz.prog.cellsOf 3=1:=by kernel_rfl
theorem yt:Tryz.prog.underlying 246=some (.array 5 3):=by kernel_rfl
theorem jH:Tryz.prog.globalNamed "loop.example/closurecells/impl.loadCodes"=some 0:=by kernel_rfl
theorem yS:(Tryz.prog.globals[0]?).map (·.type)=some 246:=by kernel_rfl
abbrev ue:List Int:=[8,5,11,5,2]

/-- what is laid -/
def vi:List (String×DataW Unit):=[("loop.example/closurecells/impl.loadCodes",Rows.laid_loop_example_closurecells_impl_loadCodes)]
/-- the tables -/
abbrev wj:List (Nat×List Int):=[(0,ue)]
theorem qEm (os:Os) (args:Array Value):laidMetH Tryz.prog vi ((World.doorLaid Tryz.prog 400 os).forCall (fun _ _=>0) ⟨#[],args,[]⟩).memory :=
 laidMetH_of_parts3 (fuel:=8) (laidMet_of_run' 8 (by kernel_rfl) (by kernel_rfl)) (by kernel_rfl) (by kernel_rfl)
theorem kH {W:World} (h:laidMetH Tryz.prog vi W):∀ t∈wj,0<t.2.length∧∀ i k,t.2[i]?=some k→W.cell? ⟨t.1,i,none⟩=some (.int .i64 k):=by
 rw [MakeChecks.laidMetH_plain _ _ _ (by kernel_rfl)] at h
 obtain⟨ps,⟨g0,t0,cs0,f0,p0,q0,hg0,ht0,hv0,hd0,_,_⟩,_,_⟩:=h
 intro t ht
 simp only [wj,List.mem_cons,List.not_mem_nil,or_false] at ht
 subst ht
 ·obtain rfl:=sI (jH.symm.trans hg0)
  obtain rfl:=sI (yS.symm.trans ht0)
  exact⟨by decide,qIM yt qH6 qEn jH hv0 hd0⟩

set_option maxRecDepth 100000 in
theorem qBB (os:Os) (started:os.Started) (H:Type) (enc:TypeId×Value→H) :
  ReturnsInHanded {} Tryz.checked os 6 .any (fun w args=>(Rows.fnCellsMadeSpec.pre enc Tryz.prog Tryz.f6 [] false w args∧laidMetH Tryz.prog vi w)∧sizedMet enc Tryz.prog Tryz.f6 (OpenSpec.ofChange Rows.fnCellsMadeSpec) false w args)
   (Rows.fnCellsMadeSpec.post enc Tryz.prog Tryz.f6 false true false false):=by
 refine returnsInHanded_of_change_and (C:=Tryz.checked) (X:=fun w _=>laidMetH Tryz.prog vi w) (fun _ _ _ hh h=>h.of_heap hh) qH5 started (by kernel_rfl) Tryz.func6
  (ChangeSpec.witness_shaped (enc:=enc) (C:=Tryz.checked) (os:=os) (X:=fun w _=>laidMetH Tryz.prog vi w) false (World.doorLaid Tryz.prog 400 os) #[.slice none 0 0] 8 rfl (World.shaped_of_RefB (by kernel_rfl) (by kernel_rfl)) (by kernel_rfl) (by kernel_rfl) (by kernel_rfl) (qEm os _)) ?_
 intro W base args ds gs before hval0 hW _ hsz0 hL _
 have hval:∀ (j:Nat) t v,Tryz.f6.params[j]?=some t→args[j]?=some v→Value.okWide Tryz.prog W .any base t v:=hval0
 have hsz:(DataW.weightsEach Tryz.prog (Tryz.f6.params.toList++Rows.fnCellsMadeSpec.plain.varTypes Tryz.prog) (ds++gs)).all (·≤reachBytes)=true:=hsz0
 have hW':=hW
 obtain⟨p,q,hA0,hV,rfl,hfz,hnd⟩:=hW
 have hA:DataW.TrodAll enc Tryz.prog W 0 (fun _=>true) true Tryz.f6.params.toList args.toList ds p:=hA0
 rw [show Tryz.f6.params=#[35] from rfl] at hA hval hsz
 obtain⟨v0,d0,rfl,rfl,h0⟩:=trodAll_one hA
 have hw:∀ m∈d0.weights Tryz.prog 35,m≤reachBytes:=fun m hm=>of_decide_eq_true (List.all_eq_true.1 hsz m (DataW.weights_mem_each (j:=0) (t:=35) rfl rfl m hm))
 obtain⟨x,hx,hr⟩:=qIN qCh qL2 qLa (by rw [qLb];decide) (hval 0 35 v0 rfl rfl) h0 hw
 obtain⟨_,_,_,_,dv,_,rfl,_⟩:=trodVars_one hV
 clear hA0 hval0 hsz0
 refine (qV.rawG (qDS (glT wj) (by rfl) x hx.2 hx.1) (W:=W) (g:=g0 W) (args:=#[v0]) (fun b hb=>hb) (qH8 (kH hL)) rfl ?_).mono fun e W' he=>?_
 ·intro j v a hv ha
  match j,hv,ha with
  | 0,hv,ha=>simp at hv ha;subst hv;subst ha;exact hr
  | j+1,hv,ha=>simp at hv
 ·obtain⟨rfl,hb⟩:=he
  have hlt:∀ y∈p,y.block<W.heap.size:=fun y hy=>hW'.lt y (by simp [hy])
  refine⟨_,rfl,[d0],[dv],_,[],p++[],_,hW',trodAll_cons_mk (shut_bool qEo _) trodAll_mk0,?_,hb.trodVars qA3 (by kernel_rfl) hV,hb.frame _,fun h=>by cases h⟩
  exact⟨p,[],hb.trod qA3 (by kernel_rfl) (of_decide_eq_true (by kernel_rfl)) h0 hlt,rfl,rfl⟩
theorem qL9:Rows.fnCellsMadeRow.wf (OpenSpec.ofChange Rows.fnCellsMadeSpec)=true:=by kernel_rfl
theorem qL8:Tryz.f6.params.all (Tryz.prog.readableRec ·)=true:=by kernel_rfl
theorem qL7:namedTie Tryz.prog Rows.fnCellsMadeRow.named Rows.fnCellsMadeSpec.vars=true:=by kernel_rfl
theorem qL6:(Rows.fnCellsMadeRow.inPlace==Tryz.prog.inPlace 6)=true:=by kernel_rfl
theorem qL5:(Rows.fnCellsMadeRow.unfollowed==Tryz.prog.unfollowed 6)=true:=by kernel_rfl
theorem qL4:(Rows.fnCellsMadeRow.recurses==Tryz.prog.recurses 6)=true:=by kernel_rfl
theorem qL3:(Rows.fnCellsMadeRow.named==Tryz.prog.varsNamed 6)=true:=by kernel_rfl
theorem qBC:joinedFacts Tryz.prog 6 Tryz.f6 Rows.fnCellsMadeSpec Rows.fnCellsMadeRow=true :=
 qGY qGE qL9 qL8 qL7 rfl rfl qL6 qL5 qL4 qL3 (by kernel_rfl) (by kernel_rfl) (by kernel_rfl) (by kernel_rfl) (by kernel_rfl) (by kernel_rfl) (by kernel_rfl) (by kernel_rfl) (by kernel_rfl) rfl rfl rfl rfl (by kernel_rfl) (by kernel_rfl) (by kernel_rfl) (by kernel_rfl)

theorem qEl:Rows.fnCellsMadeRow.holds Tryz.pinned (OpenSpec.ofChange Rows.fnCellsMadeSpec) :=
 OpenClaim.holds_of_wide 6 Tryz.f6 rfl rfl rfl rfl rfl rfl rfl ⟨rfl,rfl,rfl,rfl,rfl⟩ rfl rfl rfl rfl rfl (by kernel_rfl) Tryz.func6 qBC
  (of_decide_eq_true (by kernel_rfl)) (by unfold Func.isWrapper;first|(rw [if_pos (by decide +kernel)];kernel_rfl)|(rw [if_neg (by decide +kernel)];exact⟨rfl,rfl⟩))
  (fun os started H enc _=>qBB os started H enc)

theorem fnCellsMade_holds:Rows.FnCellsMadeCardSaid :=
 Claim7.holds_tied_plain_at .later [] [.data] true Rows.fnCellsMadeCard.stood.harness true
  qEl (fun _ h=>by cases h) (by kernel_rfl) (fun _ h=>by cases h) fnCellsMade_row_tie rfl ⟨rfl,rfl⟩ (by kernel_rfl) rfl
  (fun f fn hf hfn=>by
    obtain rfl:f=6:=sI ((show Tryz.prog.funcNamed "loop.example/closurecells/laws.FnCellsMade"=some 6 by kernel_rfl).symm.trans hf) |>.symm
    obtain rfl:fn=Tryz.f6:=(sI (Tryz.func6.symm.trans hfn)).symm
    exact⟨by kernel_rfl,fun j t ht=>by
     rw [show Tryz.f6.params=#[35] from rfl] at ht
     have hm:t∈[35]:=by simpa using Array.mem_of_getElem? ht
     have hall:([35].all fun u=>!Tryz.prog.wantsStandIn u)=true:=by kernel_rfl
     exact (show Tryz.prog.wantsStandIn t=false by simpa using List.all_eq_true.1 hall t hm)⟩)
  (by kernel_rfl)

#print axioms fnCellsMade_holds
end Go.Proofs.YtbgmnmnoaamgkaaGreatDoor
