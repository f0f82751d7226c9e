/-
  Proved: the law FnViewsByCode returns true for every list of bytes handed to it, and these read az they did before; tied to the program's text. Conditions: the tables of the package hold what the program's text lays there (the card ties it).
  Own work: the arguments' readings are turned into values, the tables into integers; then the law's walk holds.
-/
import Derived.Test.YtdnebaieamppbaaGreatDoorF49
import Derived.ProofKit
import Derived.LaidMore
import Derived.OpenVars
import Derived.SevenTiedAt
import Derived.Test.YtdnebaieamppbaaGreatDoorRows
import Derived.Test.YtdnebaieamppbaaGreatDoorCards
import Derived.Test.YtdnebaieamppbaaGreatDoorTie
set_option linter.unusedSimpArgs false
set_option linter.unusedVariables false

namespace Go.Proofs.YtdnebaieamppbaaGreatDoor
open Go Go.ChangeShapes Go.WideShapes Go.ChangeAt Go.RowKit Go.Deep Go.Hm

theorem Ew:ownKnob Tryz.prog.godebug=none:=qM
theorem lA:laidOutB Tryz.prog=true:=qM
theorem AU:Tryz.prog.underlying 4=some .bool:=qM
theorem Uw:Tryz.prog.underlying 5=some (.int .u8):=qM
theorem Ux:Tryz.prog.cellsOf 5=1:=qM
theorem Uz:Tryz.prog.bytesOf 5=1:=qM
theorem MI:Tryz.prog.underlying 22=some (.slice 5):=qM
theorem Ey:Tryz.prog.underlying 3=some (.int .i64):=qM
theorem AT:Tryz.prog.cellsOf 3=1:=qM
theorem ka:Tryz.prog.underlying 300=some (.array 5 3):=qM
theorem jx:Tryz.prog.globalNamed "loop.example/closurecells/impl.loadCodes"=some 0:=qM
theorem u6:(Tryz.prog.globals[0]?).map (·.type)=some 300:=qM
abbrev cP:List Int:=[8,5,11,5,2]

/-- what is laid -/
def aF:List (String×DataW Unit):=[("loop.example/closurecells/impl.loadCodes",Rows.laid_loop_example_closurecells_impl_loadCodes)]
/-- the tables -/
abbrev gn:List (Nat×List Int):=[(0,cP)]
theorem AS (os:Os) (args:Array Value):laidMetH Tryz.prog aF ((World.doorLaid Tryz.prog 400 os).forCall (λ_ _=>0) ⟨#[],args,[]⟩).memory :=
 laidMetH_of_parts3 (fuel:=8) (laidMet_of_run' 8 qM qM) qM qM
theorem da {W:World} (h:laidMetH Tryz.prog aF W):∀ t∈gn,0<t.2.length/\∀ i k,t.2[i]?=some k->W.cell? ⟨t.1,i,none⟩=some (.int .i64 k):=by
 rw [MakeChecks.laidMetH_plain _ _ _ qM] at h;obtain⟨ps,⟨g0,t0,cs0,f0,p0,q0,hg0,ht0,hv0,hd0,_,_⟩,_,_⟩:=h;intro t ht;simp only [gn,wH,Jg,or_false] at ht;subst ht
 .obtain rfl:=sI (jx.symm.trans hg0);obtain rfl:=sI (u6.symm.trans ht0);exact⟨qL,HC ka Ey AT jx hv0 hd0⟩

set_option maxRecDepth 100000 in
theorem mA (os:Os) (started:os.Started) (H:Type) (enc:TypeId×Value->H) :
  ReturnsInHanded {} Tryz.checked os 6 .any (λw args=>(Rows.fnViewsByCodeSpec.pre enc Tryz.prog Tryz.f6 [] false w args/\laidMetH Tryz.prog aF w)/\sizedMet enc Tryz.prog Tryz.f6 (OpenSpec.ofChange Rows.fnViewsByCodeSpec) false w args)
   (Rows.fnViewsByCodeSpec.post enc Tryz.prog Tryz.f6 false true false false):=by
 refine returnsInHanded_of_change_and (C:=Tryz.checked) (X:=λw _=>laidMetH Tryz.prog aF w) (λ_ _ _ hh h=>h.of_heap hh) Ew started qM Tryz.func6
  (ChangeSpec.witness_shaped (enc:=enc) (C:=Tryz.checked) (os:=os) (X:=λw _=>laidMetH Tryz.prog aF w) false (World.doorLaid Tryz.prog 400 os) #[.slice none 0 0] 8 rfl (World.shaped_of_RefB qM qM) qM qM qM (AS os _)) ?_
 intro W base args ds gs before hval0 hW _ hsz0 hL _;have hval:∀ (j:Nat) t v,Tryz.f6.params[j]?=some t->args[j]?=some v->Value.okWide Tryz.prog W .any base t v:=hval0;have hsz:(DataW.weightsEach Tryz.prog (Tryz.f6.params.toList++Rows.fnViewsByCodeSpec.plain.varTypes Tryz.prog) (ds++gs)).all (·<=reachBytes)=true:=hsz0;have hW':=hW;obtain⟨p,q,hA0,hV,rfl,hfz,hnd⟩:=hW;have hA:DataW.TrodAll enc Tryz.prog W 0 (λ_=>true) true Tryz.f6.params.toList args.toList ds p:=hA0;rw [show Tryz.f6.params=#[22] from rfl] at hA hval hsz;obtain⟨v0,d0,rfl,rfl,h0⟩:=trodAll_one hA;have hw:∀ m∈d0.weights Tryz.prog 22,m<=reachBytes:=λm hm=>of_decide_eq_true (uB.1 hsz m (DataW.weights_mem_each (j:=0) (t:=22) rfl rfl m hm));obtain⟨x,hx,hr⟩:=Ou MI Uw Ux (by rw [Uz];decide) (hval 0 22 v0 rfl rfl) h0 hw;obtain⟨_,_,_,_,dv,_,rfl,_⟩:=trodVars_one hV;clear hA0 hval0 hsz0;refine (qX.qCm (nW (glT gn) dD x hx.2 hx.1) (W:=W) (g:=g0 W) (args:=#[v0]) (λb hb=>hb) (FA (da hL)) rfl ?_).mono λe W' he=>?_
 .intro j v a hv ha
  match j,hv,ha with
  | 0,hv,ha=>simp at hv ha;subst hv;subst ha;exact hr
  | j+1,hv,ha=>simp at hv
 .obtain⟨rfl,hb⟩:=he;have hlt:∀ y∈p,y.block<W.heap.size:=λy hy=>hW'.lt y (by simp [hy]);refine⟨_,rfl,[d0],[dv],_,[],p++[],_,hW',trodAll_cons_mk (shut_bool AU _) trodAll_mk0,?_,hb.trodVars lA qM hV,hb.frame _,λh=>kT⟩;exact⟨p,[],hb.trod lA qM (of_decide_eq_true qM) h0 hlt,rfl,rfl⟩
theorem MH:Rows.fnViewsByCodeRow.wf (OpenSpec.ofChange Rows.fnViewsByCodeSpec)=true:=qM
theorem MG:Tryz.f6.params.all (Tryz.prog.readableRec ·)=true:=qM
theorem MF:namedTie Tryz.prog Rows.fnViewsByCodeRow.named Rows.fnViewsByCodeSpec.vars=true:=qM
theorem ME:(Rows.fnViewsByCodeRow.inPlace==Tryz.prog.inPlace 6)=true:=qM
theorem MD:(Rows.fnViewsByCodeRow.unfollowed==Tryz.prog.unfollowed 6)=true:=qM
theorem MC:(Rows.fnViewsByCodeRow.recurses==Tryz.prog.recurses 6)=true:=qM
theorem MB:(Rows.fnViewsByCodeRow.named==Tryz.prog.varsNamed 6)=true:=qM
theorem mB:joinedFacts Tryz.prog 6 Tryz.f6 Rows.fnViewsByCodeSpec Rows.fnViewsByCodeRow=true :=
 DF C5 MH MG MF rfl rfl ME MD MC MB qM qM qM qM qM qM qM qM qM rfl rfl rfl rfl qM qM qM qM

theorem AR:Rows.fnViewsByCodeRow.holds Tryz.pinned (OpenSpec.ofChange Rows.fnViewsByCodeSpec) :=
 OpenClaim.holds_of_wide 6 Tryz.f6 rfl rfl rfl rfl rfl rfl rfl ⟨rfl,rfl,rfl,rfl,rfl⟩ rfl rfl rfl rfl rfl qM Tryz.func6 mB
  (of_decide_eq_true qM) NH
  (λos started H enc _=>mA os started H enc)

theorem fnViewsByCode_holds:Rows.FnViewsByCodeCardSaid :=
 Claim7.holds_tied_plain_at .later [] [.data] true Rows.fnViewsByCodeCard.stood.harness true
  AR (λ_ h=>kT) qM (λ_ h=>kT) fnViewsByCode_row_tie rfl ⟨rfl,rfl⟩ qM rfl
  (λf fn hf hfn=>by
    obtain rfl:f=6:=sI ((show Tryz.prog.funcNamed "loop.example/closurecells/laws.FnViewsByCode"=some 6 by kernel_rfl).symm.trans hf) |>.symm
    obtain rfl:fn=Tryz.f6:=(sI (Tryz.func6.symm.trans hfn)).symm
    exact⟨qM,λj t ht=>by
     rw [show Tryz.f6.params=#[22] from rfl] at ht;have hm:t∈[22]:=by simpa using Array.mem_of_getElem? ht
     have hall:([22].all λu=>!Tryz.prog.wantsStandIn u)=true:=qM;exact (show Tryz.prog.wantsStandIn t=false by simpa using uB.1 hall t hm)⟩)
  qM

#print axioms fnViewsByCode_holds
end Go.Proofs.YtdnebaieamppbaaGreatDoor
