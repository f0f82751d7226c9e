/-
  Proved: the law FnExactViewsByCode returns true for every program and all integers handed to it, and these read az they did before; tied to the program's text. Conditions: the tables of the package hold what the program's text lays there (the card ties it).
  Own work: the arguments' readings are turned into values, the tables into integers; then the law's walk holds.
-/
import Derived.Test.YtdnebaieamppbaaGreatDoorF43
import Derived.LaidMore
import Derived.OpenVars
import Derived.SevenTiedAt
import Derived.Test.YtdnebaieamppbaaGreatDoorRows
import Derived.Test.YtdnebaieamppbaaGreatDoorCards
import Derived.Test.YtdnebaieamppbaaGreatDoorTie
set_option linter.unusedSimpArgs false
set_option linter.unusedVariables false

namespace Go.Proofs.YtdnebaieamppbaaGreatDoor
open Go Go.ChangeShapes Go.WideShapes Go.ChangeAt Go.RowKit Go.Deep Go.Hm

theorem Ey:Tryz.prog.underlying 3=some (.int .i64):=qM
theorem AT:Tryz.prog.cellsOf 3=1:=qM
theorem ka:Tryz.prog.underlying 300=some (.array 5 3):=qM
theorem jx:Tryz.prog.globalNamed "loop.example/closurecells/impl.loadCodes"=some 0:=qM
theorem u6:(Tryz.prog.globals[0]?).map (·.type)=some 300:=qM
abbrev cP:List Int:=[8,5,11,5,2]

/-- what is laid -/
def aF:List (String×DataW Unit):=[("loop.example/closurecells/impl.loadCodes",Rows.laid_loop_example_closurecells_impl_loadCodes)]
/-- the tables -/
abbrev gn:List (Nat×List Int):=[(0,cP)]
theorem AS (os:Os) (args:Array Value):laidMetH Tryz.prog aF ((World.doorLaid Tryz.prog 400 os).forCall (λ_ _=>0) ⟨#[],args,[]⟩).memory :=
 laidMetH_of_parts3 (fuel:=8) (laidMet_of_run' 8 qM qM) qM qM
theorem da {W:World} (h:laidMetH Tryz.prog aF W):∀ t∈gn,0<t.2.length/\∀ i k,t.2[i]?=some k->W.cell? ⟨t.1,i,none⟩=some (.int .i64 k):=by
 rw [MakeChecks.laidMetH_plain _ _ _ qM] at h;obtain⟨ps,⟨g0,t0,cs0,f0,p0,q0,hg0,ht0,hv0,hd0,_,_⟩,_,_⟩:=h;intro t ht;simp only [gn,wH,Jg,or_false] at ht;subst ht
 .obtain rfl:=sI (jx.symm.trans hg0);obtain rfl:=sI (u6.symm.trans ht0);exact⟨qL,HC ka Ey AT jx hv0 hd0⟩

set_option maxRecDepth 100000 in
theorem mA (os:Os) (started:os.Started) (H:Type) (enc:TypeId×Value->H) :
  ReturnsInHanded {} Tryz.checked os 5 .any (λw args=>(Rows.fnExactViewsByCodeSpec.pre enc Tryz.prog Tryz.f5 [] false w args/\laidMetH Tryz.prog aF w)/\sizedMet enc Tryz.prog Tryz.f5 (OpenSpec.ofChange Rows.fnExactViewsByCodeSpec) false w args)
   (Rows.fnExactViewsByCodeSpec.post enc Tryz.prog Tryz.f5 false true false false):=by
 refine returnsInHanded_of_change_and (C:=Tryz.checked) (X:=λw _=>laidMetH Tryz.prog aF w) (λ_ _ _ hh h=>h.of_heap hh) Ew started qM Tryz.func5
  (ChangeSpec.witness_shaped (enc:=enc) (C:=Tryz.checked) (os:=os) (X:=λw _=>laidMetH Tryz.prog aF w) false (World.doorLaid Tryz.prog 400 os) #[.agg #[.slice none 0 0],.int .i64 0] 8 rfl (World.shaped_of_RefB qM qM) qM qM qM (AS os _)) ?_
 intro W base args ds gs before hval0 hW _ hsz0 hL _;have hval:∀ (j:Nat) t v,Tryz.f5.params[j]?=some t->args[j]?=some v->Value.okWide Tryz.prog W .any base t v:=hval0;have hsz:(DataW.weightsEach Tryz.prog (Tryz.f5.params.toList++Rows.fnExactViewsByCodeSpec.plain.varTypes Tryz.prog) (ds++gs)).all (·<=reachBytes)=true:=hsz0;have hW':=hW;obtain⟨p,q,hA0,hV,rfl,hfz,hnd⟩:=hW;have hA:DataW.TrodAll enc Tryz.prog W 0 (λ_=>true) true Tryz.f5.params.toList args.toList ds p:=hA0;rw [show Tryz.f5.params=#[39,3] from rfl] at hA hval hsz;obtain⟨v0,v1,d0,d1,p0,p1,rfl,rfl,rfl,h0,h1⟩:=trodAll_two hA;obtain⟨i1,rfl,rfl,rfl,w1⟩:=open_int MA (hval 1 3 v1 rfl rfl) h1;have hw:∀ m∈d0.weights Tryz.prog 39,m<=reachBytes:=λm hm=>of_decide_eq_true (uB.1 hsz m (DataW.weights_mem_each (j:=0) (t:=39) rfl rfl m hm));obtain⟨P,hP,hr⟩:=Io (hval 0 39 v0 rfl rfl) h0 hw;obtain⟨_,_,_,_,dv,_,rfl,_⟩:=trodVars_one hV;clear hA0 hval0 hsz0;refine (qX.qCm (eu (glT gn) dD P i1 hP) (W:=W) (g:=g0 W) (args:=#[v0,.int .i64 i1]) (λb hb=>hb) (FA (da hL)) rfl ?_).mono λe W' he=>?_
 .intro j v a hv ha
  match j,hv,ha with
  | 0,hv,ha=>simp at hv ha;subst hv;subst ha;exact hr
  | 1,hv,ha=>simp at hv ha;subst hv;subst ha;exact .sc _
  | j+2,hv,ha=>simp at hv
 .obtain⟨rfl,hb⟩:=he;have hlt:∀ y∈p0,y.block<W.heap.size:=λy hy=>hW'.lt y (by simp [hy]);refine⟨_,rfl,[d0,.lit (.int .i64 i1)],[dv],p0++q,[],p0++[],_,?_,trodAll_cons_mk (shut_bool AU _) trodAll_mk0,?_,hb.trodVars lA qM hV,hb.frame _,λh=>kT⟩
  .simpa using hW'
  .exact trodAll_cons_mk (hb.trod lA qM (of_decide_eq_true qM) h0 hlt) (trodAll_cons_mk (shut_int MA w1) trodAll_mk0)
theorem MH:Rows.fnExactViewsByCodeRow.wf (OpenSpec.ofChange Rows.fnExactViewsByCodeSpec)=true:=qM
theorem MG:Tryz.f5.params.all (Tryz.prog.readableRec ·)=true:=qM
theorem MF:namedTie Tryz.prog Rows.fnExactViewsByCodeRow.named Rows.fnExactViewsByCodeSpec.vars=true:=qM
theorem ME:(Rows.fnExactViewsByCodeRow.inPlace==Tryz.prog.inPlace 5)=true:=qM
theorem MD:(Rows.fnExactViewsByCodeRow.unfollowed==Tryz.prog.unfollowed 5)=true:=qM
theorem MC:(Rows.fnExactViewsByCodeRow.recurses==Tryz.prog.recurses 5)=true:=qM
theorem MB:(Rows.fnExactViewsByCodeRow.named==Tryz.prog.varsNamed 5)=true:=qM
theorem mB:joinedFacts Tryz.prog 5 Tryz.f5 Rows.fnExactViewsByCodeSpec Rows.fnExactViewsByCodeRow=true :=
 DF C5 MH MG MF rfl rfl ME MD MC MB qM qM qM qM qM qM qM qM qM rfl rfl rfl rfl qM qM qM qM

theorem AR:Rows.fnExactViewsByCodeRow.holds Tryz.pinned (OpenSpec.ofChange Rows.fnExactViewsByCodeSpec) :=
 OpenClaim.holds_of_wide 5 Tryz.f5 rfl rfl rfl rfl rfl rfl rfl ⟨rfl,rfl,rfl,rfl,rfl⟩ rfl rfl rfl rfl rfl qM Tryz.func5 mB
  (of_decide_eq_true qM) NH
  (λos started H enc _=>mA os started H enc)

theorem fnExactViewsByCode_holds:Rows.FnExactViewsByCodeCardSaid :=
 Claim7.holds_tied_plain_at .later [] [.data] true Rows.fnExactViewsByCodeCard.stood.harness true
  AR (λ_ h=>kT) qM (λ_ h=>kT) fnExactViewsByCode_row_tie rfl ⟨rfl,rfl⟩ qM rfl
  (λf fn hf hfn=>by
    obtain rfl:f=5:=sI ((show Tryz.prog.funcNamed "loop.example/closurecells/laws.FnExactViewsByCode"=some 5 by kernel_rfl).symm.trans hf) |>.symm
    obtain rfl:fn=Tryz.f5:=(sI (Tryz.func5.symm.trans hfn)).symm
    exact⟨qM,λj t ht=>by
     rw [show Tryz.f5.params=#[39,3] from rfl] at ht;have hm:t∈[39,3]:=by simpa using Array.mem_of_getElem? ht
     have hall:([39,3].all λu=>!Tryz.prog.wantsStandIn u)=true:=qM;exact (show Tryz.prog.wantsStandIn t=false by simpa using uB.1 hall t hm)⟩)
  qM

#print axioms fnExactViewsByCode_holds
end Go.Proofs.YtdnebaieamppbaaGreatDoor
