/-
  Proved: the law FnDeepestRun returns true for every list of bytes handed to it, and these read az they did before; tied to the program's text. Conditions: the tables of the package hold what the program's text lays there (the card ties it).
  Own work: the arguments' readings are turned into values, the tables into integers; then the law's walk holds.
-/
import Derived.Test.YtdnebaieamppbaaGreatDoorE64
import Derived.Test.YtdnebaieamppbaaGreatDoorE45
import Derived.ProofKit
import Derived.LaidMore
import Derived.OpenVars
import Derived.SevenTiedAt
import Derived.Test.YtdnebaieamppbaaGreatDoorRows
import Derived.Test.YtdnebaieamppbaaGreatDoorCards
import Derived.Test.YtdnebaieamppbaaGreatDoorTie
set_option linter.unusedSimpArgs false
set_option linter.unusedVariables false

namespace Go.Proofs.YtdnebaieamppbaaGreatDoor
open Go Go.ChangeShapes Go.WideShapes Go.ChangeAt Go.RowKit Go.Deep Go.Hm

theorem lH:ownKnob Tryz.prog.godebug=none:=qI
theorem kX:laidOutB Tryz.prog=true:=qI
theorem dw:Tryz.prog.underlying 4=some .bool:=qI
theorem sD:Tryz.prog.underlying 5=some (.int .u8):=qI
theorem sM:Tryz.prog.cellsOf 5=1:=qI
theorem IX:Tryz.prog.bytesOf 5=1:=qI
theorem bO:Tryz.prog.underlying 22=some (.slice 5):=qI
theorem lI:Tryz.prog.underlying 3=some (.int .i64):=qI
theorem du:Tryz.prog.cellsOf 3=1:=qI
theorem jY:Tryz.prog.underlying 300=some (.array 5 3):=qI
theorem zE:Tryz.prog.globalNamed "loop.example/closurecells/impl.loadCodes"=some 0:=qI
theorem jE:(Tryz.prog.globals[0]?).map (·.type)=some 300:=qI
abbrev vR:List Int:=[8,5,11,5,2]

/-- what is laid -/
def yJ:List (String×DataW Unit):=[("loop.example/closurecells/impl.loadCodes",Rows.laid_loop_example_closurecells_impl_loadCodes)]
/-- the tables -/
abbrev uy:List (Nat×List Int):=[(0,vR)]
theorem dt (os:Os) (args:Array Value):laidMetH Tryz.prog yJ ((World.doorLaid Tryz.prog 400 os).forCall (λ_ _=>0) ⟨#[],args,[]⟩).memory :=
 laidMetH_of_parts3 (fuel:=8) (laidMet_of_run' 8 qI qI) qI qI
theorem uF {W:World} (h:laidMetH Tryz.prog yJ W):∀ t∈uy,0<t.2.length/\∀ i k,t.2[i]?=some k->W.cell? ⟨t.1,i,none⟩=some (.int .i64 k):=by
 rw [MakeChecks.laidMetH_plain _ _ _ qI] at h;obtain⟨ps,⟨g0,t0,cs0,f0,p0,q0,hg0,ht0,hv0,hd0,_,_⟩,_,_⟩:=h;intro t ht;simp only [uy,aH,HS,or_false] at ht;subst ht
 .obtain rfl:=sI (zE.symm.trans hg0);obtain rfl:=sI (jE.symm.trans ht0);exact⟨qO,pV jY lI du zE hv0 hd0⟩

set_option maxRecDepth 100000 in
theorem wT (os:Os) (started:os.Started) (H:Type) (enc:TypeId×Value->H) :
  ReturnsInHanded {} Tryz.checked os 7 .any (λw args=>(Rows.fnDeepestRunSpec.pre enc Tryz.prog Tryz.f7 [] false w args/\laidMetH Tryz.prog yJ w)/\sizedMet enc Tryz.prog Tryz.f7 (OpenSpec.ofChange Rows.fnDeepestRunSpec) false w args)
   (Rows.fnDeepestRunSpec.post enc Tryz.prog Tryz.f7 false true false false):=by
 refine returnsInHanded_of_change_and (C:=Tryz.checked) (X:=λw _=>laidMetH Tryz.prog yJ w) (λ_ _ _ hh h=>h.of_heap hh) lH started qI Tryz.func7
  (ChangeSpec.witness_shaped (enc:=enc) (C:=Tryz.checked) (os:=os) (X:=λw _=>laidMetH Tryz.prog yJ w) false (World.doorLaid Tryz.prog 400 os) #[.slice none 0 0] 8 rfl (World.shaped_of_RefB qI qI) qI qI qI (dt os _)) ?_
 intro W base args ds gs before hval0 hW _ hsz0 hL _;have hval:∀ (j:Nat) t v,Tryz.f7.params[j]?=some t->args[j]?=some v->Value.okWide Tryz.prog W .any base t v:=hval0;have hsz:(DataW.weightsEach Tryz.prog (Tryz.f7.params.toList++Rows.fnDeepestRunSpec.plain.varTypes Tryz.prog) (ds++gs)).all (·<=reachBytes)=true:=hsz0;have hW':=hW;obtain⟨p,q,hA0,hV,rfl,hfz,hnd⟩:=hW;have hA:DataW.TrodAll enc Tryz.prog W 0 (λ_=>true) true Tryz.f7.params.toList args.toList ds p:=hA0;rw [show Tryz.f7.params=#[22] from rfl] at hA hval hsz;obtain⟨v0,d0,rfl,rfl,h0⟩:=trodAll_one hA;have hw:∀ m∈d0.weights Tryz.prog 22,m<=reachBytes:=λm hm=>of_decide_eq_true (dT.1 hsz m (DataW.weights_mem_each (j:=0) (t:=22) rfl rfl m hm));obtain⟨x,hx,hr⟩:=pW bO sD sM Bt (hval 0 22 v0 rfl rfl) h0 hw;obtain⟨_,_,_,_,dv,_,rfl,_⟩:=trodVars_one hV;clear hA0 hval0 hsz0;refine (qb.qD5 (xK (glT uy) eh x hx.2 hx.1) (W:=W) (g:=g0 W) (args:=#[v0]) (λb hb=>hb) (sY (uF hL)) rfl ?_).mono λe W' he=>?_
 .intro j v a hv ha
  match j,hv,ha with
  | 0,hv,ha=>simp at hv ha;subst hv;subst ha;exact hr
  | j+1,hv,ha=>simp at hv
 .obtain⟨rfl,hb⟩:=he;have hlt:∀ y∈p,y.block<W.heap.size:=λy hy=>hW'.lt y ta;refine⟨_,rfl,[d0],[dv],_,[],p++[],_,hW',trodAll_cons_mk (shut_bool dw _) trodAll_mk0,?_,hb.trodVars kX qI hV,hb.frame _,λh=>uA⟩;exact⟨p,[],hb.trod kX qI (of_decide_eq_true qI) h0 hlt,rfl,rfl⟩
theorem sL:Rows.fnDeepestRunRow.wf (OpenSpec.ofChange Rows.fnDeepestRunSpec)=true:=qI
theorem sK:Tryz.f7.params.all (Tryz.prog.readableRec ·)=true:=qI
theorem sJ:namedTie Tryz.prog Rows.fnDeepestRunRow.named Rows.fnDeepestRunSpec.vars=true:=qI
theorem sH:(Rows.fnDeepestRunRow.inPlace==Tryz.prog.inPlace 7)=true:=qI
theorem sG:(Rows.fnDeepestRunRow.unfollowed==Tryz.prog.unfollowed 7)=true:=qI
theorem sF:(Rows.fnDeepestRunRow.recurses==Tryz.prog.recurses 7)=true:=qI
theorem sE:(Rows.fnDeepestRunRow.named==Tryz.prog.varsNamed 7)=true:=qI
theorem wU:joinedFacts Tryz.prog 7 Tryz.f7 Rows.fnDeepestRunSpec Rows.fnDeepestRunRow=true :=
 md mM sL sK sJ rfl rfl sH sG sF sE qI qI qI qI qI qI qI qI qI rfl rfl rfl rfl qI qI qI qI

theorem dq:Rows.fnDeepestRunRow.holds Tryz.pinned (OpenSpec.ofChange Rows.fnDeepestRunSpec) :=
 OpenClaim.holds_of_wide 7 Tryz.f7 rfl rfl rfl rfl rfl rfl rfl ⟨rfl,rfl,rfl,rfl,rfl⟩ rfl rfl rfl rfl rfl qI Tryz.func7 wU
  (of_decide_eq_true qI) CT
  (λos started H enc _=>wT os started H enc)

theorem fnDeepestRun_holds:Rows.FnDeepestRunCardSaid :=
 Claim7.holds_tied_plain_at .later [] [.data] true Rows.fnDeepestRunCard.stood.harness true
  dq (λ_ h=>uA) qI (λ_ h=>uA) fnDeepestRun_row_tie rfl ⟨rfl,rfl⟩ qI rfl
  (λf fn hf hfn=>by
    obtain rfl:f=7:=sI ((show Tryz.prog.funcNamed "loop.example/closurecells/laws.FnDeepestRun"=some 7 by kernel_rfl).symm.trans hf) |>.symm
    obtain rfl:fn=Tryz.f7:=(sI (Tryz.func7.symm.trans hfn)).symm
    exact⟨qI,λj t ht=>by
     rw [show Tryz.f7.params=#[22] from rfl] at ht;have hm:t∈[22]:=Bu;have hall:([22].all λu=>!Tryz.prog.wantsStandIn u)=true:=qI;exact (show Tryz.prog.wantsStandIn t=false by simpa using dT.1 hall t hm)⟩)
  qI

#print axioms fnDeepestRun_holds
end Go.Proofs.YtdnebaieamppbaaGreatDoor
