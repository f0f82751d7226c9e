/-
  Proved: the law FnExactCompileAll returns true for every program handed to it, and these read as they did before; tied to the program's text. Conditions: the tables of the package hold what the program's text lays there (the card ties it).
  Own work: the arguments' readings are turned into values, the tables into integers; then the law's walk holds.
-/
import Derived.Test.YtnnpbiamlalnmaaGreatDoorJ27
import Derived.Test.YtnnpbiamlalnmaaGreatDoorJ24
import Derived.Test.YtnnpbiamlalnmaaGreatDoorJ11
import Derived.WalkKit
import Derived.ProofKit
import Derived.LaidMore
import Derived.OpenShut
import Derived.OpenVars
import Derived.ChangeVars
import Derived.Stop.Joined
import Derived.SevenTiedAt
import Derived.Test.YtnnpbiamlalnmaaGreatDoorRows
import Derived.Test.YtnnpbiamlalnmaaGreatDoorCards
import Derived.Test.YtnnpbiamlalnmaaGreatDoorTie
set_option linter.unusedSimpArgs false
set_option linter.unusedVariables false

namespace Go.Proofs.YtnnpbiamlalnmaaGreatDoor
open Go Go.ChangeShapes Go.WideShapes Go.ChangeAt Go.RowKit Go.Deep Go.Hm

theorem law_int : Tryz.prog.underlying 3 = some (.int .i64) := by kernel_rfl
theorem law_cint : Tryz.prog.cellsOf 3 = 1 := by kernel_rfl
theorem law_tab_loadCodes : Tryz.prog.underlying 136 = some (.array 5 3) := by kernel_rfl
theorem law_glob_loadCodes : Tryz.prog.globalNamed "loop.example/closurecells/impl.loadCodes" = some 0 := by kernel_rfl
theorem law_gtype_loadCodes : (Tryz.prog.globals[0]?).map (·.type) = some 136 := by kernel_rfl
abbrev tab_loadCodes : List Int := [8, 5, 11, 5, 2]

/-- what is laid -/
def lawLaid : List (String × DataW Unit) := [("loop.example/closurecells/impl.loadCodes", Rows.laid_loop_example_closurecells_impl_loadCodes)]
/-- the tables -/
abbrev lawTabs : List (Nat × List Int) := [(0, tab_loadCodes)]
theorem law_door (os : Os) (args : Array Value) : laidMetH Tryz.prog lawLaid ((World.doorLaid Tryz.prog 400 os).forCall (fun _ _ => 0) ⟨#[], args, []⟩).memory :=
  laidMetH_of_parts3 (fuel := 8) (laidMet_of_run' 8 (by kernel_rfl) (by kernel_rfl)) (by kernel_rfl) (by kernel_rfl)
theorem tabs_of_laid {W : World} (h : laidMetH Tryz.prog lawLaid W) : ∀ t ∈ lawTabs, 0 < t.2.length ∧ ∀ i k, t.2[i]? = some k → W.cell? ⟨t.1, i, none⟩ = some (.int .i64 k) := by
  rw [MakeChecks.laidMetH_plain _ _ _ (by kernel_rfl)] at h
  obtain ⟨ps, ⟨g0, t0, cs0, f0, p0, q0, hg0, ht0, hv0, hd0, _, _⟩, _, _⟩ := h
  intro t ht
  simp only [lawTabs, List.mem_cons, List.not_mem_nil, or_false] at ht
  subst ht
  · obtain rfl := Option.some.inj (law_glob_loadCodes.symm.trans hg0)
    obtain rfl := Option.some.inj (law_gtype_loadCodes.symm.trans ht0)
    exact ⟨by decide, rd_table law_tab_loadCodes law_int law_cint law_glob_loadCodes hv0 hd0⟩

set_option maxRecDepth 100000 in
theorem law_lifted (os : Os) (started : os.Started) (H : Type) (enc : TypeId × Value → H) :
    ReturnsInHanded {} Tryz.checked os 4 .any (fun w args => (Rows.fnExactCompileAllSpec.pre enc Tryz.prog Tryz.f4 [] false w args ∧ laidMetH Tryz.prog lawLaid w) ∧ sizedMet enc Tryz.prog Tryz.f4 (OpenSpec.ofChange Rows.fnExactCompileAllSpec) false w args)
      (Rows.fnExactCompileAllSpec.post enc Tryz.prog Tryz.f4 false true false false) := by
  refine returnsInHanded_of_change_and (C := Tryz.checked) (X := fun w _ => laidMetH Tryz.prog lawLaid w) (fun _ _ _ hh h => h.of_heap hh) law_own started (by kernel_rfl) Tryz.func4
    (ChangeSpec.witness_shaped (enc := enc) (C := Tryz.checked) (os := os) (X := fun w _ => laidMetH Tryz.prog lawLaid w) false (World.doorLaid Tryz.prog 400 os) #[.agg #[.slice none 0 0]] 8 rfl (World.shaped_of_RefB (by kernel_rfl) (by kernel_rfl)) (by kernel_rfl) (by kernel_rfl) (by kernel_rfl) (law_door os _)) ?_
  intro W base args ds gs before hval0 hW _ hsz0 hL _
  have hval : ∀ (j : Nat) t v, Tryz.f4.params[j]? = some t → args[j]? = some v → Value.okWide Tryz.prog W .any base t v := hval0
  have hsz : (DataW.weightsEach Tryz.prog (Tryz.f4.params.toList ++ Rows.fnExactCompileAllSpec.plain.varTypes Tryz.prog) (ds ++ gs)).all (· ≤ reachBytes) = true := hsz0
  have hW' := hW
  obtain ⟨p, q, hA0, hV, rfl, hfz, hnd⟩ := hW
  have hA : DataW.TrodAll enc Tryz.prog W 0 (fun _ => true) true Tryz.f4.params.toList args.toList ds p := hA0
  rw [show Tryz.f4.params = #[24] from rfl] at hA hval hsz
  obtain ⟨v0, d0, rfl, rfl, h0⟩ := trodAll_one hA
  have hw : ∀ m ∈ d0.weights Tryz.prog 24, m ≤ reachBytes := fun m hm => of_decide_eq_true (List.all_eq_true.1 hsz m (DataW.weights_mem_each (j := 0) (t := 24) rfl rfl m hm))
  obtain ⟨P, hP, hr⟩ := rd_program (hval 0 24 v0 rfl rfl) h0 hw
  obtain ⟨_, _, _, _, dv, _, rfl, _⟩ := trodVars_one hV
  clear hA0 hval0 hsz0
  refine (FnOk.rawG (FnExactCompileAll_fn (glT lawTabs) (by rfl) P  hP) (W := W) (g := g0 W) (args := #[v0]) (fun b hb => hb) (glT_met (tabs_of_laid hL)) rfl ?_).mono fun e W' he => ?_
  · intro j v a hv ha
    match j, hv, ha with
    | 0, hv, ha => simp at hv ha; subst hv; subst ha; exact hr
    | j + 1, hv, ha => simp at hv
  · obtain ⟨rfl, hb⟩ := he
    have hlt : ∀ y ∈ p, y.block < W.heap.size := fun y hy => hW'.lt y (by simp [hy])
    refine ⟨_, rfl, [d0], [dv], p ++ q, [], p ++ [], _, ?_, trodAll_cons_mk (shut_bool law_bool _) trodAll_mk0, ?_, hb.trodVars law_laid (by kernel_rfl) hV, hb.frame _, fun h => by cases h⟩
    · simpa using hW'
    · exact trodAll_cons_mk (hb.trod law_laid (by kernel_rfl) (of_decide_eq_true (by kernel_rfl)) h0 hlt) trodAll_mk0

theorem law_over : Rows.fnExactCompileAllRow.holds Tryz.pinned (OpenSpec.ofChange Rows.fnExactCompileAllSpec) :=
  OpenClaim.holds_of_wide 4 Tryz.f4 rfl rfl rfl rfl rfl rfl rfl ⟨rfl, rfl, rfl, rfl, rfl⟩ rfl rfl rfl rfl rfl (by kernel_rfl) Tryz.func4 (by kernel_rfl)
    (of_decide_eq_true (by kernel_rfl)) (by unfold Func.isWrapper; first | (rw [if_pos (by decide +kernel)]; kernel_rfl) | (rw [if_neg (by decide +kernel)]; exact ⟨rfl, rfl⟩))
    (fun os started H enc _ => law_lifted os started H enc)

theorem fnExactCompileAll_holds : Rows.FnExactCompileAllCardSaid :=
  Claim7.holds_tied_plain_at .later [] [.data] true Rows.fnExactCompileAllCard.stood.harness true
    law_over (fun _ h => by cases h) (by kernel_rfl) (fun _ h => by cases h) fnExactCompileAll_row_tie rfl ⟨rfl, rfl⟩ (by kernel_rfl) rfl
    (fun f fn hf hfn => by
      obtain rfl : f = 4 := Option.some.inj ((show Tryz.prog.funcNamed "loop.example/closurecells/laws.FnExactCompileAll" = some 4 by kernel_rfl).symm.trans hf) |>.symm
      obtain rfl : fn = Tryz.f4 := (Option.some.inj (Tryz.func4.symm.trans hfn)).symm
      exact ⟨by kernel_rfl, fun j t ht => by
        rw [show Tryz.f4.params = #[24] from rfl] at ht
        have hm : t ∈ [24] := by simpa using Array.mem_of_getElem? ht
        have hall : ([24].all fun u => !Tryz.prog.wantsStandIn u) = true := by kernel_rfl
        exact (show Tryz.prog.wantsStandIn t = false by simpa using List.all_eq_true.1 hall t hm)⟩)
    (by kernel_rfl)

#print axioms fnExactCompileAll_holds
end Go.Proofs.YtnnpbiamlalnmaaGreatDoor
