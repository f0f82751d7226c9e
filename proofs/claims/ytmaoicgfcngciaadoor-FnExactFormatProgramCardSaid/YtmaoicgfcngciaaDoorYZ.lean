/-
  Proved: the law FnExactFormatProgram returns true for every program handed to it, and these read az they did before; tied to the program's text. Conditions: the listed variables hold what the program's text lays there (the card ties it).
  Own work: the arguments' readings are turned into values, the tables into rows; then the law's walk holds.
-/
import Derived.Test.YtmaoicgfcngciaaDoorY19
import Derived.Test.YtmaoicgfcngciaaDoorY11
import Derived.WalkKit
import Derived.ProofKit
import Derived.LaidMore
import Derived.OpenShut
import Derived.OpenVars
import Derived.ChangeVars
import Derived.Stop.Joined
import Derived.SevenTiedAt
import Derived.Test.YtmaoicgfcngciaaDoorRows
import Derived.Test.YtmaoicgfcngciaaDoorCards
import Derived.Test.YtmaoicgfcngciaaDoorTie
set_option linter.unusedSimpArgs false
set_option linter.unusedVariables false

namespace Go.Proofs.YtmaoicgfcngciaaDoor
open Go Go.ChangeShapes Go.WideShapes Go.ChangeAt Go.RowKit Go.Deep Go.Hm

theorem law_int : Tryd.prog.underlying 3 = some (.int .i64) := by kernel_rfl
theorem law_cint : Tryd.prog.cellsOf 3 = 1 := by kernel_rfl
theorem law_str : Tryd.prog.underlying 9 = some .string := by kernel_rfl
theorem law_cstr : Tryd.prog.cellsOf 9 = 1 := by kernel_rfl
theorem law_tab_stmtWords : Tryd.prog.underlying 59 = some (.array 12 9) := by kernel_rfl
theorem law_glob_stmtWords : Tryd.prog.globalNamed "loop.example/closurecells/impl.stmtWords" = some 0 := by kernel_rfl
theorem law_gtype_stmtWords : (Tryd.prog.globals[0]?).map (·.type) = some 59 := by kernel_rfl
abbrev tab_stmtWords : List Value := vtx stmtW

/-- what is laid -/
def lawLaid : List (String × DataW Unit) := [("math/bits.deBruijn32tab", Rows.laid_math_bits_deBruijn32tab), ("math/bits.deBruijn64tab", Rows.laid_math_bits_deBruijn64tab), ("internal/strconv.uint64pow10", Rows.laid_internal_strconv_uint64pow10), ("loop.example/closurecells/impl.stmtWords", Rows.laid_loop_example_closurecells_impl_stmtWords)]
/-- the tables -/
abbrev lawTabs : List (Nat × List Value) := [(0, tab_stmtWords)]
theorem law_door (os : Os) (args : Array Value) : laidMetH Tryd.prog lawLaid ((World.doorLaid Tryd.prog 400 os).forCall (fun _ _ => 0) ⟨#[], args, []⟩).memory :=
  laidMetH_of_parts3 (fuel := 8) (laidMet_of_run' 8 (by kernel_rfl) (by kernel_rfl)) (by kernel_rfl) (by kernel_rfl)
theorem tabs_of_laid {W : World} (h : laidMetH Tryd.prog lawLaid W) : ∀ t ∈ lawTabs, 0 < t.2.length ∧ (∀ v ∈ t.2, v.oneCell' = true) ∧ ∀ i v, t.2[i]? = some v → W.cell? ⟨t.1, i, none⟩ = some v := by
  rw [MakeChecks.laidMetH_plain _ _ _ (by kernel_rfl)] at h
  obtain ⟨ps, ⟨g0, t0, cs0, f0, p0, q0, hg0, ht0, hv0, hd0, ⟨g1, t1, cs1, f1, p1, q1, hg1, ht1, hv1, hd1, ⟨g2, t2, cs2, f2, p2, q2, hg2, ht2, hv2, hd2, ⟨g3, t3, cs3, f3, p3, q3, hg3, ht3, hv3, hd3, _, _⟩, _⟩, _⟩, _⟩, _⟩ := h
  intro t ht
  simp only [lawTabs, List.mem_cons, List.not_mem_nil, or_false] at ht
  subst ht
  · obtain rfl := Option.some.inj (law_glob_stmtWords.symm.trans hg3)
    obtain rfl := Option.some.inj (law_gtype_stmtWords.symm.trans ht3)
    refine ⟨by decide, fun v hv => ?_, rd_tableS (l := stmtW) law_tab_stmtWords law_str law_cstr law_glob_stmtWords hv3 hd3⟩
    obtain ⟨x, _, rfl⟩ := List.mem_map.1 hv
    rfl

set_option maxRecDepth 100000 in
theorem law_lifted (os : Os) (started : os.Started) (H : Type) (enc : TypeId × Value → H) :
    ReturnsInHanded {} Tryd.checked os 3 .any (fun w args => (Rows.fnExactFormatProgramSpec.pre enc Tryd.prog Tryd.f3 [] false w args ∧ laidMetH Tryd.prog lawLaid w) ∧ sizedMet enc Tryd.prog Tryd.f3 (OpenSpec.ofChange Rows.fnExactFormatProgramSpec) false w args)
      (Rows.fnExactFormatProgramSpec.post enc Tryd.prog Tryd.f3 false true false false) := by
  refine returnsInHanded_of_change_and (C := Tryd.checked) (X := fun w _ => laidMetH Tryd.prog lawLaid w) (fun _ _ _ hh h => h.of_heap hh) law_own started (by kernel_rfl) Tryd.func3
    (ChangeSpec.witness_shaped (enc := enc) (C := Tryd.checked) (os := os) (X := fun w _ => laidMetH Tryd.prog lawLaid w) false (World.doorLaid Tryd.prog 400 os) #[.agg #[.slice none 0 0]] 8 rfl (World.shaped_of_RefB (by kernel_rfl) (by kernel_rfl)) (by kernel_rfl) (by kernel_rfl) (by kernel_rfl) (law_door os _)) ?_
  intro W base args ds gs before hval0 hW _ hsz0 hL _
  have hval : ∀ (j : Nat) t v, Tryd.f3.params[j]? = some t → args[j]? = some v → Value.okWide Tryd.prog W .any base t v := hval0
  have hsz : (DataW.weightsEach Tryd.prog (Tryd.f3.params.toList ++ Rows.fnExactFormatProgramSpec.plain.varTypes Tryd.prog) (ds ++ gs)).all (· ≤ reachBytes) = true := hsz0
  have hW' := hW
  obtain ⟨p, q, hA0, hV, rfl, hfz, hnd⟩ := hW
  have hA : DataW.TrodAll enc Tryd.prog W 0 (fun _ => true) true Tryd.f3.params.toList args.toList ds p := hA0
  rw [show Tryd.f3.params = #[24] from rfl] at hA hval hsz
  obtain ⟨v0, d0, rfl, rfl, h0⟩ := trodAll_one hA
  have hw : ∀ m ∈ d0.weights Tryd.prog 24, m ≤ reachBytes := fun m hm => of_decide_eq_true (List.all_eq_true.1 hsz m (DataW.weights_mem_each (j := 0) (t := 24) rfl rfl m hm))
  obtain ⟨P, hP, hr⟩ := rd_program (hval 0 24 v0 rfl rfl) h0 hw
  obtain ⟨_, _, _, _, dv, _, rfl, _⟩ := trodVars_one hV
  clear hA0 hval0 hsz0
  refine (FnOk.rawG (FnExactFormatProgram_fn (glV lawTabs) (by rfl) P  hP) (W := W) (g := g0 W) (args := #[v0]) (fun b hb => hb) (glV_met (tabs_of_laid hL)) rfl ?_).mono fun e W' he => ?_
  · intro j v a hv ha
    match j, hv, ha with
    | 0, hv, ha => simp at hv ha; subst hv; subst ha; exact hr
    | j + 1, hv, ha => simp at hv
  · obtain ⟨rfl, hb⟩ := he
    have hlt : ∀ y ∈ p, y.block < W.heap.size := fun y hy => hW'.lt y (by simp [hy])
    refine ⟨_, rfl, [d0], [dv], p ++ q, [], p ++ [], _, ?_, trodAll_cons_mk (shut_bool law_bool _) trodAll_mk0, ?_, hb.trodVars law_laid (by kernel_rfl) hV, hb.frame _, fun h => by cases h⟩
    · simpa using hW'
    · exact trodAll_cons_mk (hb.trod law_laid (by kernel_rfl) (of_decide_eq_true (by kernel_rfl)) h0 hlt) trodAll_mk0

theorem law_over : Rows.fnExactFormatProgramRow.holds Tryd.pinned (OpenSpec.ofChange Rows.fnExactFormatProgramSpec) :=
  OpenClaim.holds_of_wide 3 Tryd.f3 rfl rfl rfl rfl rfl rfl rfl ⟨rfl, rfl, rfl, rfl, rfl⟩ rfl rfl rfl rfl rfl (by kernel_rfl) Tryd.func3 (by kernel_rfl)
    (of_decide_eq_true (by kernel_rfl)) (by unfold Func.isWrapper; first | (rw [if_pos (by decide +kernel)]; kernel_rfl) | (rw [if_neg (by decide +kernel)]; exact ⟨rfl, rfl⟩))
    (fun os started H enc _ => law_lifted os started H enc)

theorem fnExactFormatProgram_holds : Rows.FnExactFormatProgramCardSaid :=
  Claim7.holds_tied_plain_at .later [] [.data, .data, .data, .data] true Rows.fnExactFormatProgramCard.stood.harness true
    law_over (fun _ h => by cases h) (by kernel_rfl) (fun _ h => by cases h) fnExactFormatProgram_row_tie rfl ⟨rfl, rfl⟩ (by kernel_rfl) rfl
    (fun f fn hf hfn => by
      obtain rfl : f = 3 := Option.some.inj ((show Tryd.prog.funcNamed "loop.example/closurecells/laws.FnExactFormatProgram" = some 3 by kernel_rfl).symm.trans hf) |>.symm
      obtain rfl : fn = Tryd.f3 := (Option.some.inj (Tryd.func3.symm.trans hfn)).symm
      exact ⟨by kernel_rfl, fun j t ht => by
        rw [show Tryd.f3.params = #[24] from rfl] at ht
        have hm : t ∈ [24] := by simpa using Array.mem_of_getElem? ht
        have hall : ([24].all fun u => !Tryd.prog.wantsStandIn u) = true := by kernel_rfl
        exact (show Tryd.prog.wantsStandIn t = false by simpa using List.all_eq_true.1 hall t hm)⟩)
    (by kernel_rfl)

#print axioms fnExactFormatProgram_holds
end Go.Proofs.YtmaoicgfcngciaaDoor
