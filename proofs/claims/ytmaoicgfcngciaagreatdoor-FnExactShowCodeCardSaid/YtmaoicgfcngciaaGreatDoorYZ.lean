/-
  Proved: the law FnExactShowCode returns true for every program and all integers handed to it, and these read az they did before; tied to the program's text. Conditions: the listed variables hold what the program's text lays there (the card ties it).
  Own work: the arguments' readings are turned into values, the tables into rows; then the law's walk holds.
-/
import Derived.Test.YtmaoicgfcngciaaGreatDoorY23
import Derived.Test.YtmaoicgfcngciaaGreatDoorY11
import Derived.WalkKit
import Derived.ProofKit
import Derived.LaidMore
import Derived.OpenShut
import Derived.OpenVars
import Derived.ChangeVars
import Derived.Stop.Joined
import Derived.SevenTiedAt
import Derived.Test.YtmaoicgfcngciaaGreatDoorRows
import Derived.Test.YtmaoicgfcngciaaGreatDoorCards
import Derived.Test.YtmaoicgfcngciaaGreatDoorTie
set_option linter.unusedSimpArgs false
set_option linter.unusedVariables false

namespace Go.Proofs.YtmaoicgfcngciaaGreatDoor
open Go Go.ChangeShapes Go.WideShapes Go.ChangeAt Go.RowKit Go.Deep Go.Hm

theorem law_int : Tryz.prog.underlying 3 = some (.int .i64) := by kernel_rfl
theorem law_cint : Tryz.prog.cellsOf 3 = 1 := by kernel_rfl
theorem law_str : Tryz.prog.underlying 9 = some .string := by kernel_rfl
theorem law_cstr : Tryz.prog.cellsOf 9 = 1 := by kernel_rfl
theorem law_tab_opWords : Tryz.prog.underlying 79 = some (.array 21 9) := by kernel_rfl
theorem law_glob_opWords : Tryz.prog.globalNamed "loop.example/closurecells/impl.opWords" = some 0 := by kernel_rfl
theorem law_gtype_opWords : (Tryz.prog.globals[0]?).map (·.type) = some 79 := by kernel_rfl
abbrev tab_opWords : List Value := vtx opW
theorem law_tab_loadCodes : Tryz.prog.underlying 242 = some (.array 5 3) := by kernel_rfl
theorem law_glob_loadCodes : Tryz.prog.globalNamed "loop.example/closurecells/impl.loadCodes" = some 3 := by kernel_rfl
theorem law_gtype_loadCodes : (Tryz.prog.globals[3]?).map (·.type) = some 242 := by kernel_rfl
abbrev tab_loadCodes : List Value := ([8, 5, 11, 5, 2] : List Int).map fun k => .int .i64 k

/-- what is laid -/
def lawLaid : List (String × DataW Unit) := [("math/bits.deBruijn32tab", Rows.laid_math_bits_deBruijn32tab), ("math/bits.deBruijn64tab", Rows.laid_math_bits_deBruijn64tab), ("internal/strconv.uint64pow10", Rows.laid_internal_strconv_uint64pow10), ("loop.example/closurecells/impl.loadCodes", Rows.laid_loop_example_closurecells_impl_loadCodes), ("loop.example/closurecells/impl.opWords", Rows.laid_loop_example_closurecells_impl_opWords)]
/-- the tables -/
abbrev lawTabs : List (Nat × List Value) := [(0, tab_opWords), (3, tab_loadCodes)]
theorem law_door (os : Os) (args : Array Value) : laidMetH Tryz.prog lawLaid ((World.doorLaid Tryz.prog 400 os).forCall (fun _ _ => 0) ⟨#[], args, []⟩).memory :=
  laidMetH_of_parts3 (fuel := 8) (laidMet_of_run' 8 (by kernel_rfl) (by kernel_rfl)) (by kernel_rfl) (by kernel_rfl)
theorem tabs_of_laid {W : World} (h : laidMetH Tryz.prog lawLaid W) : ∀ t ∈ lawTabs, 0 < t.2.length ∧ (∀ v ∈ t.2, v.oneCell' = true) ∧ ∀ i v, t.2[i]? = some v → W.cell? ⟨t.1, i, none⟩ = some v := by
  rw [MakeChecks.laidMetH_plain _ _ _ (by kernel_rfl)] at h
  obtain ⟨ps, ⟨g0, t0, cs0, f0, p0, q0, hg0, ht0, hv0, hd0, ⟨g1, t1, cs1, f1, p1, q1, hg1, ht1, hv1, hd1, ⟨g2, t2, cs2, f2, p2, q2, hg2, ht2, hv2, hd2, ⟨g3, t3, cs3, f3, p3, q3, hg3, ht3, hv3, hd3, ⟨g4, t4, cs4, f4, p4, q4, hg4, ht4, hv4, hd4, _, _⟩, _⟩, _⟩, _⟩, _⟩, _⟩ := h
  intro t ht
  simp only [lawTabs, List.mem_cons, List.not_mem_nil, or_false] at ht
  rcases ht with rfl | rfl
  · obtain rfl := Option.some.inj (law_glob_opWords.symm.trans hg4)
    obtain rfl := Option.some.inj (law_gtype_opWords.symm.trans ht4)
    refine ⟨by decide, fun v hv => ?_, rd_tableS (l := opW) law_tab_opWords law_str law_cstr law_glob_opWords hv4 hd4⟩
    obtain ⟨x, _, rfl⟩ := List.mem_map.1 hv
    rfl
  · obtain rfl := Option.some.inj (law_glob_loadCodes.symm.trans hg3)
    obtain rfl := Option.some.inj (law_gtype_loadCodes.symm.trans ht3)
    refine ⟨by decide, fun v hv => ?_, fun j v hv => ?_⟩
    · obtain ⟨x, _, rfl⟩ := List.mem_map.1 hv
      rfl
    · rw [List.getElem?_map] at hv
      obtain ⟨x, hx, rfl⟩ := Option.map_eq_some_iff.1 hv
      exact rd_table (l := [8, 5, 11, 5, 2]) law_tab_loadCodes law_int law_cint law_glob_loadCodes hv3 hd3 j x hx

set_option maxRecDepth 100000 in
theorem law_lifted (os : Os) (started : os.Started) (H : Type) (enc : TypeId × Value → H) :
    ReturnsInHanded {} Tryz.checked os 4 .any (fun w args => (Rows.fnExactShowCodeSpec.pre enc Tryz.prog Tryz.f4 [] false w args ∧ laidMetH Tryz.prog lawLaid w) ∧ sizedMet enc Tryz.prog Tryz.f4 (OpenSpec.ofChange Rows.fnExactShowCodeSpec) false w args)
      (Rows.fnExactShowCodeSpec.post enc Tryz.prog Tryz.f4 false true false false) := by
  refine returnsInHanded_of_change_and (C := Tryz.checked) (X := fun w _ => laidMetH Tryz.prog lawLaid w) (fun _ _ _ hh h => h.of_heap hh) law_own started (by kernel_rfl) Tryz.func4
    (ChangeSpec.witness_shaped (enc := enc) (C := Tryz.checked) (os := os) (X := fun w _ => laidMetH Tryz.prog lawLaid w) false (World.doorLaid Tryz.prog 400 os) #[.agg #[.slice none 0 0], .int .i64 0] 8 rfl (World.shaped_of_RefB (by kernel_rfl) (by kernel_rfl)) (by kernel_rfl) (by kernel_rfl) (by kernel_rfl) (law_door os _)) ?_
  intro W base args ds gs before hval0 hW _ hsz0 hL _
  have hval : ∀ (j : Nat) t v, Tryz.f4.params[j]? = some t → args[j]? = some v → Value.okWide Tryz.prog W .any base t v := hval0
  have hsz : (DataW.weightsEach Tryz.prog (Tryz.f4.params.toList ++ Rows.fnExactShowCodeSpec.plain.varTypes Tryz.prog) (ds ++ gs)).all (· ≤ reachBytes) = true := hsz0
  have hW' := hW
  obtain ⟨p, q, hA0, hV, rfl, hfz, hnd⟩ := hW
  have hA : DataW.TrodAll enc Tryz.prog W 0 (fun _ => true) true Tryz.f4.params.toList args.toList ds p := hA0
  rw [show Tryz.f4.params = #[32, 3] from rfl] at hA hval hsz
  obtain ⟨v0, v1, d0, d1, p0, p1, rfl, rfl, rfl, h0, h1⟩ := trodAll_two hA
  obtain ⟨i1, rfl, rfl, rfl, w1⟩ := open_int law_u3 (hval 1 3 v1 rfl rfl) h1
  have hw : ∀ m ∈ d0.weights Tryz.prog 32, m ≤ reachBytes := fun m hm => of_decide_eq_true (List.all_eq_true.1 hsz m (DataW.weights_mem_each (j := 0) (t := 32) rfl rfl m hm))
  obtain ⟨P, hP, hr⟩ := rd_program (hval 0 32 v0 rfl rfl) h0 hw
  obtain ⟨dv, dw, rfl⟩ := two_vars hV
  clear hA0 hval0 hsz0
  refine (FnOk.rawG (FnExactShowCode_fn (glV lawTabs) (by rfl) (by rfl) P i1 hP) (W := W) (g := g0 W) (args := #[v0, .int .i64 i1]) (fun b hb => hb) (glV_met (tabs_of_laid hL)) rfl ?_).mono fun e W' he => ?_
  · intro j v a hv ha
    match j, hv, ha with
    | 0, hv, ha => simp at hv ha; subst hv; subst ha; exact hr
    | 1, hv, ha => simp at hv ha; subst hv; subst ha; exact .sc _
    | j + 2, hv, ha => simp at hv
  · obtain ⟨rfl, hb⟩ := he
    have hlt : ∀ y ∈ p0, y.block < W.heap.size := fun y hy => hW'.lt y (by simp [hy])
    refine ⟨_, rfl, [d0, .lit (.int .i64 i1)], [dv, dw], p0 ++ q, [], p0 ++ [], _, ?_, trodAll_cons_mk (shut_bool law_bool _) trodAll_mk0, ?_, hb.trodVars law_laid (by kernel_rfl) hV, hb.frame _, fun h => by cases h⟩
    · simpa using hW'
    · exact trodAll_cons_mk (hb.trod law_laid (by kernel_rfl) (of_decide_eq_true (by kernel_rfl)) h0 hlt) (trodAll_cons_mk (shut_int law_u3 w1) trodAll_mk0)
theorem law_h1 : Rows.fnExactShowCodeRow.wf (OpenSpec.ofChange Rows.fnExactShowCodeSpec) = true := by kernel_rfl
theorem law_h2 : Tryz.f4.params.all (Tryz.prog.readableRec ·) = true := by kernel_rfl
theorem law_h3 : namedTie Tryz.prog Rows.fnExactShowCodeRow.named Rows.fnExactShowCodeSpec.vars = true := by kernel_rfl
theorem law_h6 : (Rows.fnExactShowCodeRow.inPlace == Tryz.prog.inPlace 4) = true := by kernel_rfl
theorem law_h7 : (Rows.fnExactShowCodeRow.unfollowed == Tryz.prog.unfollowed 4) = true := by kernel_rfl
theorem law_h8 : (Rows.fnExactShowCodeRow.recurses == Tryz.prog.recurses 4) = true := by kernel_rfl
theorem law_h9 : (Rows.fnExactShowCodeRow.named == Tryz.prog.varsNamed 4) = true := by kernel_rfl
theorem law_closed : joinedFacts Tryz.prog 4 Tryz.f4 Rows.fnExactShowCodeSpec Rows.fnExactShowCodeRow = true :=
  joined_of progFacts law_h1 law_h2 law_h3 rfl rfl law_h6 law_h7 law_h8 law_h9 (by kernel_rfl) (by kernel_rfl) (by kernel_rfl) (by kernel_rfl) (by kernel_rfl) (by kernel_rfl) (by kernel_rfl) (by kernel_rfl) (by kernel_rfl) rfl rfl rfl rfl (by kernel_rfl) (by kernel_rfl) (by kernel_rfl) (by kernel_rfl)

theorem law_over : Rows.fnExactShowCodeRow.holds Tryz.pinned (OpenSpec.ofChange Rows.fnExactShowCodeSpec) :=
  OpenClaim.holds_of_wide 4 Tryz.f4 rfl rfl rfl rfl rfl rfl rfl ⟨rfl, rfl, rfl, rfl, rfl⟩ rfl rfl rfl rfl rfl (by kernel_rfl) Tryz.func4 law_closed
    (of_decide_eq_true (by kernel_rfl)) (by unfold Func.isWrapper; first | (rw [if_pos (by decide +kernel)]; kernel_rfl) | (rw [if_neg (by decide +kernel)]; exact ⟨rfl, rfl⟩))
    (fun os started H enc _ => law_lifted os started H enc)

theorem fnExactShowCode_holds : Rows.FnExactShowCodeCardSaid :=
  Claim7.holds_tied_plain_at .later [] [.data, .data, .data, .data, .data] true Rows.fnExactShowCodeCard.stood.harness true
    law_over (fun _ h => by cases h) (by kernel_rfl) (fun _ h => by cases h) fnExactShowCode_row_tie rfl ⟨rfl, rfl⟩ (by kernel_rfl) rfl
    (fun f fn hf hfn => by
      obtain rfl : f = 4 := Option.some.inj ((show Tryz.prog.funcNamed "loop.example/closurecells/laws.FnExactShowCode" = some 4 by kernel_rfl).symm.trans hf) |>.symm
      obtain rfl : fn = Tryz.f4 := (Option.some.inj (Tryz.func4.symm.trans hfn)).symm
      exact ⟨by kernel_rfl, fun j t ht => by
        rw [show Tryz.f4.params = #[32, 3] from rfl] at ht
        have hm : t ∈ [32, 3] := by simpa using Array.mem_of_getElem? ht
        have hall : ([32, 3].all fun u => !Tryz.prog.wantsStandIn u) = true := by kernel_rfl
        exact (show Tryz.prog.wantsStandIn t = false by simpa using List.all_eq_true.1 hall t hm)⟩)
    (by kernel_rfl)

#print axioms fnExactShowCode_holds
end Go.Proofs.YtmaoicgfcngciaaGreatDoor
