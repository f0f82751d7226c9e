/-
  Proved: the law FnExactParseProgram returns true for every text handed to it, and these read az they did before; tied to the program's text. Conditions: the listed variables hold what the program's text lays there (the card ties it).
  Own work: the arguments' readings are turned into values, the tables into rows; then the law's walk holds.
-/
import Derived.Test.YtmaoicgfcngciaaGreatDoorR27
import Derived.ChangeMaps5
import Derived.Test.YtmaoicgfcngciaaGreatDoorR12
import Derived.Test.YtmaoicgfcngciaaGreatDoorR17
import Derived.Lay
import Derived.Test.YtmaoicgfcngciaaGreatDoorR26
import Derived.WalkKit
import Derived.ProofKit
import Derived.LaidMore
import Derived.OpenShut
import Derived.OpenVars
import Derived.ChangeVars
import Derived.Stop.Joined
import Derived.SevenTiedAt
import Derived.Test.YtmaoicgfcngciaaGreatDoorRows
import Derived.Test.YtmaoicgfcngciaaGreatDoorCards
import Derived.Test.YtmaoicgfcngciaaGreatDoorTie
set_option linter.unusedSimpArgs false
set_option linter.unusedVariables false

namespace Go.Proofs.YtmaoicgfcngciaaGreatDoor
open Go Go.ChangeShapes Go.WideShapes Go.ChangeAt Go.RowKit Go.Deep Go.Hm Go.ChangeMaps

theorem law_own : ownKnob Tryz.prog.godebug = none := by kernel_rfl
theorem law_laid : laidOutB Tryz.prog = true := by kernel_rfl
theorem law_bool : Tryz.prog.underlying 4 = some .bool := by kernel_rfl
theorem law_int : Tryz.prog.underlying 3 = some (.int .i64) := by kernel_rfl
theorem law_cint : Tryz.prog.cellsOf 3 = 1 := by kernel_rfl
theorem law_str : Tryz.prog.underlying 9 = some .string := by kernel_rfl
theorem law_cstr : Tryz.prog.cellsOf 9 = 1 := by kernel_rfl
theorem law_max {W : World} (h : W.ShapedOpen Tryz.prog) : ∃ m, W.cell? ⟨5, 0, none⟩ = some (.int .i64 m) :=
  cell_of_shapedOpen_int h (Nat.le_of_ble_eq_true (by kernel_rfl)) (zero := #[.int .i64 0]) (t := 3) (by kernel_rfl) rfl (by kernel_rfl) (by kernel_rfl) law_int
theorem law_tab_stmtWords : Tryz.prog.underlying 87 = some (.array 12 9) := by kernel_rfl
theorem law_glob_stmtWords : Tryz.prog.globalNamed "loop.example/closurecells/impl.stmtWords" = some 1 := by kernel_rfl
theorem law_gtype_stmtWords : (Tryz.prog.globals[1]?).map (·.type) = some 87 := by kernel_rfl
abbrev tab_stmtWords : List Value := vtx stmtW

/-- what is laid -/
def lawLaid : List (String × DataW Unit) := [("unicode/utf8.acceptRanges", Rows.laid_unicode_utf8_acceptRanges), ("loop.example/closurecells/impl.stmtWords", Rows.laid_loop_example_closurecells_impl_stmtWords), ("unicode/utf8.first", Rows.laid_unicode_utf8_first)]
/-- the tables -/
abbrev lawTabs (m : Int) : List (Nat × List Value) := [(5, [.int .i64 m]), (1, tab_stmtWords)]
theorem law_door (os : Os) (args : Array Value) : laidMetH Tryz.prog lawLaid ((World.laidAll Tryz.prog os lawLaid).forCall (fun _ _ => 0) ⟨#[], args, []⟩).memory := by
  rw [MakeChecks.laidMetH_plain _ _ _ (by kernel_rfl)]
  exact laidMet_laidAll _ (by kernel_rfl) (by kernel_rfl)
theorem tabs_of_laid {W : World} {m : Int} (hm : W.cell? ⟨5, 0, none⟩ = some (.int .i64 m)) (h : laidMetH Tryz.prog lawLaid W) : ∀ t ∈ (lawTabs m), 0 < t.2.length ∧ (∀ v ∈ t.2, v.oneCell' = true) ∧ ∀ i v, t.2[i]? = some v → W.cell? ⟨t.1, i, none⟩ = some v := by
  rw [MakeChecks.laidMetH_plain _ _ _ (by kernel_rfl)] at h
  obtain ⟨ps, ⟨g0, t0, cs0, f0, p0, q0, hg0, ht0, hv0, hd0, ⟨g1, t1, cs1, f1, p1, q1, hg1, ht1, hv1, hd1, ⟨g2, t2, cs2, f2, p2, q2, hg2, ht2, hv2, hd2, _, _⟩, _⟩, _⟩, _⟩ := h
  intro t ht
  simp only [lawTabs, List.mem_cons, List.not_mem_nil, or_false] at ht
  rcases ht with rfl | rfl
  · refine ⟨by simp, fun v hv => ?_, fun j v hv => ?_⟩
    · rw [List.mem_singleton] at hv
      subst hv
      rfl
    · match j, hv with
      | 0, hv => obtain rfl := Option.some.inj hv; exact hm
      | j + 1, hv => simp at hv
  · obtain rfl := Option.some.inj (law_glob_stmtWords.symm.trans hg1)
    obtain rfl := Option.some.inj (law_gtype_stmtWords.symm.trans ht1)
    refine ⟨by decide, fun v hv => ?_, rd_tableS (l := stmtW) law_tab_stmtWords law_str law_cstr law_glob_stmtWords hv1 hd1⟩
    obtain ⟨x, _, rfl⟩ := List.mem_map.1 hv
    rfl
theorem exact_of_laid {W : World} {m : Int} (h : laidMetH Tryz.prog lawLaid W) : ∀ t ∈ (lawTabs m), Exw W t.1 (t.2.map .sc) := by
  rw [MakeChecks.laidMetH_plain _ _ _ (by kernel_rfl)] at h
  obtain ⟨ps, ⟨g0, t0, cs0, f0, p0, q0, hg0, ht0, hv0, hd0, ⟨g1, t1, cs1, f1, p1, q1, hg1, ht1, hv1, hd1, ⟨g2, t2, cs2, f2, p2, q2, hg2, ht2, hv2, hd2, _, _⟩, _⟩, _⟩, _⟩ := h
  intro t ht
  simp only [lawTabs, List.mem_cons, List.not_mem_nil, or_false] at ht
  rcases ht with rfl | rfl
  · exact exw_no (fun z e => by simp at e)
  · exact exw_no (fun z e => by simp at e)

set_option maxRecDepth 100000 in
theorem law_lifted (os : Os) (started : os.Started) (H : Type) (enc : TypeId × Value → H) :
    ReturnsInHanded {} Tryz.checked os 3 .any (fun w args => (Rows.fnExactParseProgramSpec.pre enc Tryz.prog Tryz.f3 [] false w args ∧ laidMetH Tryz.prog lawLaid w) ∧ sizedMet enc Tryz.prog Tryz.f3 (OpenSpec.ofChange Rows.fnExactParseProgramSpec) false w args)
      (Rows.fnExactParseProgramSpec.post enc Tryz.prog Tryz.f3 false true false false) := by
  refine handed_laid_shaped (C := Tryz.checked) (X := fun w _ => laidMetH Tryz.prog lawLaid w) (fun _ _ _ hh h => h.of_heap hh) law_own started (by kernel_rfl) Tryz.func3
    (ChangeSpec.witness_shaped (enc := enc) (C := Tryz.checked) (os := os) (X := fun w _ => laidMetH Tryz.prog lawLaid w) false (World.laidAll Tryz.prog os lawLaid) #[.string ⟨#[]⟩] 8 (World.laidAll_os _ _ _) (World.shaped_of_ZipB (by kernel_rfl) (by kernel_rfl)) (by kernel_rfl) (by kernel_rfl) (by kernel_rfl) (law_door os _)) ?_
  intro W base args ds gs before hsh hval0 hW _ hsz0 hL _
  obtain ⟨m, hm⟩ := law_max hsh
  have hval : ∀ (j : Nat) t v, Tryz.f3.params[j]? = some t → args[j]? = some v → Value.okWide Tryz.prog W .any base t v := hval0
  have hsz : (DataW.weightsEach Tryz.prog (Tryz.f3.params.toList ++ Rows.fnExactParseProgramSpec.plain.varTypes Tryz.prog) (ds ++ gs)).all (· ≤ reachBytes) = true := hsz0
  have hW' := hW
  obtain ⟨p, q, hA0, hV, rfl, hfz, hnd⟩ := hW
  have hA : DataW.TrodAll enc Tryz.prog W 0 (fun _ => true) true Tryz.f3.params.toList args.toList ds p := hA0
  rw [show Tryz.f3.params = #[9] from rfl] at hA hval hsz
  obtain ⟨v0, d0, rfl, rfl, h0⟩ := trodAll_one hA
  obtain ⟨s0, rfl, rfl, rfl, w0⟩ := open_string law_str (hval 0 9 v0 rfl rfl) h0
  obtain ⟨_, _, _, _, dv, _, rfl, _⟩ := trodVars_one hV
  clear hA0 hval0 hsz0
  refine (FnOk.rawG (FnExactParseProgram_fn (m := m) (glV (lawTabs m)) (by rfl) (by rfl) s0.data.toList (show s0.data.toList.length ≤ 9223372036854775807 from w0)) (W := W) (g := g0 W) (args := #[.string s0]) (fun b hb => hb) (glV_met (tabs_of_laid hm hL) (exact_of_laid hL)) rfl ?_).mono fun e W' he => ?_
  · intro j v a hv ha
    match j, hv, ha with
    | 0, hv, ha => simp at hv ha; subst hv; subst ha; exact .sc _
    | j + 1, hv, ha => simp at hv
  · obtain ⟨rfl, hb⟩ := he
    refine ⟨_, rfl, [.lit (.string s0.data.toList)], [dv], [] ++ q, [], [] ++ [], _, ?_, trodAll_cons_mk (shut_bool law_bool _) trodAll_mk0, ?_, hb.trodVars law_laid (by kernel_rfl) hV, hb.frame _, fun h => by cases h⟩
    · simpa using hW'
    · exact trodAll_cons_mk (shut_string law_str w0) trodAll_mk0
theorem law_h1 : Rows.fnExactParseProgramRow.wf (OpenSpec.ofChange Rows.fnExactParseProgramSpec) = true := by kernel_rfl
theorem law_h2 : Tryz.f3.params.all (Tryz.prog.readableRec ·) = true := by kernel_rfl
theorem law_h3 : namedTie Tryz.prog Rows.fnExactParseProgramRow.named Rows.fnExactParseProgramSpec.vars = true := by kernel_rfl
theorem law_h6 : (Rows.fnExactParseProgramRow.inPlace == Tryz.prog.inPlace 3) = true := by kernel_rfl
theorem law_h7 : (Rows.fnExactParseProgramRow.unfollowed == Tryz.prog.unfollowed 3) = true := by kernel_rfl
theorem law_h8 : (Rows.fnExactParseProgramRow.recurses == Tryz.prog.recurses 3) = true := by kernel_rfl
theorem law_h9 : (Rows.fnExactParseProgramRow.named == Tryz.prog.varsNamed 3) = true := by kernel_rfl
theorem law_closed : joinedFacts Tryz.prog 3 Tryz.f3 Rows.fnExactParseProgramSpec Rows.fnExactParseProgramRow = true :=
  joined_of progFacts law_h1 law_h2 law_h3 rfl rfl law_h6 law_h7 law_h8 law_h9 (by kernel_rfl) (by kernel_rfl) (by kernel_rfl) (by kernel_rfl) (by kernel_rfl) (by kernel_rfl) (by kernel_rfl) (by kernel_rfl) (by kernel_rfl) rfl rfl rfl rfl (by kernel_rfl) (by kernel_rfl) (by kernel_rfl) (by kernel_rfl)

theorem law_over : Rows.fnExactParseProgramRow.holds Tryz.pinned (OpenSpec.ofChange Rows.fnExactParseProgramSpec) :=
  OpenClaim.holds_of_wide 3 Tryz.f3 rfl rfl rfl rfl rfl rfl rfl ⟨rfl, rfl, rfl, rfl, rfl⟩ rfl rfl rfl rfl rfl (by kernel_rfl) Tryz.func3 law_closed
    (of_decide_eq_true (by kernel_rfl)) (by unfold Func.isWrapper; first | (rw [if_pos (by decide +kernel)]; kernel_rfl) | (rw [if_neg (by decide +kernel)]; exact ⟨rfl, rfl⟩))
    (fun os started H enc _ => law_lifted os started H enc)

theorem fnExactParseProgram_holds : Rows.FnExactParseProgramCardSaid :=
  Claim7.holds_tied_plain_at .later [] [.data, .data, .pinned] true Rows.fnExactParseProgramCard.stood.harness true
    law_over (fun _ h => by cases h) (by kernel_rfl) (fun _ h => by cases h) fnExactParseProgram_row_tie rfl ⟨rfl, rfl⟩ (by kernel_rfl) rfl
    (fun f fn hf hfn => by
      obtain rfl : f = 3 := Option.some.inj ((show Tryz.prog.funcNamed "loop.example/closurecells/laws.FnExactParseProgram" = some 3 by kernel_rfl).symm.trans hf) |>.symm
      obtain rfl : fn = Tryz.f3 := (Option.some.inj (Tryz.func3.symm.trans hfn)).symm
      exact ⟨by kernel_rfl, fun j t ht => by
        rw [show Tryz.f3.params = #[9] from rfl] at ht
        have hm : t ∈ [9] := by simpa using Array.mem_of_getElem? ht
        have hall : ([9].all fun u => !Tryz.prog.wantsStandIn u) = true := by kernel_rfl
        exact (show Tryz.prog.wantsStandIn t = false by simpa using List.all_eq_true.1 hall t hm)⟩)
    (by kernel_rfl)

#print axioms fnExactParseProgram_holds
end Go.Proofs.YtmaoicgfcngciaaGreatDoor
