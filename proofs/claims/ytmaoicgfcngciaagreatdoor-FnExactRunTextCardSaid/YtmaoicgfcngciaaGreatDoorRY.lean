/-
  Proved: the law FnExactRunText returns true for every text handed to it, and these read az they did before; tied to the program's text. Conditions: the listed variables hold what the program's text lays there (the card ties it).
  Own work: the arguments' readings are turned into values, the tables into rows; then the law's walk holds.
-/
import Derived.Test.YtmaoicgfcngciaaGreatDoorR33
import Derived.ChangeMaps5
import Derived.Test.YtmaoicgfcngciaaGreatDoorR12
import Derived.Test.YtmaoicgfcngciaaGreatDoorR17
import Derived.Lay
import Derived.Test.YtmaoicgfcngciaaGreatDoorR19
import Derived.Test.YtmaoicgfcngciaaGreatDoorR26
import Derived.WalkKit
import Derived.ProofKit
import Derived.LaidMore
import Derived.OpenShut
import Derived.OpenVars
import Derived.ChangeVars
import Derived.Stop.Joined
import Derived.SevenTiedAt
import Derived.Test.YtmaoicgfcngciaaGreatDoorRows
import Derived.Test.YtmaoicgfcngciaaGreatDoorCards
import Derived.Test.YtmaoicgfcngciaaGreatDoorTie
set_option linter.unusedSimpArgs false
set_option linter.unusedVariables false

namespace Go.Proofs.YtmaoicgfcngciaaGreatDoor
open Go Go.ChangeShapes Go.WideShapes Go.ChangeAt Go.RowKit Go.Deep Go.Hm Go.ChangeMaps

theorem law_own : ownKnob Tryz.prog.godebug = none := by kernel_rfl
theorem law_laid : laidOutB Tryz.prog = true := by kernel_rfl
theorem law_bool : Tryz.prog.underlying 4 = some .bool := by kernel_rfl
theorem law_int : Tryz.prog.underlying 3 = some (.int .i64) := by kernel_rfl
theorem law_cint : Tryz.prog.cellsOf 3 = 1 := by kernel_rfl
theorem law_str : Tryz.prog.underlying 9 = some .string := by kernel_rfl
theorem law_cstr : Tryz.prog.cellsOf 9 = 1 := by kernel_rfl
theorem law_max {W : World} (h : W.ShapedOpen Tryz.prog) : ∃ m, W.cell? ⟨5, 0, none⟩ = some (.int .i64 m) :=
  cell_of_shapedOpen_int h (Nat.le_of_ble_eq_true (by kernel_rfl)) (zero := #[.int .i64 0]) (t := 3) (by kernel_rfl) rfl (by kernel_rfl) (by kernel_rfl) law_int
theorem law_tab_stmtWords : Tryz.prog.underlying 87 = some (.array 12 9) := by kernel_rfl
theorem law_glob_stmtWords : Tryz.prog.globalNamed "loop.example/closurecells/impl.stmtWords" = some 1 := by kernel_rfl
theorem law_gtype_stmtWords : (Tryz.prog.globals[1]?).map (·.type) = some 87 := by kernel_rfl
abbrev tab_stmtWords : List Value := vtx stmtW
theorem law_tab_endWords : Tryz.prog.underlying 113 = some (.array 8 9) := by kernel_rfl
theorem law_glob_endWords : Tryz.prog.globalNamed "loop.example/closurecells/impl.endWords" = some 2 := by kernel_rfl
theorem law_gtype_endWords : (Tryz.prog.globals[2]?).map (·.type) = some 113 := by kernel_rfl
abbrev tab_endWords : List Value := vtx endTx
theorem law_tab_uint64pow10 : Tryz.prog.underlying 277 = some (.array 20 259) := by kernel_rfl
theorem law_u64 : Tryz.prog.underlying 259 = some (.int .u64) := by kernel_rfl
theorem law_c64 : Tryz.prog.cellsOf 259 = 1 := by kernel_rfl
theorem law_ct64 : Tryz.prog.cellsOf 277 = 20 := by kernel_rfl
theorem law_glob_uint64pow10 : Tryz.prog.globalNamed "internal/strconv.uint64pow10" = some 4 := by kernel_rfl
theorem law_gtype_uint64pow10 : (Tryz.prog.globals[4]?).map (·.type) = some 277 := by kernel_rfl
abbrev tab_uint64pow10 : List Value := powV

/-- what is laid -/
def lawLaid : List (String × DataW Unit) := [("math/bits.deBruijn32tab", Rows.laid_math_bits_deBruijn32tab), ("math/bits.deBruijn64tab", Rows.laid_math_bits_deBruijn64tab), ("internal/strconv.uint64pow10", Rows.laid_internal_strconv_uint64pow10), ("unicode/utf8.acceptRanges", Rows.laid_unicode_utf8_acceptRanges), ("loop.example/closurecells/impl.stmtWords", Rows.laid_loop_example_closurecells_impl_stmtWords), ("loop.example/closurecells/impl.endWords", Rows.laid_loop_example_closurecells_impl_endWords), ("unicode/utf8.first", Rows.laid_unicode_utf8_first)]
/-- the tables -/
abbrev lawTabs (m : Int) : List (Nat × List Value) := [(5, [.int .i64 m]), (1, tab_stmtWords), (2, tab_endWords), (4, tab_uint64pow10)]
theorem law_door (os : Os) (args : Array Value) : laidMetH Tryz.prog lawLaid ((World.laidAll Tryz.prog os lawLaid).forCall (fun _ _ => 0) ⟨#[], args, []⟩).memory := by
  rw [MakeChecks.laidMetH_plain _ _ _ (by kernel_rfl)]
  exact laidMet_laidAll _ (by kernel_rfl) (by kernel_rfl)
theorem tabs_of_laid {W : World} {m : Int} (hm : W.cell? ⟨5, 0, none⟩ = some (.int .i64 m)) (h : laidMetH Tryz.prog lawLaid W) : ∀ t ∈ (lawTabs m), 0 < t.2.length ∧ (∀ v ∈ t.2, v.oneCell' = true) ∧ ∀ i v, t.2[i]? = some v → W.cell? ⟨t.1, i, none⟩ = some v := by
  rw [MakeChecks.laidMetH_plain _ _ _ (by kernel_rfl)] at h
  obtain ⟨ps, ⟨g0, t0, cs0, f0, p0, q0, hg0, ht0, hv0, hd0, ⟨g1, t1, cs1, f1, p1, q1, hg1, ht1, hv1, hd1, ⟨g2, t2, cs2, f2, p2, q2, hg2, ht2, hv2, hd2, ⟨g3, t3, cs3, f3, p3, q3, hg3, ht3, hv3, hd3, ⟨g4, t4, cs4, f4, p4, q4, hg4, ht4, hv4, hd4, ⟨g5, t5, cs5, f5, p5, q5, hg5, ht5, hv5, hd5, ⟨g6, t6, cs6, f6, p6, q6, hg6, ht6, hv6, hd6, _, _⟩, _⟩, _⟩, _⟩, _⟩, _⟩, _⟩, _⟩ := h
  intro t ht
  simp only [lawTabs, List.mem_cons, List.not_mem_nil, or_false] at ht
  rcases ht with rfl | rfl | rfl | rfl
  · refine ⟨by simp, fun v hv => ?_, fun j v hv => ?_⟩
    · rw [List.mem_singleton] at hv
      subst hv
      rfl
    · match j, hv with
      | 0, hv => obtain rfl := Option.some.inj hv; exact hm
      | j + 1, hv => simp at hv
  · obtain rfl := Option.some.inj (law_glob_stmtWords.symm.trans hg4)
    obtain rfl := Option.some.inj (law_gtype_stmtWords.symm.trans ht4)
    refine ⟨by decide, fun v hv => ?_, rd_tableS (l := stmtW) law_tab_stmtWords law_str law_cstr law_glob_stmtWords hv4 hd4⟩
    obtain ⟨x, _, rfl⟩ := List.mem_map.1 hv
    rfl
  · obtain rfl := Option.some.inj (law_glob_endWords.symm.trans hg5)
    obtain rfl := Option.some.inj (law_gtype_endWords.symm.trans ht5)
    refine ⟨by decide, fun v hv => ?_, rd_tableS (l := endTx) law_tab_endWords law_str law_cstr law_glob_endWords hv5 hd5⟩
    obtain ⟨x, _, rfl⟩ := List.mem_map.1 hv
    rfl
  · obtain rfl := Option.some.inj (law_glob_uint64pow10.symm.trans hg2)
    obtain rfl := Option.some.inj (law_gtype_uint64pow10.symm.trans ht2)
    refine ⟨by decide, fun v hv => ?_, (rd_pow law_tab_uint64pow10 law_u64 law_c64 law_ct64 law_glob_uint64pow10 hv2 hd2 (by kernel_rfl)).1⟩
    obtain ⟨x, _, rfl⟩ := List.mem_map.1 hv
    rfl
theorem exact_of_laid {W : World} {m : Int} (h : laidMetH Tryz.prog lawLaid W) : ∀ t ∈ (lawTabs m), Exw W t.1 (t.2.map .sc) := by
  rw [MakeChecks.laidMetH_plain _ _ _ (by kernel_rfl)] at h
  obtain ⟨ps, ⟨g0, t0, cs0, f0, p0, q0, hg0, ht0, hv0, hd0, ⟨g1, t1, cs1, f1, p1, q1, hg1, ht1, hv1, hd1, ⟨g2, t2, cs2, f2, p2, q2, hg2, ht2, hv2, hd2, ⟨g3, t3, cs3, f3, p3, q3, hg3, ht3, hv3, hd3, ⟨g4, t4, cs4, f4, p4, q4, hg4, ht4, hv4, hd4, ⟨g5, t5, cs5, f5, p5, q5, hg5, ht5, hv5, hd5, ⟨g6, t6, cs6, f6, p6, q6, hg6, ht6, hv6, hd6, _, _⟩, _⟩, _⟩, _⟩, _⟩, _⟩, _⟩, _⟩ := h
  intro t ht
  simp only [lawTabs, List.mem_cons, List.not_mem_nil, or_false] at ht
  rcases ht with rfl | rfl | rfl | rfl
  · exact exw_no (fun z e => by simp at e)
  · exact exw_no (fun z e => by simp at e)
  · exact exw_no (fun z e => by simp at e)
  · obtain rfl := Option.some.inj (law_glob_uint64pow10.symm.trans hg2)
    obtain rfl := Option.some.inj (law_gtype_uint64pow10.symm.trans ht2)
    exact (rd_pow law_tab_uint64pow10 law_u64 law_c64 law_ct64 law_glob_uint64pow10 hv2 hd2 (by kernel_rfl)).2

set_option maxRecDepth 100000 in
theorem law_lifted (os : Os) (started : os.Started) (H : Type) (enc : TypeId × Value → H) :
    ReturnsInHanded {} Tryz.checked os 8 .any (fun w args => (Rows.fnExactRunTextSpec.pre enc Tryz.prog Tryz.f8 [] false w args ∧ laidMetH Tryz.prog lawLaid w) ∧ sizedMet enc Tryz.prog Tryz.f8 (OpenSpec.ofChange Rows.fnExactRunTextSpec) false w args)
      (Rows.fnExactRunTextSpec.post enc Tryz.prog Tryz.f8 false true false false) := by
  refine handed_laid_shaped (C := Tryz.checked) (X := fun w _ => laidMetH Tryz.prog lawLaid w) (fun _ _ _ hh h => h.of_heap hh) law_own started (by kernel_rfl) Tryz.func8
    (ChangeSpec.witness_shaped (enc := enc) (C := Tryz.checked) (os := os) (X := fun w _ => laidMetH Tryz.prog lawLaid w) false (World.laidAll Tryz.prog os lawLaid) #[.string ⟨#[]⟩, .int .i64 0] 8 (World.laidAll_os _ _ _) (World.shaped_of_ZipB (by kernel_rfl) (by kernel_rfl)) (by kernel_rfl) (by kernel_rfl) (by kernel_rfl) (law_door os _)) ?_
  intro W base args ds gs before hsh hval0 hW _ hsz0 hL _
  obtain ⟨m, hm⟩ := law_max hsh
  have hval : ∀ (j : Nat) t v, Tryz.f8.params[j]? = some t → args[j]? = some v → Value.okWide Tryz.prog W .any base t v := hval0
  have hsz : (DataW.weightsEach Tryz.prog (Tryz.f8.params.toList ++ Rows.fnExactRunTextSpec.plain.varTypes Tryz.prog) (ds ++ gs)).all (· ≤ reachBytes) = true := hsz0
  have hW' := hW
  obtain ⟨p, q, hA0, hV, rfl, hfz, hnd⟩ := hW
  have hA : DataW.TrodAll enc Tryz.prog W 0 (fun _ => true) true Tryz.f8.params.toList args.toList ds p := hA0
  rw [show Tryz.f8.params = #[9, 3] from rfl] at hA hval hsz
  obtain ⟨v0, v1, d0, d1, p0, p1, rfl, rfl, rfl, h0, h1⟩ := trodAll_two hA
  obtain ⟨i1, rfl, rfl, rfl, w1⟩ := open_int law_int (hval 1 3 v1 rfl rfl) h1
  obtain ⟨s0, rfl, rfl, rfl, w0⟩ := open_string law_str (hval 0 9 v0 rfl rfl) h0
  obtain ⟨dv, dw, rfl⟩ := two_vars hV
  clear hA0 hval0 hsz0
  refine (FnOk.rawG (FnExactRunText_fn (m := m) (glV (lawTabs m)) (by rfl) (by rfl) (by rfl) (by rfl) s0.data.toList i1 (show s0.data.toList.length ≤ 9223372036854775807 from w0)) (W := W) (g := g0 W) (args := #[.string s0, .int .i64 i1]) (fun b hb => hb) (glV_met (tabs_of_laid hm hL) (exact_of_laid hL)) rfl ?_).mono fun e W' he => ?_
  · intro j v a hv ha
    match j, hv, ha with
    | 0, hv, ha => simp at hv ha; subst hv; subst ha; exact .sc _
    | 1, hv, ha => simp at hv ha; subst hv; subst ha; exact .sc _
    | j + 2, hv, ha => simp at hv
  · obtain ⟨rfl, hb⟩ := he
    refine ⟨_, rfl, [.lit (.string s0.data.toList), .lit (.int .i64 i1)], [dv, dw], [] ++ q, [], [] ++ [], _, ?_, trodAll_cons_mk (shut_bool law_bool _) trodAll_mk0, ?_, hb.trodVars law_laid (by kernel_rfl) hV, hb.frame _, fun h => by cases h⟩
    · simpa using hW'
    · exact trodAll_cons_mk (shut_string law_str w0) (trodAll_cons_mk (shut_int law_int w1) trodAll_mk0)
theorem law_h1 : Rows.fnExactRunTextRow.wf (OpenSpec.ofChange Rows.fnExactRunTextSpec) = true := by kernel_rfl
theorem law_h2 : Tryz.f8.params.all (Tryz.prog.readableRec ·) = true := by kernel_rfl
theorem law_h3 : namedTie Tryz.prog Rows.fnExactRunTextRow.named Rows.fnExactRunTextSpec.vars = true := by kernel_rfl
theorem law_h6 : (Rows.fnExactRunTextRow.inPlace == Tryz.prog.inPlace 8) = true := by kernel_rfl
theorem law_h7 : (Rows.fnExactRunTextRow.unfollowed == Tryz.prog.unfollowed 8) = true := by kernel_rfl
theorem law_h8 : (Rows.fnExactRunTextRow.recurses == Tryz.prog.recurses 8) = true := by kernel_rfl
theorem law_h9 : (Rows.fnExactRunTextRow.named == Tryz.prog.varsNamed 8) = true := by kernel_rfl
theorem law_closed : joinedFacts Tryz.prog 8 Tryz.f8 Rows.fnExactRunTextSpec Rows.fnExactRunTextRow = true :=
  joined_of progFacts law_h1 law_h2 law_h3 rfl rfl law_h6 law_h7 law_h8 law_h9 (by kernel_rfl) (by kernel_rfl) (by kernel_rfl) (by kernel_rfl) (by kernel_rfl) (by kernel_rfl) (by kernel_rfl) (by kernel_rfl) (by kernel_rfl) rfl rfl rfl rfl (by kernel_rfl) (by kernel_rfl) (by kernel_rfl) (by kernel_rfl)

theorem law_over : Rows.fnExactRunTextRow.holds Tryz.pinned (OpenSpec.ofChange Rows.fnExactRunTextSpec) :=
  OpenClaim.holds_of_wide 8 Tryz.f8 rfl rfl rfl rfl rfl rfl rfl ⟨rfl, rfl, rfl, rfl, rfl⟩ rfl rfl rfl rfl rfl (by kernel_rfl) Tryz.func8 law_closed
    (of_decide_eq_true (by kernel_rfl)) (by unfold Func.isWrapper; first | (rw [if_pos (by decide +kernel)]; kernel_rfl) | (rw [if_neg (by decide +kernel)]; exact ⟨rfl, rfl⟩))
    (fun os started H enc _ => law_lifted os started H enc)

theorem fnExactRunText_holds : Rows.FnExactRunTextCardSaid :=
  Claim7.holds_tied_plain_at .later [] [.data, .data, .data, .data, .data, .data, .pinned] true Rows.fnExactRunTextCard.stood.harness true
    law_over (fun _ h => by cases h) (by kernel_rfl) (fun _ h => by cases h) fnExactRunText_row_tie rfl ⟨rfl, rfl⟩ (by kernel_rfl) rfl
    (fun f fn hf hfn => by
      obtain rfl : f = 8 := Option.some.inj ((show Tryz.prog.funcNamed "loop.example/closurecells/laws.FnExactRunText" = some 8 by kernel_rfl).symm.trans hf) |>.symm
      obtain rfl : fn = Tryz.f8 := (Option.some.inj (Tryz.func8.symm.trans hfn)).symm
      exact ⟨by kernel_rfl, fun j t ht => by
        rw [show Tryz.f8.params = #[9, 3] from rfl] at ht
        have hm : t ∈ [9, 3] := by simpa using Array.mem_of_getElem? ht
        have hall : ([9, 3].all fun u => !Tryz.prog.wantsStandIn u) = true := by kernel_rfl
        exact (show Tryz.prog.wantsStandIn t = false by simpa using List.all_eq_true.1 hall t hm)⟩)
    (by kernel_rfl)

#print axioms fnExactRunText_holds
end Go.Proofs.YtmaoicgfcngciaaGreatDoor
