/-
  Closed facts of the program and of the row that its statement asks for.
-/
import Derived.Test.YtmaoicgfcngciaaGreatDoorY12
import Derived.Test.YtmaoicgfcngciaaGreatDoorY13
import Derived.Test.YtmaoicgfcngciaaGreatDoorY15
import Derived.Test.YtmaoicgfcngciaaGreatDoorY11
import Derived.Test.YtmaoicgfcngciaaGreatDoorY10
import Derived.Test.YtmaoicgfcngciaaGreatDoorProg
import Derived.Test.YtmaoicgfcngciaaGreatDoorChecked
import Derived.KernelRfl
import Derived.Lay
import Derived.WalkKit
import Derived.ProofKit
import Derived.LaidMore
import Derived.OpenShut
import Derived.OpenVars
import Derived.ChangeVars
import Derived.Stop.Joined
import Derived.SevenTiedAt
import Derived.Test.YtmaoicgfcngciaaGreatDoorRows
import Derived.Test.YtmaoicgfcngciaaGreatDoorCards
import Derived.Test.YtmaoicgfcngciaaGreatDoorTie
set_option linter.unusedSimpArgs false
set_option linter.unusedVariables false
set_option maxRecDepth 100000

section
namespace Go.Proofs.YtmaoicgfcngciaaGreatDoor
open Go Go.Hm Go.Proofs
theorem pf_laid : laidOutB Tryz.prog = true := by kernel_rfl
theorem pf_maps : mapsRowed Tryz.prog = true := by kernel_rfl
theorem pf_stops : (Tryz.prog.stops == []) = true := by kernel_rfl
theorem pf_knobs : (Tryz.prog.stopKnobs == []) = true := by kernel_rfl
theorem pf_keys : Tryz.prog.plainKeys = true := by kernel_rfl
theorem pf_heard : Tryz.prog.stopsHeard = true := by kernel_rfl
theorem pf_may : Tryz.prog.mayEnter = true := by kernel_rfl
theorem pf_lifts : Tryz.prog.liftsFinal = false := by kernel_rfl
theorem pf_make : (Tryz.prog.make == some .cut) = true := by kernel_rfl
theorem progFacts : ProgFacts Tryz.prog := ⟨pf_laid, pf_maps, pf_stops, pf_knobs, pf_keys, pf_heard, pf_may, pf_lifts, pf_make⟩
end Go.Proofs.YtmaoicgfcngciaaGreatDoor
end

namespace Go.Proofs.YtmaoicgfcngciaaGreatDoor
open Go Go.ChangeShapes Go.WideShapes Go.ChangeAt Go.RowKit Go.Deep Go.Hm

theorem law_own : ownKnob Tryz.prog.godebug = none := by kernel_rfl
theorem law_laid : laidOutB Tryz.prog = true := by kernel_rfl
theorem law_bool : Tryz.prog.underlying 4 = some .bool := by kernel_rfl
theorem law_u8 : Tryz.prog.underlying 5 = some (.int .u8) := by kernel_rfl
theorem law_c8 : Tryz.prog.cellsOf 5 = 1 := by kernel_rfl
theorem law_b8 : Tryz.prog.bytesOf 5 = 1 := by kernel_rfl
theorem law_bytes : Tryz.prog.underlying 37 = some (.slice 5) := by kernel_rfl
theorem law_int : Tryz.prog.underlying 3 = some (.int .i64) := by kernel_rfl
theorem law_cint : Tryz.prog.cellsOf 3 = 1 := by kernel_rfl
theorem law_str : Tryz.prog.underlying 9 = some .string := by kernel_rfl
theorem law_cstr : Tryz.prog.cellsOf 9 = 1 := by kernel_rfl
theorem law_max {W : World} (h : W.ShapedOpen Tryz.prog) : ∃ m, W.cell? ⟨5, 0, none⟩ = some (.int .i64 m) :=
  cell_of_shapedOpen_int h (Nat.le_of_ble_eq_true (by kernel_rfl)) (zero := #[.int .i64 0]) (t := 3) (by kernel_rfl) rfl (by kernel_rfl) (by kernel_rfl) law_int
theorem law_tab_stmtWords : Tryz.prog.underlying 87 = some (.array 12 9) := by kernel_rfl
theorem law_glob_stmtWords : Tryz.prog.globalNamed "loop.example/closurecells/impl.stmtWords" = some 1 := by kernel_rfl
theorem law_gtype_stmtWords : (Tryz.prog.globals[1]?).map (·.type) = some 87 := by kernel_rfl
abbrev tab_stmtWords : List Value := vtx stmtW

/-- what is laid -/
def lawLaid : List (String × DataW Unit) := [("math/bits.deBruijn32tab", Rows.laid_math_bits_deBruijn32tab), ("math/bits.deBruijn64tab", Rows.laid_math_bits_deBruijn64tab), ("internal/strconv.uint64pow10", Rows.laid_internal_strconv_uint64pow10), ("unicode/utf8.acceptRanges", Rows.laid_unicode_utf8_acceptRanges), ("loop.example/closurecells/impl.stmtWords", Rows.laid_loop_example_closurecells_impl_stmtWords), ("unicode/utf8.first", Rows.laid_unicode_utf8_first)]
/-- the tables -/
abbrev lawTabs (m : Int) : List (Nat × List Value) := [(5, [.int .i64 m]), (1, tab_stmtWords)]
theorem law_door (os : Os) (args : Array Value) : laidMetH Tryz.prog lawLaid ((World.laidAll Tryz.prog os lawLaid).forCall (fun _ _ => 0) ⟨#[], args, []⟩).memory := by
  rw [MakeChecks.laidMetH_plain _ _ _ (by kernel_rfl)]
  exact laidMet_laidAll _ (by kernel_rfl) (by kernel_rfl)
theorem tabs_of_laid {W : World} {m : Int} (hm : W.cell? ⟨5, 0, none⟩ = some (.int .i64 m)) (h : laidMetH Tryz.prog lawLaid W) : ∀ t ∈ (lawTabs m), 0 < t.2.length ∧ (∀ v ∈ t.2, v.oneCell' = true) ∧ ∀ i v, t.2[i]? = some v → W.cell? ⟨t.1, i, none⟩ = some v := by
  rw [MakeChecks.laidMetH_plain _ _ _ (by kernel_rfl)] at h
  obtain ⟨ps, ⟨g0, t0, cs0, f0, p0, q0, hg0, ht0, hv0, hd0, ⟨g1, t1, cs1, f1, p1, q1, hg1, ht1, hv1, hd1, ⟨g2, t2, cs2, f2, p2, q2, hg2, ht2, hv2, hd2, ⟨g3, t3, cs3, f3, p3, q3, hg3, ht3, hv3, hd3, ⟨g4, t4, cs4, f4, p4, q4, hg4, ht4, hv4, hd4, ⟨g5, t5, cs5, f5, p5, q5, hg5, ht5, hv5, hd5, _, _⟩, _⟩, _⟩, _⟩, _⟩, _⟩, _⟩ := h
  intro t ht
  simp only [lawTabs, List.mem_cons, List.not_mem_nil, or_false] at ht
  rcases ht with rfl | rfl
  · refine ⟨by simp, fun v hv => ?_, fun j v hv => ?_⟩
    · rw [List.mem_singleton] at hv
      subst hv
      rfl
    · match j, hv with
      | 0, hv => obtain rfl := Option.some.inj hv; exact hm
      | j + 1, hv => simp at hv
  · obtain rfl := Option.some.inj (law_glob_stmtWords.symm.trans hg4)
    obtain rfl := Option.some.inj (law_gtype_stmtWords.symm.trans ht4)
    refine ⟨by decide, fun v hv => ?_, rd_tableS (l := stmtW) law_tab_stmtWords law_str law_cstr law_glob_stmtWords hv4 hd4⟩
    obtain ⟨x, _, rfl⟩ := List.mem_map.1 hv
    rfl

theorem law_h1 : Rows.fnFormatProgramRow.wf (OpenSpec.ofChange Rows.fnFormatProgramSpec) = true := by kernel_rfl
theorem law_h2 : Tryz.f5.params.all (Tryz.prog.readableRec ·) = true := by kernel_rfl
theorem law_h3 : namedTie Tryz.prog Rows.fnFormatProgramRow.named Rows.fnFormatProgramSpec.vars = true := by kernel_rfl
theorem law_h6 : (Rows.fnFormatProgramRow.inPlace == Tryz.prog.inPlace 5) = true := by kernel_rfl
theorem law_h7 : (Rows.fnFormatProgramRow.unfollowed == Tryz.prog.unfollowed 5) = true := by kernel_rfl
theorem law_h8 : (Rows.fnFormatProgramRow.recurses == Tryz.prog.recurses 5) = true := by kernel_rfl
theorem law_h9 : (Rows.fnFormatProgramRow.named == Tryz.prog.varsNamed 5) = true := by kernel_rfl
theorem law_closed : joinedFacts Tryz.prog 5 Tryz.f5 Rows.fnFormatProgramSpec Rows.fnFormatProgramRow = true :=
  joined_of progFacts law_h1 law_h2 law_h3 rfl rfl law_h6 law_h7 law_h8 law_h9 (by kernel_rfl) (by kernel_rfl) (by kernel_rfl) (by kernel_rfl) (by kernel_rfl) (by kernel_rfl) (by kernel_rfl) (by kernel_rfl) (by kernel_rfl) rfl rfl rfl rfl (by kernel_rfl) (by kernel_rfl) (by kernel_rfl) (by kernel_rfl)

end Go.Proofs.YtmaoicgfcngciaaGreatDoor
