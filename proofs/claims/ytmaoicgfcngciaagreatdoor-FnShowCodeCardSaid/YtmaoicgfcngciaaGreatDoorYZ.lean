/-
  Proved: the law FnShowCode returns true for every list of bytes handed to it, and these read az they did before; tied to the program's text. Conditions: the listed variables hold what the program's text lays there (the card ties it).
  Own work: the arguments' readings are turned into values, the tables into rows; then the law's walk holds.
-/
import Derived.Test.YtmaoicgfcngciaaGreatDoorY27
import Derived.Test.YtmaoicgfcngciaaGreatDoorY11
import Derived.Test.YtmaoicgfcngciaaGreatDoorY12
import Derived.Test.YtmaoicgfcngciaaGreatDoorY15
import Derived.Lay
import Derived.WalkKit
import Derived.ProofKit
import Derived.LaidMore
import Derived.OpenShut
import Derived.OpenVars
import Derived.ChangeVars
import Derived.Stop.Joined
import Derived.SevenTiedAt
import Derived.Test.YtmaoicgfcngciaaGreatDoorRows
import Derived.Test.YtmaoicgfcngciaaGreatDoorCards
import Derived.Test.YtmaoicgfcngciaaGreatDoorTie
set_option linter.unusedSimpArgs false
set_option linter.unusedVariables false

namespace Go.Proofs.YtmaoicgfcngciaaGreatDoor
open Go Go.ChangeShapes Go.WideShapes Go.ChangeAt Go.RowKit Go.Deep Go.Hm

theorem law_own : ownKnob Tryz.prog.godebug = none := by kernel_rfl
theorem law_laid : laidOutB Tryz.prog = true := by kernel_rfl
theorem law_bool : Tryz.prog.underlying 4 = some .bool := by kernel_rfl
theorem law_u8 : Tryz.prog.underlying 5 = some (.int .u8) := by kernel_rfl
theorem law_c8 : Tryz.prog.cellsOf 5 = 1 := by kernel_rfl
theorem law_b8 : Tryz.prog.bytesOf 5 = 1 := by kernel_rfl
theorem law_bytes : Tryz.prog.underlying 37 = some (.slice 5) := by kernel_rfl
theorem law_int : Tryz.prog.underlying 3 = some (.int .i64) := by kernel_rfl
theorem law_cint : Tryz.prog.cellsOf 3 = 1 := by kernel_rfl
theorem law_str : Tryz.prog.underlying 9 = some .string := by kernel_rfl
theorem law_cstr : Tryz.prog.cellsOf 9 = 1 := by kernel_rfl
theorem law_max {W : World} (h : W.ShapedOpen Tryz.prog) : ∃ m, W.cell? ⟨5, 0, none⟩ = some (.int .i64 m) :=
  cell_of_shapedOpen_int h (Nat.le_of_ble_eq_true (by kernel_rfl)) (zero := #[.int .i64 0]) (t := 3) (by kernel_rfl) rfl (by kernel_rfl) (by kernel_rfl) law_int
theorem law_tab_opWords : Tryz.prog.underlying 79 = some (.array 21 9) := by kernel_rfl
theorem law_glob_opWords : Tryz.prog.globalNamed "loop.example/closurecells/impl.opWords" = some 0 := by kernel_rfl
theorem law_gtype_opWords : (Tryz.prog.globals[0]?).map (·.type) = some 79 := by kernel_rfl
abbrev tab_opWords : List Value := vtx opW
theorem law_tab_loadCodes : Tryz.prog.underlying 242 = some (.array 5 3) := by kernel_rfl
theorem law_glob_loadCodes : Tryz.prog.globalNamed "loop.example/closurecells/impl.loadCodes" = some 3 := by kernel_rfl
theorem law_gtype_loadCodes : (Tryz.prog.globals[3]?).map (·.type) = some 242 := by kernel_rfl
abbrev tab_loadCodes : List Value := ([8, 5, 11, 5, 2] : List Int).map fun k => .int .i64 k

/-- what is laid -/
def lawLaid : List (String × DataW Unit) := [("math/bits.deBruijn32tab", Rows.laid_math_bits_deBruijn32tab), ("math/bits.deBruijn64tab", Rows.laid_math_bits_deBruijn64tab), ("internal/strconv.uint64pow10", Rows.laid_internal_strconv_uint64pow10), ("unicode/utf8.acceptRanges", Rows.laid_unicode_utf8_acceptRanges), ("loop.example/closurecells/impl.loadCodes", Rows.laid_loop_example_closurecells_impl_loadCodes), ("loop.example/closurecells/impl.opWords", Rows.laid_loop_example_closurecells_impl_opWords), ("unicode/utf8.first", Rows.laid_unicode_utf8_first)]
/-- the tables -/
abbrev lawTabs (m : Int) : List (Nat × List Value) := [(5, [.int .i64 m]), (0, tab_opWords), (3, tab_loadCodes)]
theorem law_door (os : Os) (args : Array Value) : laidMetH Tryz.prog lawLaid ((World.laidAll Tryz.prog os lawLaid).forCall (fun _ _ => 0) ⟨#[], args, []⟩).memory := by
  rw [MakeChecks.laidMetH_plain _ _ _ (by kernel_rfl)]
  exact laidMet_laidAll _ (by kernel_rfl) (by kernel_rfl)
theorem tabs_of_laid {W : World} {m : Int} (hm : W.cell? ⟨5, 0, none⟩ = some (.int .i64 m)) (h : laidMetH Tryz.prog lawLaid W) : ∀ t ∈ (lawTabs m), 0 < t.2.length ∧ (∀ v ∈ t.2, v.oneCell' = true) ∧ ∀ i v, t.2[i]? = some v → W.cell? ⟨t.1, i, none⟩ = some v := by
  rw [MakeChecks.laidMetH_plain _ _ _ (by kernel_rfl)] at h
  obtain ⟨ps, ⟨g0, t0, cs0, f0, p0, q0, hg0, ht0, hv0, hd0, ⟨g1, t1, cs1, f1, p1, q1, hg1, ht1, hv1, hd1, ⟨g2, t2, cs2, f2, p2, q2, hg2, ht2, hv2, hd2, ⟨g3, t3, cs3, f3, p3, q3, hg3, ht3, hv3, hd3, ⟨g4, t4, cs4, f4, p4, q4, hg4, ht4, hv4, hd4, ⟨g5, t5, cs5, f5, p5, q5, hg5, ht5, hv5, hd5, ⟨g6, t6, cs6, f6, p6, q6, hg6, ht6, hv6, hd6, _, _⟩, _⟩, _⟩, _⟩, _⟩, _⟩, _⟩, _⟩ := h
  intro t ht
  simp only [lawTabs, List.mem_cons, List.not_mem_nil, or_false] at ht
  rcases ht with rfl | rfl | rfl
  · refine ⟨by simp, fun v hv => ?_, fun j v hv => ?_⟩
    · rw [List.mem_singleton] at hv
      subst hv
      rfl
    · match j, hv with
      | 0, hv => obtain rfl := Option.some.inj hv; exact hm
      | j + 1, hv => simp at hv
  · obtain rfl := Option.some.inj (law_glob_opWords.symm.trans hg5)
    obtain rfl := Option.some.inj (law_gtype_opWords.symm.trans ht5)
    refine ⟨by decide, fun v hv => ?_, rd_tableS (l := opW) law_tab_opWords law_str law_cstr law_glob_opWords hv5 hd5⟩
    obtain ⟨x, _, rfl⟩ := List.mem_map.1 hv
    rfl
  · obtain rfl := Option.some.inj (law_glob_loadCodes.symm.trans hg4)
    obtain rfl := Option.some.inj (law_gtype_loadCodes.symm.trans ht4)
    refine ⟨by decide, fun v hv => ?_, fun j v hv => ?_⟩
    · obtain ⟨x, _, rfl⟩ := List.mem_map.1 hv
      rfl
    · rw [List.getElem?_map] at hv
      obtain ⟨x, hx, rfl⟩ := Option.map_eq_some_iff.1 hv
      exact rd_table (l := [8, 5, 11, 5, 2]) law_tab_loadCodes law_int law_cint law_glob_loadCodes hv4 hd4 j x hx

set_option maxRecDepth 100000 in
theorem law_lifted (os : Os) (started : os.Started) (H : Type) (enc : TypeId × Value → H) :
    ReturnsInHanded {} Tryz.checked os 7 .any (fun w args => (Rows.fnShowCodeSpec.pre enc Tryz.prog Tryz.f7 [] false w args ∧ laidMetH Tryz.prog lawLaid w) ∧ sizedMet enc Tryz.prog Tryz.f7 (OpenSpec.ofChange Rows.fnShowCodeSpec) false w args)
      (Rows.fnShowCodeSpec.post enc Tryz.prog Tryz.f7 false true false false) := by
  refine handed_laid_shaped (C := Tryz.checked) (X := fun w _ => laidMetH Tryz.prog lawLaid w) (fun _ _ _ hh h => h.of_heap hh) law_own started (by kernel_rfl) Tryz.func7
    (ChangeSpec.witness_shaped (enc := enc) (C := Tryz.checked) (os := os) (X := fun w _ => laidMetH Tryz.prog lawLaid w) false (World.laidAll Tryz.prog os lawLaid) #[.slice none 0 0] 8 (World.laidAll_os _ _ _) (World.shaped_of_ZipB (by kernel_rfl) (by kernel_rfl)) (by kernel_rfl) (by kernel_rfl) (by kernel_rfl) (law_door os _)) ?_
  intro W base args ds gs before hsh hval0 hW _ hsz0 hL _
  obtain ⟨m, hm⟩ := law_max hsh
  have hval : ∀ (j : Nat) t v, Tryz.f7.params[j]? = some t → args[j]? = some v → Value.okWide Tryz.prog W .any base t v := hval0
  have hsz : (DataW.weightsEach Tryz.prog (Tryz.f7.params.toList ++ Rows.fnShowCodeSpec.plain.varTypes Tryz.prog) (ds ++ gs)).all (· ≤ reachBytes) = true := hsz0
  have hW' := hW
  obtain ⟨p, q, hA0, hV, rfl, hfz, hnd⟩ := hW
  have hA : DataW.TrodAll enc Tryz.prog W 0 (fun _ => true) true Tryz.f7.params.toList args.toList ds p := hA0
  rw [show Tryz.f7.params = #[37] from rfl] at hA hval hsz
  obtain ⟨v0, d0, rfl, rfl, h0⟩ := trodAll_one hA
  have hw : ∀ m ∈ d0.weights Tryz.prog 37, m ≤ reachBytes := fun m hm => of_decide_eq_true (List.all_eq_true.1 hsz m (DataW.weights_mem_each (j := 0) (t := 37) rfl rfl m hm))
  obtain ⟨x, hx, hr⟩ := rd_bytes law_bytes law_u8 law_c8 (by rw [law_b8]; decide) (hval 0 37 v0 rfl rfl) h0 hw
  obtain ⟨dv, dw, rfl⟩ := two_vars hV
  clear hA0 hval0 hsz0
  refine (FnOk.rawG (FnShowCode_fn (m := m) (glV (lawTabs m)) (by rfl) (by rfl) (by rfl) x hx.2 hx.1) (W := W) (g := g0 W) (args := #[v0]) (fun b hb => hb) (glV_met (tabs_of_laid hm hL)) rfl ?_).mono fun e W' he => ?_
  · intro j v a hv ha
    match j, hv, ha with
    | 0, hv, ha => simp at hv ha; subst hv; subst ha; exact hr
    | j + 1, hv, ha => simp at hv
  · obtain ⟨rfl, hb⟩ := he
    have hlt : ∀ y ∈ p, y.block < W.heap.size := fun y hy => hW'.lt y (by simp [hy])
    refine ⟨_, rfl, [d0], [dv, dw], p ++ q, [], p ++ [], _, ?_, trodAll_cons_mk (shut_bool law_bool _) trodAll_mk0, ?_, hb.trodVars law_laid (by kernel_rfl) hV, hb.frame _, fun h => by cases h⟩
    · simpa using hW'
    · exact ⟨p, [], hb.trod law_laid (by kernel_rfl) (of_decide_eq_true (by kernel_rfl)) h0 hlt, rfl, rfl⟩
theorem law_h1 : Rows.fnShowCodeRow.wf (OpenSpec.ofChange Rows.fnShowCodeSpec) = true := by kernel_rfl
theorem law_h2 : Tryz.f7.params.all (Tryz.prog.readableRec ·) = true := by kernel_rfl
theorem law_h3 : namedTie Tryz.prog Rows.fnShowCodeRow.named Rows.fnShowCodeSpec.vars = true := by kernel_rfl
theorem law_h6 : (Rows.fnShowCodeRow.inPlace == Tryz.prog.inPlace 7) = true := by kernel_rfl
theorem law_h7 : (Rows.fnShowCodeRow.unfollowed == Tryz.prog.unfollowed 7) = true := by kernel_rfl
theorem law_h8 : (Rows.fnShowCodeRow.recurses == Tryz.prog.recurses 7) = true := by kernel_rfl
theorem law_h9 : (Rows.fnShowCodeRow.named == Tryz.prog.varsNamed 7) = true := by kernel_rfl
theorem law_closed : joinedFacts Tryz.prog 7 Tryz.f7 Rows.fnShowCodeSpec Rows.fnShowCodeRow = true :=
  joined_of progFacts law_h1 law_h2 law_h3 rfl rfl law_h6 law_h7 law_h8 law_h9 (by kernel_rfl) (by kernel_rfl) (by kernel_rfl) (by kernel_rfl) (by kernel_rfl) (by kernel_rfl) (by kernel_rfl) (by kernel_rfl) (by kernel_rfl) rfl rfl rfl rfl (by kernel_rfl) (by kernel_rfl) (by kernel_rfl) (by kernel_rfl)

theorem law_over : Rows.fnShowCodeRow.holds Tryz.pinned (OpenSpec.ofChange Rows.fnShowCodeSpec) :=
  OpenClaim.holds_of_wide 7 Tryz.f7 rfl rfl rfl rfl rfl rfl rfl ⟨rfl, rfl, rfl, rfl, rfl⟩ rfl rfl rfl rfl rfl (by kernel_rfl) Tryz.func7 law_closed
    (of_decide_eq_true (by kernel_rfl)) (by unfold Func.isWrapper; first | (rw [if_pos (by decide +kernel)]; kernel_rfl) | (rw [if_neg (by decide +kernel)]; exact ⟨rfl, rfl⟩))
    (fun os started H enc _ => law_lifted os started H enc)

theorem fnShowCode_holds : Rows.FnShowCodeCardSaid :=
  Claim7.holds_tied_plain_at .later [] [.data, .data, .data, .data, .data, .data, .pinned] true Rows.fnShowCodeCard.stood.harness true
    law_over (fun _ h => by cases h) (by kernel_rfl) (fun _ h => by cases h) fnShowCode_row_tie rfl ⟨rfl, rfl⟩ (by kernel_rfl) rfl
    (fun f fn hf hfn => by
      obtain rfl : f = 7 := Option.some.inj ((show Tryz.prog.funcNamed "loop.example/closurecells/laws.FnShowCode" = some 7 by kernel_rfl).symm.trans hf) |>.symm
      obtain rfl : fn = Tryz.f7 := (Option.some.inj (Tryz.func7.symm.trans hfn)).symm
      exact ⟨by kernel_rfl, fun j t ht => by
        rw [show Tryz.f7.params = #[37] from rfl] at ht
        have hm : t ∈ [37] := by simpa using Array.mem_of_getElem? ht
        have hall : ([37].all fun u => !Tryz.prog.wantsStandIn u) = true := by kernel_rfl
        exact (show Tryz.prog.wantsStandIn t = false by simpa using List.all_eq_true.1 hall t hm)⟩)
    (by kernel_rfl)

#print axioms fnShowCode_holds
end Go.Proofs.YtmaoicgfcngciaaGreatDoor
