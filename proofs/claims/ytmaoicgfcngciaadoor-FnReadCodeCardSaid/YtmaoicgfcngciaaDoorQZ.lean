/-
  Proved: the law FnReadCode returns true for every list of bytes handed to it, and these read az they did before; tied to the program's text. Conditions: the listed variables hold what the program's text lays there (the card ties it).
  Own work: the arguments' readings are turned into values, the tables into rows; then the law's walk holds.
-/
import Derived.Test.YtmaoicgfcngciaaDoorQ23
import Derived.Test.YtmaoicgfcngciaaDoorQ10
import Derived.Test.YtmaoicgfcngciaaDoorQ11
import Derived.Test.YtmaoicgfcngciaaDoorQ14
import Derived.Lay
import Derived.WalkKit
import Derived.ProofKit
import Derived.LaidMore
import Derived.OpenShut
import Derived.OpenVars
import Derived.ChangeVars
import Derived.Stop.Joined
import Derived.SevenTiedAt
import Derived.Test.YtmaoicgfcngciaaDoorRows
import Derived.Test.YtmaoicgfcngciaaDoorCards
import Derived.Test.YtmaoicgfcngciaaDoorTie
set_option linter.unusedSimpArgs false
set_option linter.unusedVariables false

namespace Go.Proofs.YtmaoicgfcngciaaDoor
open Go Go.ChangeShapes Go.WideShapes Go.ChangeAt Go.RowKit Go.Deep Go.Hm

theorem law_own : ownKnob Tryd.prog.godebug = none := by kernel_rfl
theorem law_laid : laidOutB Tryd.prog = true := by kernel_rfl
theorem law_bool : Tryd.prog.underlying 4 = some .bool := by kernel_rfl
theorem law_u8 : Tryd.prog.underlying 5 = some (.int .u8) := by kernel_rfl
theorem law_c8 : Tryd.prog.cellsOf 5 = 1 := by kernel_rfl
theorem law_b8 : Tryd.prog.bytesOf 5 = 1 := by kernel_rfl
theorem law_bytes : Tryd.prog.underlying 33 = some (.slice 5) := by kernel_rfl
theorem law_int : Tryd.prog.underlying 3 = some (.int .i64) := by kernel_rfl
theorem law_cint : Tryd.prog.cellsOf 3 = 1 := by kernel_rfl
theorem law_str : Tryd.prog.underlying 9 = some .string := by kernel_rfl
theorem law_cstr : Tryd.prog.cellsOf 9 = 1 := by kernel_rfl
theorem law_max {W : World} (h : W.ShapedOpen Tryd.prog) : ∃ m, W.cell? ⟨3, 0, none⟩ = some (.int .i64 m) :=
  cell_of_shapedOpen_int h (Nat.le_of_ble_eq_true (by kernel_rfl)) (zero := #[.int .i64 0]) (t := 3) (by kernel_rfl) rfl (by kernel_rfl) (by kernel_rfl) law_int
theorem law_tab_opWords : Tryd.prog.underlying 140 = some (.array 21 9) := by kernel_rfl
theorem law_glob_opWords : Tryd.prog.globalNamed "loop.example/closurecells/impl.opWords" = some 1 := by kernel_rfl
theorem law_gtype_opWords : (Tryd.prog.globals[1]?).map (·.type) = some 140 := by kernel_rfl
abbrev tab_opWords : List Value := vtx opW

/-- what is laid -/
def lawLaid : List (String × DataW Unit) := [("unicode/utf8.acceptRanges", Rows.laid_unicode_utf8_acceptRanges), ("loop.example/closurecells/impl.opWords", Rows.laid_loop_example_closurecells_impl_opWords), ("unicode/utf8.first", Rows.laid_unicode_utf8_first)]
/-- the tables -/
abbrev lawTabs (m : Int) : List (Nat × List Value) := [(3, [.int .i64 m]), (1, tab_opWords)]
theorem law_door (os : Os) (args : Array Value) : laidMetH Tryd.prog lawLaid ((World.laidAll Tryd.prog os lawLaid).forCall (fun _ _ => 0) ⟨#[], args, []⟩).memory := by
  rw [MakeChecks.laidMetH_plain _ _ _ (by kernel_rfl)]
  exact laidMet_laidAll _ (by kernel_rfl) (by kernel_rfl)
theorem tabs_of_laid {W : World} {m : Int} (hm : W.cell? ⟨3, 0, none⟩ = some (.int .i64 m)) (h : laidMetH Tryd.prog lawLaid W) : ∀ t ∈ (lawTabs m), 0 < t.2.length ∧ (∀ v ∈ t.2, v.oneCell' = true) ∧ ∀ i v, t.2[i]? = some v → W.cell? ⟨t.1, i, none⟩ = some v := by
  rw [MakeChecks.laidMetH_plain _ _ _ (by kernel_rfl)] at h
  obtain ⟨ps, ⟨g0, t0, cs0, f0, p0, q0, hg0, ht0, hv0, hd0, ⟨g1, t1, cs1, f1, p1, q1, hg1, ht1, hv1, hd1, ⟨g2, t2, cs2, f2, p2, q2, hg2, ht2, hv2, hd2, _, _⟩, _⟩, _⟩, _⟩ := h
  intro t ht
  simp only [lawTabs, List.mem_cons, List.not_mem_nil, or_false] at ht
  rcases ht with rfl | rfl
  · refine ⟨by simp, fun v hv => ?_, fun j v hv => ?_⟩
    · rw [List.mem_singleton] at hv
      subst hv
      rfl
    · match j, hv with
      | 0, hv => obtain rfl := Option.some.inj hv; exact hm
      | j + 1, hv => simp at hv
  · obtain rfl := Option.some.inj (law_glob_opWords.symm.trans hg1)
    obtain rfl := Option.some.inj (law_gtype_opWords.symm.trans ht1)
    refine ⟨by decide, fun v hv => ?_, rd_tableS (l := opW) law_tab_opWords law_str law_cstr law_glob_opWords hv1 hd1⟩
    obtain ⟨x, _, rfl⟩ := List.mem_map.1 hv
    rfl

set_option maxRecDepth 100000 in
theorem law_lifted (os : Os) (started : os.Started) (H : Type) (enc : TypeId × Value → H) :
    ReturnsInHanded {} Tryd.checked os 4 .any (fun w args => (Rows.fnReadCodeSpec.pre enc Tryd.prog Tryd.f4 [] false w args ∧ laidMetH Tryd.prog lawLaid w) ∧ sizedMet enc Tryd.prog Tryd.f4 (OpenSpec.ofChange Rows.fnReadCodeSpec) false w args)
      (Rows.fnReadCodeSpec.post enc Tryd.prog Tryd.f4 false true false false) := by
  refine handed_laid_shaped (C := Tryd.checked) (X := fun w _ => laidMetH Tryd.prog lawLaid w) (fun _ _ _ hh h => h.of_heap hh) law_own started (by kernel_rfl) Tryd.func4
    (ChangeSpec.witness_shaped (enc := enc) (C := Tryd.checked) (os := os) (X := fun w _ => laidMetH Tryd.prog lawLaid w) false (World.laidAll Tryd.prog os lawLaid) #[.slice none 0 0] 8 (World.laidAll_os _ _ _) (World.shaped_of_ZipB (by kernel_rfl) (by kernel_rfl)) (by kernel_rfl) (by kernel_rfl) (by kernel_rfl) (law_door os _)) ?_
  intro W base args ds gs before hsh hval0 hW _ hsz0 hL _
  obtain ⟨m, hm⟩ := law_max hsh
  have hval : ∀ (j : Nat) t v, Tryd.f4.params[j]? = some t → args[j]? = some v → Value.okWide Tryd.prog W .any base t v := hval0
  have hsz : (DataW.weightsEach Tryd.prog (Tryd.f4.params.toList ++ Rows.fnReadCodeSpec.plain.varTypes Tryd.prog) (ds ++ gs)).all (· ≤ reachBytes) = true := hsz0
  have hW' := hW
  obtain ⟨p, q, hA0, hV, rfl, hfz, hnd⟩ := hW
  have hA : DataW.TrodAll enc Tryd.prog W 0 (fun _ => true) true Tryd.f4.params.toList args.toList ds p := hA0
  rw [show Tryd.f4.params = #[33] from rfl] at hA hval hsz
  obtain ⟨v0, d0, rfl, rfl, h0⟩ := trodAll_one hA
  have hw : ∀ m ∈ d0.weights Tryd.prog 33, m ≤ reachBytes := fun m hm => of_decide_eq_true (List.all_eq_true.1 hsz m (DataW.weights_mem_each (j := 0) (t := 33) rfl rfl m hm))
  obtain ⟨x, hx, hr⟩ := rd_bytes law_bytes law_u8 law_c8 (by rw [law_b8]; decide) (hval 0 33 v0 rfl rfl) h0 hw
  obtain ⟨_, _, _, _, dv, _, rfl, _⟩ := trodVars_one hV
  clear hA0 hval0 hsz0
  refine (FnOk.rawG (FnReadCode_fn (m := m) (glV (lawTabs m)) (by rfl) (by rfl) x hx.2 hx.1) (W := W) (g := g0 W) (args := #[v0]) (fun b hb => hb) (glV_met (tabs_of_laid hm hL)) rfl ?_).mono fun e W' he => ?_
  · intro j v a hv ha
    match j, hv, ha with
    | 0, hv, ha => simp at hv ha; subst hv; subst ha; exact hr
    | j + 1, hv, ha => simp at hv
  · obtain ⟨rfl, hb⟩ := he
    have hlt : ∀ y ∈ p, y.block < W.heap.size := fun y hy => hW'.lt y (by simp [hy])
    refine ⟨_, rfl, [d0], [dv], p ++ q, [], p ++ [], _, ?_, trodAll_cons_mk (shut_bool law_bool _) trodAll_mk0, ?_, hb.trodVars law_laid (by kernel_rfl) hV, hb.frame _, fun h => by cases h⟩
    · simpa using hW'
    · exact ⟨p, [], hb.trod law_laid (by kernel_rfl) (of_decide_eq_true (by kernel_rfl)) h0 hlt, rfl, rfl⟩

theorem law_over : Rows.fnReadCodeRow.holds Tryd.pinned (OpenSpec.ofChange Rows.fnReadCodeSpec) :=
  OpenClaim.holds_of_wide 4 Tryd.f4 rfl rfl rfl rfl rfl rfl rfl ⟨rfl, rfl, rfl, rfl, rfl⟩ rfl rfl rfl rfl rfl (by kernel_rfl) Tryd.func4 (by kernel_rfl)
    (of_decide_eq_true (by kernel_rfl)) (by unfold Func.isWrapper; first | (rw [if_pos (by decide +kernel)]; kernel_rfl) | (rw [if_neg (by decide +kernel)]; exact ⟨rfl, rfl⟩))
    (fun os started H enc _ => law_lifted os started H enc)

theorem fnReadCode_holds : Rows.FnReadCodeCardSaid :=
  Claim7.holds_tied_plain_at .later [] [.data, .data, .pinned] true Rows.fnReadCodeCard.stood.harness true
    law_over (fun _ h => by cases h) (by kernel_rfl) (fun _ h => by cases h) fnReadCode_row_tie rfl ⟨rfl, rfl⟩ (by kernel_rfl) rfl
    (fun f fn hf hfn => by
      obtain rfl : f = 4 := Option.some.inj ((show Tryd.prog.funcNamed "loop.example/closurecells/laws.FnReadCode" = some 4 by kernel_rfl).symm.trans hf) |>.symm
      obtain rfl : fn = Tryd.f4 := (Option.some.inj (Tryd.func4.symm.trans hfn)).symm
      exact ⟨by kernel_rfl, fun j t ht => by
        rw [show Tryd.f4.params = #[33] from rfl] at ht
        have hm : t ∈ [33] := by simpa using Array.mem_of_getElem? ht
        have hall : ([33].all fun u => !Tryd.prog.wantsStandIn u) = true := by kernel_rfl
        exact (show Tryd.prog.wantsStandIn t = false by simpa using List.all_eq_true.1 hall t hm)⟩)
    (by kernel_rfl)

#print axioms fnReadCode_holds
end Go.Proofs.YtmaoicgfcngciaaDoor
