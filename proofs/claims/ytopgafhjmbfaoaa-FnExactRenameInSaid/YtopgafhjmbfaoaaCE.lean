/-
  Proved: the law FnExactRenameIn returns true for every program and every three integers handed to it, and what is handed to it reads as it did before. Conditions: none beyond the given row's own.
  Own work: the arguments' reading is turned into a program as a value; then the walk of Lg holds.
-/
import Derived.Test.YtopgafhjmbfaoaaCD
import Derived.Test.YtopgafhjmbfaoaaCL
import Derived.Test.YtopgafhjmbfaoaaRows

namespace Go.Proofs.Ytopgafhjmbfaoaa
open Go.ChangeShapes Go.WideShapes Go.ChangeAt Go.RowKit Go.Deep Go.Hm

set_option maxRecDepth 100000 in
theorem renameIn_lifted (os : Os) (started : os.Started) (H : Type) (enc : TypeId × Value → H) :
    ReturnsInHanded {} Try.checked os 4 .any (Rows.fnExactRenameInSpec.pre6 enc Try.prog Try.f4 Rows.fnExactRenameInRow.domain false) (Rows.fnExactRenameInSpec.post enc Try.prog Try.f4 false true false false) := by
  refine returnsInHanded_of_change_sized (C := Try.checked) law_own started (by kernel_rfl) Try.func4
    (ChangeSpec.witness6 (enc := enc) (C := Try.checked) false ⟨#[], #[.agg #[.slice none 0 0], .int .i64 0, .int .i64 0, .int .i64 0], []⟩ 8 (by kernel_rfl) (by kernel_rfl) (by kernel_rfl) (by kernel_rfl)) ?_
  intro W base args ds gs before hval0 hW hcnd hsz0 _
  have hval : ∀ (j : Nat) t v, Try.f4.params[j]? = some t → args[j]? = some v → Value.okWide Try.prog W .any base t v := hval0
  have hsz : (DataW.weightsEach Try.prog (Try.f4.params.toList ++ Rows.fnExactRenameInSpec.plain.varTypes Try.prog) (ds ++ gs)).all (· ≤ reachBytes) = true := hsz0
  have hW' := hW
  obtain ⟨p, q, hA0, hV, rfl, hfz, hnd⟩ := hW
  have hA : DataW.TrodAll enc Try.prog W 0 (fun _ => true) true Try.f4.params.toList args.toList ds p := hA0
  rw [show Try.f4.params = #[24, 3, 3, 3] from rfl] at hA hval hsz
  obtain ⟨v0, v1, v2, v3, d0, d1, d2, d3, p0, p1, p2, p3, rfl, rfl, rfl, h0, h1, h2, h3⟩ := trodAll_four hA
  obtain ⟨rfl, rfl⟩ := trodVars_none hV
  obtain ⟨b, rfl, rfl, rfl, wb⟩ := open_int law_u3 (hval 1 3 v1 rfl rfl) h1
  obtain ⟨x, rfl, rfl, rfl, wx⟩ := open_int law_u3 (hval 2 3 v2 rfl rfl) h2
  obtain ⟨y, rfl, rfl, rfl, wy⟩ := open_int law_u3 (hval 3 3 v3 rfl rfl) h3
  have hw : ∀ m ∈ d0.weights Try.prog 24, m ≤ reachBytes := fun m hm => of_decide_eq_true (List.all_eq_true.1 hsz m (DataW.weights_mem_each (j := 0) (t := 24) rfl rfl m hm))
  obtain ⟨P, hP, hr⟩ := rd_program (hval 0 24 v0 rfl rfl) h0 hw
  clear hA0 hval0 hsz0
  simp only [List.append_nil] at hW'
  refine (FnOk.raw (FnExactRenameIn_fn (fun _ => none) P b x y hP) (W := W) (g := g0 W) (args := #[v0, .int .i64 b, .int .i64 x, .int .i64 y]) (fun b hb => hb) rfl ?_).mono fun e W' he => ?_
  · intro j v a hv ha
    match j, hv, ha with
    | 0, hv, ha => simp at hv ha; subst hv; subst ha; exact hr
    | 1, hv, ha => simp at hv ha; subst hv; subst ha; exact .sc _
    | 2, hv, ha => simp at hv ha; subst hv; subst ha; exact .sc _
    | 3, hv, ha => simp at hv ha; subst hv; subst ha; exact .sc _
    | j + 4, hv, ha => simp at hv
  · obtain ⟨rfl, hb⟩ := he
    have hlt : ∀ y ∈ p0, y.block < W.heap.size := fun y hy => hW'.lt y (by simp [hy])
    refine ⟨_, rfl, [d0, .lit (.int .i64 b), .lit (.int .i64 x), .lit (.int .i64 y)], [], p0, [], p0 ++ [], [], ?_, trodAll_cons_mk (shut_bool law_bool _) trodAll_mk0, ?_, rfl, hb.frame _, fun h => by cases h⟩
    · simpa using hW'
    · exact trodAll_cons_mk (hb.trod law_laid (by kernel_rfl) (of_decide_eq_true (by kernel_rfl)) h0 hlt) (trodAll_cons_mk (shut_int law_u3 wb) (trodAll_cons_mk (shut_int law_u3 wx) (trodAll_cons_mk (shut_int law_u3 wy) trodAll_mk0)))

theorem renameIn_over : Rows.fnExactRenameInRow.holds Try.pinned (OpenSpec.ofChange Rows.fnExactRenameInSpec) :=
  OpenClaim.holds_of_wide 4 Try.f4 rfl rfl rfl rfl rfl rfl rfl ⟨rfl, rfl, rfl, rfl, rfl⟩ rfl rfl rfl rfl rfl (by kernel_rfl) Try.func4 (by kernel_rfl)
    (of_decide_eq_true (by kernel_rfl)) (by unfold Func.isWrapper; first | (rw [if_pos (by decide +kernel)]; kernel_rfl) | (rw [if_neg (by decide +kernel)]; exact ⟨rfl, rfl⟩))
    (fun os started H enc _ => renameIn_lifted os started H enc)

theorem fnExactRenameIn_holds : Rows.FnExactRenameInSaid := renameIn_over

#print axioms fnExactRenameIn_holds
end Go.Proofs.Ytopgafhjmbfaoaa
