/-
  Proved: the law FnExactLeanProgram returns true for every program handed to it, and the program reads as it did before. Conditions: none beyond the given row's own.
  Own work: the argument's reading is turned into a program as a value; then the walk of Li holds.
-/
import Derived.Test.YtopgafhjmbfaoaaCD
import Derived.Test.YtopgafhjmbfaoaaCL
import Derived.Test.YtopgafhjmbfaoaaRows

namespace Go.Proofs.Ytopgafhjmbfaoaa
open Go.ChangeShapes Go.WideShapes Go.ChangeAt Go.RowKit Go.Deep Go.Hm

set_option maxRecDepth 100000 in
theorem leanProgram_lifted (os : Os) (started : os.Started) (H : Type) (enc : TypeId × Value → H) :
    ReturnsInHanded {} Try.checked os 6 .any (Rows.fnExactLeanProgramSpec.pre6 enc Try.prog Try.f6 Rows.fnExactLeanProgramRow.domain false) (Rows.fnExactLeanProgramSpec.post enc Try.prog Try.f6 false true false false) := by
  refine returnsInHanded_of_change_sized (C := Try.checked) law_own started (by kernel_rfl) Try.func6
    (ChangeSpec.witness6 (enc := enc) (C := Try.checked) false ⟨#[], #[.agg #[.slice none 0 0]], []⟩ 8 (by kernel_rfl) (by kernel_rfl) (by kernel_rfl) (by kernel_rfl)) ?_
  intro W base args ds gs before hval0 hW hcnd hsz0 _
  have hval : ∀ (j : Nat) t v, Try.f6.params[j]? = some t → args[j]? = some v → Value.okWide Try.prog W .any base t v := hval0
  have hsz : (DataW.weightsEach Try.prog (Try.f6.params.toList ++ Rows.fnExactLeanProgramSpec.plain.varTypes Try.prog) (ds ++ gs)).all (· ≤ reachBytes) = true := hsz0
  have hW' := hW
  obtain ⟨p, q, hA0, hV, rfl, hfz, hnd⟩ := hW
  have hA : DataW.TrodAll enc Try.prog W 0 (fun _ => true) true Try.f6.params.toList args.toList ds p := hA0
  rw [show Try.f6.params = #[24] from rfl] at hA hval hsz
  obtain ⟨v0, d0, rfl, rfl, h0⟩ := trodAll_one hA
  obtain ⟨rfl, rfl⟩ := trodVars_none hV
  have hw : ∀ m ∈ d0.weights Try.prog 24, m ≤ reachBytes := fun m hm => of_decide_eq_true (List.all_eq_true.1 hsz m (DataW.weights_mem_each (j := 0) (t := 24) rfl rfl m hm))
  obtain ⟨x, hx, hr⟩ := rd_program (hval 0 24 v0 rfl rfl) h0 hw
  clear hA0 hval0 hsz0
  simp only [List.append_nil] at hW'
  refine (FnOk.raw (FnExactLeanProgram_fn (fun _ => none) x hx) (W := W) (g := g0 W) (args := #[v0]) (fun b hb => hb) rfl ?_).mono fun e W' he => ?_
  · intro j v a hv ha
    match j, hv, ha with
    | 0, hv, ha => simp at hv ha; subst hv; subst ha; exact hr
    | j + 1, hv, ha => simp at hv
  · obtain ⟨rfl, hb⟩ := he
    have hlt : ∀ y ∈ p, y.block < W.heap.size := fun y hy => by simpa using hW'.lt y hy
    refine ⟨_, rfl, [d0], [], p, [], p ++ [], [], hW', trodAll_cons_mk (shut_bool law_bool _) trodAll_mk0, ?_, rfl, hb.frame _, fun h => by cases h⟩
    exact ⟨p, [], hb.trod law_laid (by kernel_rfl) (of_decide_eq_true (by kernel_rfl)) h0 hlt, rfl, rfl⟩

theorem leanProgram_over : Rows.fnExactLeanProgramRow.holds Try.pinned (OpenSpec.ofChange Rows.fnExactLeanProgramSpec) :=
  OpenClaim.holds_of_wide 6 Try.f6 rfl rfl rfl rfl rfl rfl rfl ⟨rfl, rfl, rfl, rfl, rfl⟩ rfl rfl rfl rfl rfl (by kernel_rfl) Try.func6 (by kernel_rfl)
    (of_decide_eq_true (by kernel_rfl)) (by unfold Func.isWrapper; first | (rw [if_pos (by decide +kernel)]; kernel_rfl) | (rw [if_neg (by decide +kernel)]; exact ⟨rfl, rfl⟩))
    (fun os started H enc _ => leanProgram_lifted os started H enc)

theorem fnExactLeanProgram_holds : Rows.FnExactLeanProgramSaid := leanProgram_over

#print axioms fnExactLeanProgram_holds
end Go.Proofs.Ytopgafhjmbfaoaa
