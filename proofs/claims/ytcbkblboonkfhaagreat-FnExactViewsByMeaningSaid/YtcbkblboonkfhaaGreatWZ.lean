/-
  Proved: the law FnExactViewsByMeaning returns true for every program and all integers handed to it, and these read az they did before. Conditions: none beyond the given row's own.
  Own work: the arguments' readings are turned into values; then the law's walk holds.
-/
import Derived.Test.YtcbkblboonkfhaaGreatW29
import Derived.Test.YtcbkblboonkfhaaGreatW12
import Derived.WalkKit
import Derived.ProofKit
import Derived.LaidMore
import Derived.OpenShut
import Derived.OpenVars
import Derived.ChangeVars
import Derived.Stop.Joined
import Derived.SevenTiedAt
import Derived.Test.YtcbkblboonkfhaaGreatRows
set_option linter.unusedSimpArgs false
set_option linter.unusedVariables false

namespace Go.Proofs.YtcbkblboonkfhaaGreat
open Go Go.ChangeShapes Go.WideShapes Go.ChangeAt Go.RowKit Go.Deep Go.Hm


set_option maxRecDepth 100000 in
theorem law_lifted (os : Os) (started : os.Started) (H : Type) (enc : TypeId × Value → H) :
    ReturnsInHanded {} Tryz.checked os 8 .any (Rows.fnExactViewsByMeaningSpec.pre6 enc Tryz.prog Tryz.f8 Rows.fnExactViewsByMeaningRow.domain false) (Rows.fnExactViewsByMeaningSpec.post enc Tryz.prog Tryz.f8 false true false false) := by
  refine returnsInHanded_of_change_sized (C := Tryz.checked) law_own started (by kernel_rfl) Tryz.func8
    (ChangeSpec.witness6 (enc := enc) (C := Tryz.checked) false ⟨#[], #[.agg #[.slice none 0 0], .int .i64 0], []⟩ 8 (by kernel_rfl) (by kernel_rfl) (by kernel_rfl) (by kernel_rfl)) ?_
  intro W base args ds gs before hval0 hW hcnd hsz0 _
  have hval : ∀ (j : Nat) t v, Tryz.f8.params[j]? = some t → args[j]? = some v → Value.okWide Tryz.prog W .any base t v := hval0
  have hsz : (DataW.weightsEach Tryz.prog (Tryz.f8.params.toList ++ Rows.fnExactViewsByMeaningSpec.plain.varTypes Tryz.prog) (ds ++ gs)).all (· ≤ reachBytes) = true := hsz0
  have hW' := hW
  obtain ⟨p, q, hA0, hV, rfl, hfz, hnd⟩ := hW
  have hA : DataW.TrodAll enc Tryz.prog W 0 (fun _ => true) true Tryz.f8.params.toList args.toList ds p := hA0
  rw [show Tryz.f8.params = #[24, 3] from rfl] at hA hval hsz
  obtain ⟨v0, v1, d0, d1, p0, p1, rfl, rfl, rfl, h0, h1⟩ := trodAll_two hA
  obtain ⟨i1, rfl, rfl, rfl, w1⟩ := open_int law_u3 (hval 1 3 v1 rfl rfl) h1
  have hw : ∀ m ∈ d0.weights Tryz.prog 24, m ≤ reachBytes := fun m hm => of_decide_eq_true (List.all_eq_true.1 hsz m (DataW.weights_mem_each (j := 0) (t := 24) rfl rfl m hm))
  obtain ⟨P, hP, hr⟩ := rd_program (hval 0 24 v0 rfl rfl) h0 hw
  obtain ⟨rfl, rfl⟩ := trodVars_none hV
  clear hA0 hval0 hsz0
  refine (FnOk.raw (FnExactViewsByMeaning_fn (fun _ => none) P i1 hP) (W := W) (g := g0 W) (args := #[v0, .int .i64 i1]) (fun b hb => hb) rfl ?_).mono fun e W' he => ?_
  · intro j v a hv ha
    match j, hv, ha with
    | 0, hv, ha => simp at hv ha; subst hv; subst ha; exact hr
    | 1, hv, ha => simp at hv ha; subst hv; subst ha; exact .sc _
    | j + 2, hv, ha => simp at hv
  · obtain ⟨rfl, hb⟩ := he
    have hlt : ∀ y ∈ p0, y.block < W.heap.size := fun y hy => hW'.lt y (by simp [hy])
    refine ⟨_, rfl, [d0, .lit (.int .i64 i1)], [], p0, [], p0 ++ [], [], ?_, trodAll_cons_mk (shut_bool law_bool _) trodAll_mk0, ?_, rfl, hb.frame _, fun h => by cases h⟩
    · simpa using hW'
    · exact trodAll_cons_mk (hb.trod law_laid (by kernel_rfl) (of_decide_eq_true (by kernel_rfl)) h0 hlt) (trodAll_cons_mk (shut_int law_u3 w1) trodAll_mk0)
theorem law_h1 : Rows.fnExactViewsByMeaningRow.wf (OpenSpec.ofChange Rows.fnExactViewsByMeaningSpec) = true := by kernel_rfl
theorem law_h2 : Tryz.f8.params.all (Tryz.prog.readableRec ·) = true := by kernel_rfl
theorem law_h3 : namedTie Tryz.prog Rows.fnExactViewsByMeaningRow.named Rows.fnExactViewsByMeaningSpec.vars = true := by kernel_rfl
theorem law_h6 : (Rows.fnExactViewsByMeaningRow.inPlace == Tryz.prog.inPlace 8) = true := by kernel_rfl
theorem law_h7 : (Rows.fnExactViewsByMeaningRow.unfollowed == Tryz.prog.unfollowed 8) = true := by kernel_rfl
theorem law_h8 : (Rows.fnExactViewsByMeaningRow.recurses == Tryz.prog.recurses 8) = true := by kernel_rfl
theorem law_h9 : (Rows.fnExactViewsByMeaningRow.named == Tryz.prog.varsNamed 8) = true := by kernel_rfl
theorem law_closed : joinedFacts Tryz.prog 8 Tryz.f8 Rows.fnExactViewsByMeaningSpec Rows.fnExactViewsByMeaningRow = true :=
  joined_of progFacts law_h1 law_h2 law_h3 rfl rfl law_h6 law_h7 law_h8 law_h9 (by kernel_rfl) (by kernel_rfl) (by kernel_rfl) (by kernel_rfl) (by kernel_rfl) (by kernel_rfl) (by kernel_rfl) (by kernel_rfl) (by kernel_rfl) rfl rfl rfl rfl (by kernel_rfl) (by kernel_rfl) (by kernel_rfl) (by kernel_rfl)

theorem law_over : Rows.fnExactViewsByMeaningRow.holds Tryz.pinned (OpenSpec.ofChange Rows.fnExactViewsByMeaningSpec) :=
  OpenClaim.holds_of_wide 8 Tryz.f8 rfl rfl rfl rfl rfl rfl rfl ⟨rfl, rfl, rfl, rfl, rfl⟩ rfl rfl rfl rfl rfl (by kernel_rfl) Tryz.func8 law_closed
    (of_decide_eq_true (by kernel_rfl)) (by unfold Func.isWrapper; first | (rw [if_pos (by decide +kernel)]; kernel_rfl) | (rw [if_neg (by decide +kernel)]; exact ⟨rfl, rfl⟩))
    (fun os started H enc _ => law_lifted os started H enc)

theorem fnExactViewsByMeaning_holds : Rows.FnExactViewsByMeaningSaid := law_over

#print axioms fnExactViewsByMeaning_holds
end Go.Proofs.YtcbkblboonkfhaaGreat
