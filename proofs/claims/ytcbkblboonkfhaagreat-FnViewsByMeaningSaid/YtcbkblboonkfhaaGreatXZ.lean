/- Proved: FnViewsByMeaning. Own work. -/
import Derived.Test.YtcbkblboonkfhaaGreatX31
import Derived.ProofKit
import Derived.LaidMore
import Derived.OpenShut
import Derived.OpenVars
import Derived.ChangeVars
import Derived.Stop.Joined
import Derived.SevenTiedAt
import Derived.Test.YtcbkblboonkfhaaGreatRows
set_option linter.unusedVariables false
namespace Go.Proofs.YtcbkblboonkfhaaGreat
open Go Go.ChangeShapes Go.WideShapes Go.ChangeAt Go.RowKit Go.Deep Go.Hm
theorem l_own : ownKnob Tryz.prog.godebug = none := by kernel_rfl
theorem l_la : laidOutB Tryz.prog = true := by kernel_rfl
theorem l_bo : Tryz.prog.underlying 4 = some .bool := by kernel_rfl
theorem l_u8 : Tryz.prog.underlying 5 = some (.int .u8) := by kernel_rfl
theorem l_c8 : Tryz.prog.cellsOf 5 = 1 := by kernel_rfl
theorem l_b8 : Tryz.prog.bytesOf 5 = 1 := by kernel_rfl
theorem l_by : Tryz.prog.underlying 33 = some (.slice 5) := by kernel_rfl
set_option maxRecDepth 100000 in
theorem l_lf (os : Os) (sd : os.Started) (H : Type) (enc : TypeId × Value → H) :
    ReturnsInHanded {} Tryz.checked os 9 .any (Rows.fnViewsByMeaningSpec.pre6 enc Tryz.prog Tryz.f9 Rows.fnViewsByMeaningRow.domain false) (Rows.fnViewsByMeaningSpec.post enc Tryz.prog Tryz.f9 false true false false) := by
  refine returnsInHanded_of_change_sized (C := Tryz.checked) l_own sd (by kernel_rfl) Tryz.func9
    (ChangeSpec.witness6 (enc := enc) (C := Tryz.checked) false ⟨#[], #[.slice none 0 0], []⟩ 8 (by kernel_rfl) (by kernel_rfl) (by kernel_rfl) (by kernel_rfl)) ?_
  intro W base args ds gs bf u0 hW _ u2 _
  have u1 : ∀ (j : Nat) t v, Tryz.f9.params[j]? = some t → args[j]? = some v → Value.okWide Tryz.prog W .any base t v := u0
  have u3 : (DataW.weightsEach Tryz.prog (Tryz.f9.params.toList ++ Rows.fnViewsByMeaningSpec.plain.varTypes Tryz.prog) (ds ++ gs)).all (· ≤ reachBytes) = true := u2
  have hW' := hW
  obtain ⟨p, q, hA0, hV, rfl, hf, hd⟩ := hW
  have hA : DataW.TrodAll enc Tryz.prog W 0 (fun _ => true) true Tryz.f9.params.toList args.toList ds p := hA0
  rw [show Tryz.f9.params = #[33] from rfl] at hA u1 u3
  obtain ⟨v0, d0, rfl, rfl, h0⟩ := trodAll_one hA
  have hw : ∀ m ∈ d0.weights Tryz.prog 33, m ≤ reachBytes := fun m hm => of_decide_eq_true (List.all_eq_true.1 u3 m (DataW.weights_mem_each (j := 0) (t := 33) rfl rfl m hm))
  obtain ⟨x, hx, hr⟩ := rd_bytes l_by l_u8 l_c8 (by rw [l_b8]; decide) (u1 0 33 v0 rfl rfl) h0 hw
  obtain ⟨rfl, rfl⟩ := trodVars_none hV
  clear hA0 u0 u2
  refine (FnOk.raw (FnViewsByMeaning_fn (fun _ => none) x hx.2 hx.1) (W := W) (g := g0 W) (args := #[v0]) (fun b hb => hb) rfl ?_).mono fun e W' he => ?_
  · intro j v a hv ha
    match j, hv, ha with
    | 0, hv, ha => simp at hv ha; subst hv; subst ha; exact hr
    | j + 1, hv, ha => simp at hv
  · obtain ⟨rfl, hb⟩ := he
    have ht : ∀ y ∈ p, y.block < W.heap.size := fun y hy => hW'.lt y (by simp [hy])
    refine ⟨_, rfl, [d0], [], _, [], p ++ [], _, hW', trodAll_cons_mk (shut_bool l_bo _) trodAll_mk0, ?_, hb.trodVars l_la (by kernel_rfl) hV, hb.frame _, fun h => by cases h⟩
    exact ⟨p, [], hb.trod l_la (by kernel_rfl) (of_decide_eq_true (by kernel_rfl)) h0 ht, rfl, rfl⟩
theorem l_h1 : Rows.fnViewsByMeaningRow.wf (OpenSpec.ofChange Rows.fnViewsByMeaningSpec) = true := by kernel_rfl
theorem l_h2 : Tryz.f9.params.all (Tryz.prog.readableRec ·) = true := by kernel_rfl
theorem l_h3 : namedTie Tryz.prog Rows.fnViewsByMeaningRow.named Rows.fnViewsByMeaningSpec.vars = true := by kernel_rfl
theorem l_h6 : (Rows.fnViewsByMeaningRow.inPlace == Tryz.prog.inPlace 9) = true := by kernel_rfl
theorem l_h7 : (Rows.fnViewsByMeaningRow.unfollowed == Tryz.prog.unfollowed 9) = true := by kernel_rfl
theorem l_h8 : (Rows.fnViewsByMeaningRow.recurses == Tryz.prog.recurses 9) = true := by kernel_rfl
theorem l_h9 : (Rows.fnViewsByMeaningRow.named == Tryz.prog.varsNamed 9) = true := by kernel_rfl
theorem l_cl : joinedFacts Tryz.prog 9 Tryz.f9 Rows.fnViewsByMeaningSpec Rows.fnViewsByMeaningRow = true :=
  joined_of progFacts l_h1 l_h2 l_h3 rfl rfl l_h6 l_h7 l_h8 l_h9 (by kernel_rfl) (by kernel_rfl) (by kernel_rfl) (by kernel_rfl) (by kernel_rfl) (by kernel_rfl) (by kernel_rfl) (by kernel_rfl) (by kernel_rfl) rfl rfl rfl rfl (by kernel_rfl) (by kernel_rfl) (by kernel_rfl) (by kernel_rfl)
theorem l_ov : Rows.fnViewsByMeaningRow.holds Tryz.pinned (OpenSpec.ofChange Rows.fnViewsByMeaningSpec) :=
  OpenClaim.holds_of_wide 9 Tryz.f9 rfl rfl rfl rfl rfl rfl rfl ⟨rfl, rfl, rfl, rfl, rfl⟩ rfl rfl rfl rfl rfl (by kernel_rfl) Tryz.func9 l_cl
    (of_decide_eq_true (by kernel_rfl)) (by unfold Func.isWrapper; first | (rw [if_pos (by decide +kernel)]; kernel_rfl) | (rw [if_neg (by decide +kernel)]; exact ⟨rfl, rfl⟩))
    (fun os sd H enc _ => l_lf os sd H enc)
theorem fnViewsByMeaning_holds : Rows.FnViewsByMeaningSaid := l_ov
#print axioms fnViewsByMeaning_holds
end Go.Proofs.YtcbkblboonkfhaaGreat
