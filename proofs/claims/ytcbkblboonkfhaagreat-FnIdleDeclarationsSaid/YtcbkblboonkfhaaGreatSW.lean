/-
  Proved: the law FnIdleDeclarations returns true for every list of bytes handed to it, and these read as they did before. Conditions: none beyond the given row's own.
  Own work: the arguments' readings are turned into values; then the law's walk holds.
-/
import Derived.Test.YtcbkblboonkfhaaGreatS43
import Derived.Test.YtcbkblboonkfhaaGreatS13
import Derived.Test.YtcbkblboonkfhaaGreatS31
import Derived.WalkKit
import Derived.ProofKit
import Derived.LaidMore
import Derived.OpenShut
import Derived.OpenVars
import Derived.ChangeVars
import Derived.Stop.Joined
import Derived.SevenTiedAt
import Derived.Test.YtcbkblboonkfhaaGreatRows
set_option linter.unusedSimpArgs false
set_option linter.unusedVariables false

namespace Go.Proofs.YtcbkblboonkfhaaGreat
open Go Go.ChangeShapes Go.WideShapes Go.ChangeAt Go.RowKit Go.Deep Go.Hm

theorem law_own : ownKnob Tryz.prog.godebug = none := by kernel_rfl
theorem law_laid : laidOutB Tryz.prog = true := by kernel_rfl
theorem law_bool : Tryz.prog.underlying 4 = some .bool := by kernel_rfl
theorem law_u8 : Tryz.prog.underlying 5 = some (.int .u8) := by kernel_rfl
theorem law_c8 : Tryz.prog.cellsOf 5 = 1 := by kernel_rfl
theorem law_b8 : Tryz.prog.bytesOf 5 = 1 := by kernel_rfl
theorem law_bytes : Tryz.prog.underlying 33 = some (.slice 5) := by kernel_rfl

set_option maxRecDepth 100000 in
theorem law_lifted (os : Os) (started : os.Started) (H : Type) (enc : TypeId × Value → H) :
    ReturnsInHanded {} Tryz.checked os 5 .any (Rows.fnIdleDeclarationsSpec.pre6 enc Tryz.prog Tryz.f5 Rows.fnIdleDeclarationsRow.domain false) (Rows.fnIdleDeclarationsSpec.post enc Tryz.prog Tryz.f5 false true false false) := by
  refine returnsInHanded_of_change_sized (C := Tryz.checked) law_own started (by kernel_rfl) Tryz.func5
    (ChangeSpec.witness6 (enc := enc) (C := Tryz.checked) false ⟨#[], #[.slice none 0 0], []⟩ 8 (by kernel_rfl) (by kernel_rfl) (by kernel_rfl) (by kernel_rfl)) ?_
  intro W base args ds gs before hval0 hW hcnd hsz0 _
  have hval : ∀ (j : Nat) t v, Tryz.f5.params[j]? = some t → args[j]? = some v → Value.okWide Tryz.prog W .any base t v := hval0
  have hsz : (DataW.weightsEach Tryz.prog (Tryz.f5.params.toList ++ Rows.fnIdleDeclarationsSpec.plain.varTypes Tryz.prog) (ds ++ gs)).all (· ≤ reachBytes) = true := hsz0
  have hW' := hW
  obtain ⟨p, q, hA0, hV, rfl, hfz, hnd⟩ := hW
  have hA : DataW.TrodAll enc Tryz.prog W 0 (fun _ => true) true Tryz.f5.params.toList args.toList ds p := hA0
  rw [show Tryz.f5.params = #[33] from rfl] at hA hval hsz
  obtain ⟨v0, d0, rfl, rfl, h0⟩ := trodAll_one hA
  have hw : ∀ m ∈ d0.weights Tryz.prog 33, m ≤ reachBytes := fun m hm => of_decide_eq_true (List.all_eq_true.1 hsz m (DataW.weights_mem_each (j := 0) (t := 33) rfl rfl m hm))
  obtain ⟨x, hx, hr⟩ := rd_bytes law_bytes law_u8 law_c8 (by rw [law_b8]; decide) (hval 0 33 v0 rfl rfl) h0 hw
  obtain ⟨rfl, rfl⟩ := trodVars_none hV
  clear hA0 hval0 hsz0
  refine (FnOk.raw (FnIdleDeclarations_fn (fun _ => none) x hx.2 hx.1) (W := W) (g := g0 W) (args := #[v0]) (fun b hb => hb) rfl ?_).mono fun e W' he => ?_
  · intro j v a hv ha
    match j, hv, ha with
    | 0, hv, ha => simp at hv ha; subst hv; subst ha; exact hr
    | j + 1, hv, ha => simp at hv
  · obtain ⟨rfl, hb⟩ := he
    have hlt : ∀ y ∈ p, y.block < W.heap.size := fun y hy => hW'.lt y (by simp [hy])
    refine ⟨_, rfl, [d0], [], _, [], p ++ [], _, hW', trodAll_cons_mk (shut_bool law_bool _) trodAll_mk0, ?_, hb.trodVars law_laid (by kernel_rfl) hV, hb.frame _, fun h => by cases h⟩
    exact ⟨p, [], hb.trod law_laid (by kernel_rfl) (of_decide_eq_true (by kernel_rfl)) h0 hlt, rfl, rfl⟩
theorem law_h1 : Rows.fnIdleDeclarationsRow.wf (OpenSpec.ofChange Rows.fnIdleDeclarationsSpec) = true := by kernel_rfl
theorem law_h2 : Tryz.f5.params.all (Tryz.prog.readableRec ·) = true := by kernel_rfl
theorem law_h3 : namedTie Tryz.prog Rows.fnIdleDeclarationsRow.named Rows.fnIdleDeclarationsSpec.vars = true := by kernel_rfl
theorem law_h6 : (Rows.fnIdleDeclarationsRow.inPlace == Tryz.prog.inPlace 5) = true := by kernel_rfl
theorem law_h7 : (Rows.fnIdleDeclarationsRow.unfollowed == Tryz.prog.unfollowed 5) = true := by kernel_rfl
theorem law_h8 : (Rows.fnIdleDeclarationsRow.recurses == Tryz.prog.recurses 5) = true := by kernel_rfl
theorem law_h9 : (Rows.fnIdleDeclarationsRow.named == Tryz.prog.varsNamed 5) = true := by kernel_rfl
theorem law_closed : joinedFacts Tryz.prog 5 Tryz.f5 Rows.fnIdleDeclarationsSpec Rows.fnIdleDeclarationsRow = true :=
  joined_of progFacts law_h1 law_h2 law_h3 rfl rfl law_h6 law_h7 law_h8 law_h9 (by kernel_rfl) (by kernel_rfl) (by kernel_rfl) (by kernel_rfl) (by kernel_rfl) (by kernel_rfl) (by kernel_rfl) (by kernel_rfl) (by kernel_rfl) rfl rfl rfl rfl (by kernel_rfl) (by kernel_rfl) (by kernel_rfl) (by kernel_rfl)

theorem law_over : Rows.fnIdleDeclarationsRow.holds Tryz.pinned (OpenSpec.ofChange Rows.fnIdleDeclarationsSpec) :=
  OpenClaim.holds_of_wide 5 Tryz.f5 rfl rfl rfl rfl rfl rfl rfl ⟨rfl, rfl, rfl, rfl, rfl⟩ rfl rfl rfl rfl rfl (by kernel_rfl) Tryz.func5 law_closed
    (of_decide_eq_true (by kernel_rfl)) (by unfold Func.isWrapper; first | (rw [if_pos (by decide +kernel)]; kernel_rfl) | (rw [if_neg (by decide +kernel)]; exact ⟨rfl, rfl⟩))
    (fun os started H enc _ => law_lifted os started H enc)

theorem fnIdleDeclarations_holds : Rows.FnIdleDeclarationsSaid := law_over

#print axioms fnIdleDeclarations_holds
end Go.Proofs.YtcbkblboonkfhaaGreat
