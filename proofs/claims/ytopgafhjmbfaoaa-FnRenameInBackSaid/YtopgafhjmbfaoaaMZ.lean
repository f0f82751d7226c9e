/-
  Proved: the law FnRenameInBack returns true for every list of bytes handed to it, and the bytes read as they did before. Conditions: none beyond the given row's own.
  Own work: the argument's reading is turned into a list of bytes; then the walk of Tc over the plain law of Hm59 holds.
-/
import Derived.Test.YtopgafhjmbfaoaaM26
import Derived.Test.YtopgafhjmbfaoaaM12
import Derived.WalkKit
import Derived.ProofKit
import Derived.OpenShut
import Derived.Test.YtopgafhjmbfaoaaRows

namespace Go.Proofs.Ytopgafhjmbfaoaa
open Go.ChangeShapes Go.WideShapes Go.ChangeAt Go.RowKit Go.Deep Go.Hm

theorem law_own : ownKnob Try.prog.godebug = none := by kernel_rfl
theorem law_laid : laidOutB Try.prog = true := by kernel_rfl
theorem law_bool : Try.prog.underlying 4 = some .bool := by kernel_rfl
theorem law_u5 : Try.prog.underlying 5 = some (.int .u8) := by kernel_rfl
theorem law_c5 : Try.prog.cellsOf 5 = 1 := by kernel_rfl
theorem law_b5 : Try.prog.bytesOf 5 = 1 := by kernel_rfl
theorem law_u37 : Try.prog.underlying 37 = some (.slice 5) := by kernel_rfl

set_option maxRecDepth 100000 in
theorem renameInBack_lifted (os : Os) (started : os.Started) (H : Type) (enc : TypeId × Value → H) :
    ReturnsInHanded {} Try.checked os 5 .any (Rows.fnRenameInBackSpec.pre6 enc Try.prog Try.f5 Rows.fnRenameInBackRow.domain false) (Rows.fnRenameInBackSpec.post enc Try.prog Try.f5 false true false false) := by
  refine returnsInHanded_of_change_sized (C := Try.checked) law_own started (by kernel_rfl) Try.func5
    (ChangeSpec.witness6 (enc := enc) (C := Try.checked) false ⟨#[], #[.slice none 0 0], []⟩ 8 (by kernel_rfl) (by kernel_rfl) (by kernel_rfl) (by kernel_rfl)) ?_
  intro W base args ds gs before hval0 hW hcnd hsz0 _
  have hval : ∀ (j : Nat) t v, Try.f5.params[j]? = some t → args[j]? = some v → Value.okWide Try.prog W .any base t v := hval0
  have hsz : (DataW.weightsEach Try.prog (Try.f5.params.toList ++ Rows.fnRenameInBackSpec.plain.varTypes Try.prog) (ds ++ gs)).all (· ≤ reachBytes) = true := hsz0
  have hW' := hW
  obtain ⟨p, q, hA0, hV, rfl, hfz, hnd⟩ := hW
  have hA : DataW.TrodAll enc Try.prog W 0 (fun _ => true) true Try.f5.params.toList args.toList ds p := hA0
  rw [show Try.f5.params = #[37] from rfl] at hA hval hsz
  obtain ⟨v0, d0, rfl, rfl, h0⟩ := trodAll_one hA
  obtain ⟨rfl, rfl⟩ := trodVars_none hV
  have hw : ∀ m ∈ d0.weights Try.prog 37, m ≤ reachBytes := fun m hm => of_decide_eq_true (List.all_eq_true.1 hsz m (DataW.weights_mem_each (j := 0) (t := 37) rfl rfl m hm))
  obtain ⟨x, hx, hr⟩ := rd_bytes law_u37 law_u5 law_c5 (by rw [law_b5]; decide) (hval 0 37 v0 rfl rfl) h0 hw
  clear hA0 hval0 hsz0
  simp only [List.append_nil] at hW'
  refine (FnOk.raw (FnRenameInBack_fn (fun _ => none) x hx.2 hx.1 fun p b x y h1 h2 => backOk h1 h2) (W := W) (g := g0 W) (args := #[v0]) (fun b hb => hb) rfl ?_).mono fun e W' he => ?_
  · intro j v a hv ha
    match j, hv, ha with
    | 0, hv, ha => simp at hv ha; subst hv; subst ha; exact hr
    | j + 1, hv, ha => simp at hv
  · obtain ⟨rfl, hb⟩ := he
    have hlt : ∀ y ∈ p, y.block < W.heap.size := fun y hy => by simpa using hW'.lt y hy
    refine ⟨_, rfl, [d0], [], p, [], p ++ [], [], hW', trodAll_cons_mk (shut_bool law_bool _) trodAll_mk0, ?_, rfl, hb.frame _, fun h => by cases h⟩
    exact ⟨p, [], hb.trod law_laid (by kernel_rfl) (of_decide_eq_true (by kernel_rfl)) h0 hlt, rfl, rfl⟩

theorem renameInBack_over : Rows.fnRenameInBackRow.holds Try.pinned (OpenSpec.ofChange Rows.fnRenameInBackSpec) :=
  OpenClaim.holds_of_wide 5 Try.f5 rfl rfl rfl rfl rfl rfl rfl ⟨rfl, rfl, rfl, rfl, rfl⟩ rfl rfl rfl rfl rfl (by kernel_rfl) Try.func5 (by kernel_rfl)
    (of_decide_eq_true (by kernel_rfl)) (by unfold Func.isWrapper; first | (rw [if_pos (by decide +kernel)]; kernel_rfl) | (rw [if_neg (by decide +kernel)]; exact ⟨rfl, rfl⟩))
    (fun os started H enc _ => renameInBack_lifted os started H enc)

theorem fnRenameInBack_holds : Rows.FnRenameInBackSaid := renameInBack_over

#print axioms fnRenameInBack_holds
end Go.Proofs.Ytopgafhjmbfaoaa
