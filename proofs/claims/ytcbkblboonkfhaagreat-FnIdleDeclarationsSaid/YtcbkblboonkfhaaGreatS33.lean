/-
  Own texts, joined by mkclaim.py: Rg.
-/
import Derived.Test.YtcbkblboonkfhaaGreatS24
import Derived.Test.YtcbkblboonkfhaaGreatS13
set_option linter.unusedSimpArgs false
set_option linter.unusedVariables false
set_option maxRecDepth 100000
set_option maxHeartbeats 4000000

section
namespace Go.Proofs.YtcbkblboonkfhaaGreat
open Go Go.Hm Go.Proofs
attribute [local simp] slcAV rowsIn
theorem DrawIdleDeclarations_fn (gl) (code : List Int) (hc : CodeOk code) : FnOk Tryz.prog gl 19 [bsl code] (fun r z H' => ∃ (p : Prg), z = .agg [.hs r 4 0 p.length] ∧ OwnP H' r p ∧ Sml p) := by
  have hb := hc.bytes
  refine FnOk.of_sem Tryz.func19 rfl (by kernel_rfl) (rs := [.cell 2 29]) rfl Tryz.ntmps19 (Nat.le_of_ble_eq_true rfl) fun C w g root => ?_
  have fx := fx0
  refine k_run ?_
  clear fx
  intro K hK
  refine x_own (ha := by simp) (hF := newReader_fn _ code hc.len) (h := ?_)
  rintro z H1 ⟨rfl, hR⟩
  have fx :=  hR
  refine k_run ?_
  clear fx
  refine o_mv (.s 4) (.u 1 0 0) (.inl rfl) (.inr rfl) ?_
  refine x_rdo (bs := code.take 2000) (hs := by simp [hR]) (ha := by first | (simp; done) | (simp; rfl)) (hF := anyProgram_fn _ _ (code.take 2000) 0 hb (by omega) (by simp [hR]) (by simp) (by simp) (by simp)) (h := ?_)
  rintro z H2 ⟨p, q, rfl, ⟨ho1, ho2, ho3⟩, ⟨hs, hpl, hq⟩, hU⟩
  refine ⟨q, hU, ?_⟩
  have fx :=  ho1
  refine k_run ?_
  clear fx
  refine e_ret [(.c (.s 2) 0 0, root)] (.one rfl) (by simp; rfl) ⟨p, by simp, ⟨?_, fun j r hj => ?_, fun j r hj => ?_⟩, hs⟩
  · simp [ho1, pRows_tr (n := .c (.s 2) 0 0) (m := root) (f := finf noD [(.c (.s 2) 0 0, root)]) (p := p) (by simp)]
  · simp [ho2 j r hj]
  · simp [ho3 j r hj]
theorem DrawLeanProgram_fn (gl) (code : List Int) (hc : CodeOk code) : FnOk Tryz.prog gl 23 [bsl code] (fun r z H' => ∃ (p : Prg), z = .agg [.hs r 4 0 p.length] ∧ OwnP H' r p ∧ Sml p) := by
  have hb := hc.bytes
  refine FnOk.of_sem Tryz.func23 rfl (by kernel_rfl) (rs := [.cell 2 29]) rfl Tryz.ntmps23 (Nat.le_of_ble_eq_true rfl) fun C w g root => ?_
  have fx := fx0
  refine k_run ?_
  clear fx
  intro K hK
  refine x_own (ha := by simp) (hF := newReader_fn _ code hc.len) (h := ?_)
  rintro z H1 ⟨rfl, hR⟩
  have fx :=  hR
  refine k_run ?_
  clear fx
  refine o_mv (.s 4) (.u 1 0 0) (.inl rfl) (.inr rfl) ?_
  refine x_rdo (bs := code.take 2000) (hs := by simp [hR]) (ha := by first | (simp; done) | (simp; rfl)) (hF := anyProgram_fn _ _ (code.take 2000) 0 hb (by omega) (by simp [hR]) (by simp) (by simp) (by simp)) (h := ?_)
  rintro z H2 ⟨p, q, rfl, ⟨ho1, ho2, ho3⟩, ⟨hs, hpl, hq⟩, hU⟩
  refine ⟨q, hU, ?_⟩
  have fx :=  ho1
  refine k_run ?_
  clear fx
  refine e_ret [(.c (.s 2) 0 0, root)] (.one rfl) (by simp; rfl) ⟨p, by simp, ⟨?_, fun j r hj => ?_, fun j r hj => ?_⟩, hs⟩
  · simp [ho1, pRows_tr (n := .c (.s 2) 0 0) (m := root) (f := finf noD [(.c (.s 2) 0 0, root)]) (p := p) (by simp)]
  · simp [ho2 j r hj]
  · simp [ho3 j r hj]
theorem DrawFullProgram_fn (gl) (code : List Int) (hc : CodeOk code) : FnOk Tryz.prog gl 28 [bsl code] (fun r z H' => ∃ (p : Prg), z = .agg [.hs r 4 0 p.length] ∧ OwnP H' r p ∧ Sml p) := by
  have hb := hc.bytes
  refine FnOk.of_sem Tryz.func28 rfl (by kernel_rfl) (rs := [.cell 2 29]) rfl Tryz.ntmps28 (Nat.le_of_ble_eq_true rfl) fun C w g root => ?_
  have fx := fx0
  refine k_run ?_
  clear fx
  intro K hK
  refine x_own (ha := by simp) (hF := newReader_fn _ code hc.len) (h := ?_)
  rintro z H1 ⟨rfl, hR⟩
  have fx :=  hR
  refine k_run ?_
  clear fx
  refine o_mv (.s 4) (.u 1 0 0) (.inl rfl) (.inr rfl) ?_
  refine x_rdo (bs := code.take 2000) (hs := by simp [hR]) (ha := by first | (simp; done) | (simp; rfl)) (hF := anyProgram_fn _ _ (code.take 2000) 0 hb (by omega) (by simp [hR]) (by simp) (by simp) (by simp)) (h := ?_)
  rintro z H2 ⟨p, q, rfl, ⟨ho1, ho2, ho3⟩, ⟨hs, hpl, hq⟩, hU⟩
  refine ⟨q, hU, ?_⟩
  have fx :=  ho1
  refine k_run ?_
  clear fx
  refine e_ret [(.c (.s 2) 0 0, root)] (.one rfl) (by simp; rfl) ⟨p, by simp, ⟨?_, fun j r hj => ?_, fun j r hj => ?_⟩, hs⟩
  · simp [ho1, pRows_tr (n := .c (.s 2) 0 0) (m := root) (f := finf noD [(.c (.s 2) 0 0, root)]) (p := p) (by simp)]
  · simp [ho2 j r hj]
  · simp [ho3 j r hj]
end Go.Proofs.YtcbkblboonkfhaaGreat
end
