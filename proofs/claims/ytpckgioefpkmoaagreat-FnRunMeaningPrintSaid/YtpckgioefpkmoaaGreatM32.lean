/-
  Own texts, joined by mkclaim.py: Qnt.
-/
import Derived.Test.YtpckgioefpkmoaaGreatM26
set_option linter.unusedSimpArgs false
set_option linter.unusedVariables false

section
set_option maxRecDepth 100000
set_option maxHeartbeats 4000000
set_option linter.unusedSimpArgs false
namespace Go.Proofs.YtpckgioefpkmoaaGreat
open Go Go.Hm Go.Proofs
theorem impl_TraceByMeaning_fn (gl) (p : Prg) (f : Int) (hs : Sml p) : FnOk Tryz.prog gl 29 [pav p, iv f] (fun r y H' => y = .hs r 2 0 (trcG p f).length ∧ H' r = some (.row 2 (nrows (trcG p f)))) := by
  refine FnOk.of_sem Tryz.func29 rfl (by kernel_rfl) (rs := [.tmp 4]) rfl Tryz.ntmps29 (Nat.le_of_ble_eq_true rfl) fun C w g root => ?_
  cases hv0 : progOk p
  · have hv : fuelOk p f = false := by simp [fuelOk, hv0]
    have fx :=  hv0
    have c1 := hv0 ▸ impl_ValidProgram_fn gl p hs
    refine k_run ?_
    clear fx c1
    refine e_ret [(.s 4, root)] (.one rfl) (by simp; rfl) (by simp [trcG, hv])
  cases hv : fuelOk p f
  · have hf : (decide (0 ≤ f) && decide (f ≤ 150)) = false := by simpa [fuelOk, hv0] using hv
    have fx := And.intro hv0 <| hf
    have c1 := hv0 ▸ impl_ValidProgram_fn gl p hs
    have c2 := hf ▸ isFuel_fn gl f
    refine k_run ?_
    clear fx c1 c2
    refine e_ret [(.s 4, root)] (.one rfl) (by simp; rfl) (by simp [trcG, hv])
  · obtain ⟨hpo, n, rfl, hn⟩ := fuelOk_of hv
    have hP := ValP.of hs hpo
    have hf : (decide (0 ≤ (n : Int)) && decide ((n : Int) ≤ 150)) = true := by simpa [fuelOk, hv0] using hv
    have hm := meantOk hP.sh hn
    have hol := hm.tr
    have hol' : (meantW p n).trace.length ≤ 1000 := by omega
    have hG : trcG p n = (meantW p n).trace := by simp [trcG, hv]
    rw [hG]
    have fx := And.intro hv0 <| hf
    have c1 := hv0 ▸ impl_ValidProgram_fn gl p hs
    have c2 := hf ▸ isFuel_fn gl n
    refine k_run ?_
    clear fx c1 c2
    intro K hK
    have fx := fx0
    refine o_mvPost (.c Mn 0 5) (.s 15) (.inl rfl) (.inl rfl) ?_
    refine x_mutM (fun k i j he => by simp [ctx0, noH] at he) (hF := meaningOf_fn gl _ p n hP hn (by simp [noH])) (h := ?_)
    rintro y H1 ⟨rfl, hO1⟩
    clear fx
    have hT1 := hO1.top
    have hU1 := hO1.trc
    simp only [mRow] at hT1
    have fx := And.intro hT1 <| And.intro hU1 <| hol'
    refine k_run ?_
    clear fx
    refine e_ret [(.s 4, root)] (.one rfl) (by simp; rfl) ⟨by simp, by simp [hU1]⟩
end Go.Proofs.YtpckgioefpkmoaaGreat
end
