/-
  Own texts, joined by mkclaim.py: Phs, Qns, So.
-/
import Derived.Test.YtpckgioefpkmoaaGreatM20
import Derived.Test.YtpckgioefpkmoaaGreatM26
import Derived.Test.YtpckgioefpkmoaaGreatM31
import Derived.Test.YtpckgioefpkmoaaGreatM32
import Derived.Test.YtpckgioefpkmoaaGreatM30
set_option linter.unusedSimpArgs false
set_option linter.unusedVariables false

section
set_option maxRecDepth 100000
set_option maxHeartbeats 4000000
set_option linter.unusedSimpArgs false
namespace Go.Proofs.YtpckgioefpkmoaaGreat
open Go Go.Hm Go.Proofs
theorem spec_StepsOf_fn (gl) (p : Prg) (hs : Sml p) : FnOk Tryz.prog gl 16 [pav p] (fun _ y _ => y = iv (stepsG p)) := by
  refine FnOk.of_sem Tryz.func16 rfl (by kernel_rfl) (rs := [.tmp 2]) rfl Tryz.ntmps16 (Nat.le_of_ble_eq_true rfl) fun C w g root => ?_
  cases hv : progOk p
  · skip
    have fx :=  hv
    have c1 := hv ▸ validProgram_fn gl p hs
    refine k_run ?_
    clear fx c1
    refine e_ret [] .nil (by simp; rfl) (by simp [stepsG, hv])
  · have hP := ValP.of hs hv
    have hm := meantOk hP.sh (f := 150) (by omega)
    have hml := hm.left
    have fx :=  hv
    have c1 := hv ▸ validProgram_fn gl p hs
    refine k_run ?_
    clear fx c1
    intro K hK
    have fx := fx0
    refine x_mut Wn rfl (by simp [ctx0, noH]) (hF := meant_fn gl _ p 150 hP (by omega) (by simp [noH])) (h := ?_)
    rintro y H1 ⟨rfl, hO1⟩
    clear fx
    have hT1 := hO1.top
    simp only [wRow] at hT1
    have hw : IntKind.i64.wrap (150 - ((meantW p 150).left : Int)) = 150 - ((meantW p 150).left : Int) := wrp (by omega) (by omega)
    have fx := And.intro hT1 <| hw
    refine k_run ?_
    clear fx
    refine e_ret [] .nil (by simp; rfl) (by simp [stepsG, hv])
end Go.Proofs.YtpckgioefpkmoaaGreat
end

section
set_option maxRecDepth 100000
set_option maxHeartbeats 4000000
set_option linter.unusedSimpArgs false
namespace Go.Proofs.YtpckgioefpkmoaaGreat
open Go Go.Hm Go.Proofs
theorem impl_StepsOf_fn (gl) (p : Prg) (hs : Sml p) : FnOk Tryz.prog gl 18 [pav p] (fun _ y _ => y = iv (stepsG p)) := by
  refine FnOk.of_sem Tryz.func18 rfl (by kernel_rfl) (rs := [.tmp 2]) rfl Tryz.ntmps18 (Nat.le_of_ble_eq_true rfl) fun C w g root => ?_
  cases hv : progOk p
  · skip
    have fx :=  hv
    have c1 := hv ▸ impl_ValidProgram_fn gl p hs
    refine k_run ?_
    clear fx c1
    refine e_ret [] .nil (by simp; rfl) (by simp [stepsG, hv])
  · have hP := ValP.of hs hv
    have hm := meantOk hP.sh (Nat.le_refl 150)
    have hml := hm.left
    have fx :=  hv
    have c1 := hv ▸ impl_ValidProgram_fn gl p hs
    refine k_run ?_
    clear fx c1
    intro K hK
    have fx := fx0
    refine x_mutM (fun k i j he => by simp [ctx0, noH] at he) (hF := meaningOf_fn gl _ p 150 hP (by omega) (by simp [noH])) (h := ?_)
    rintro y H1 ⟨rfl, hO1⟩
    clear fx
    have hT1 := hO1.top
    simp only [mRow] at hT1
    have hw : IntKind.i64.wrap (150 - ((meantW p 150).left : Int)) = 150 - ((meantW p 150).left : Int) := wrp (by omega) (by omega)
    have fx := And.intro hT1 <| hw
    refine k_run ?_
    clear fx
    refine e_ret [] .nil (by simp; rfl) (by simp [stepsG, hv])
end Go.Proofs.YtpckgioefpkmoaaGreat
end

section
set_option maxRecDepth 100000
set_option maxHeartbeats 4000000
set_option linter.unusedSimpArgs false
namespace Go.Proofs.YtpckgioefpkmoaaGreat
open Go Go.Hm Go.Proofs
theorem FnStepsOf_fn (gl : Nat → Option (List AV)) (code : List Int) (hcode : ∀ v ∈ code, 0 ≤ v ∧ v ≤ 255) (hbig : code.length ≤ 1152921504606846976) :
    FnOk Tryz.prog gl 9 [bsl code] (fun _ z _ => z = bv true) := by
  refine FnOk.of_sem Tryz.func9 rfl (by kernel_rfl) (rs := [.tmp 2]) rfl Tryz.ntmps9 (Nat.le_of_ble_eq_true rfl) fun C w g root => ?_
  by_cases hlen : 1048576 < code.length
  · have hl1 : (1048576 : Int) < code.length := by omega
    have fx :=  hl1
    refine k_run ?_
    clear fx
    refine e_ret [] .nil (by simp; rfl) (by simp)
  have hl1 : ¬ (1048576 : Int) < code.length := by omega
  have hc : CodeOk code := ⟨by omega, hcode⟩
  have fx :=  hl1
  have e1 := DrawStepsOf_fn gl code hc
  refine k_run ?_
  clear fx e1
  rintro K hK z H1 ⟨p, rfl, hO, hs⟩
  obtain ⟨ho1, ho2, ho3⟩ := hO.hcln
  refine ⟨by simp, ?_⟩
  have hpl := hs.len
  have fx :=  ho1
  refine k_run ?_
  clear fx
  intro K hK
  refine o_abs (fun st => BoxP st 3 p ∧ st.tm 12 = .agg [.hs (.c (.s 3) 0 0) 4 0 p.length]) ⟨⟨by simp, by simp, ⟨by simp [ho1], fun j r hj => by simp [ho2 j r hj], fun j r hj => by simp [ho3 j r hj]⟩⟩, by simp⟩ ?_
  clear hO ho1 ho2 ho3
  rintro st ⟨⟨h3, hp3, ⟨a1, a2, a3⟩⟩, h12⟩
  have his := impl_StepsOf_fn gl p hs
  have hss := spec_StepsOf_fn gl p hs
  cases hv : progOk p
  · have e1 : stepsG p = -1 := by simp [stepsG, hv]
    rw [e1] at his hss
    have fx := And.intro h3 <| And.intro hp3 <| And.intro h12 <| @bne_def
    have c1 := his
    have c2 := hss
    refine k_run ?_
    clear fx c1 c2
    refine e_ret [] .nil (by simp; rfl) (by simp)
  have hv2 : fuelOk p 150 = true := by simp [fuelOk, hv]
  obtain ⟨n, hn', hn, hP, hm⟩ := fuel_run hs hv2
  obtain rfl : n = 150 := by omega
  have hlf := hm.left
  have htr := hm.tr
  have hv3 : fuelOk p ((150 - (meantW p 150).left : Nat) : Int) = true := by
    simp only [fuelOk, hv, Bool.true_and, Bool.and_eq_true, decide_eq_true_eq]
    omega
  have e1 : stepsG p = ((150 - (meantW p 150).left : Nat) : Int) := by simp only [stepsG, hv, if_true]; omega
  have e2 : resG p 150 = resW (meantW p 150) := by simp [resG, hv2]
  have e3 : resG p ((150 - (meantW p 150).left : Nat) : Int) = resW (meantW p (150 - (meantW p 150).left)) := by simp only [resG, hv3, if_true, Int.toNat_natCast]
  have e4 : trcG p 150 = (meantW p 150).trace := by simp [trcG, hv2]
  have hj := run_just (p := p) (by omega) (fun f hf => (meantOk hP hf).tr)
  have hn1 := meant_left0 (p := p) (f := 150) (Nat.le_refl _)
  have hia := impl_RunMeaning_fn gl p 150 hs
  have hib := impl_RunMeaning_fn gl p ((150 - (meantW p 150).left : Nat) : Int) hs
  have hit := impl_TraceByMeaning_fn gl p 150 hs
  rw [e1] at his hss
  rw [e2] at hia
  rw [e3] at hib
  rw [e4] at hit
  have htl : (meantW p 150).trace.length = 150 - (meantW p 150).left := by omega
  rw [← htl] at his hss hib
  have hj' : (resW (meantW p 150)).en ≠ 1 → (resW (meantW p (150 - (meantW p 150).left))).en = (resW (meantW p 150)).en ∧ (resW (meantW p (150 - (meantW p 150).left))).left = 0 := fun e => ⟨(hj e).1, by have := (hj e).2; simp only [resW]; omega⟩
  rw [← htl] at hj'
  have hn' : (resW (meantW p 150)).en = 1 → (meantW p 150).trace.length = 150 := fun e => by have := hn1 e; omega
  have hTl : (meantW p 150).trace.length ≤ 150 := by omega
  clear e1 e2 e3 e4 hv hv2 hv3 hm htr hj hn1 htl hlf
  generalize resW (meantW p (meantW p 150).trace.length) = R2 at *
  generalize resW (meantW p 150) = R1 at *
  generalize (meantW p 150).trace = T at *
  have g0 : ¬ (T.length : Int) < 0 := by omega
  have fx := And.intro h3 <| And.intro hp3 <| And.intro h12 <| And.intro @bne_def <| g0
  have c1 := his
  have c2 := hss
  have e1 := hia
  refine k_run ?_
  clear fx c1 c2 e1
  rintro K hK y H1 ⟨rfl, hR1⟩
  refine ⟨by simp, ?_⟩
  have fx := And.intro h3 <| And.intro hp3 <| And.intro @bne_def <| g0
  have e1 := hib
  refine k_run ?_
  clear fx e1
  rintro K hK y H2 ⟨rfl, hR2⟩
  refine ⟨by simp, ?_⟩
  by_cases he : R1.en = 1
  · have he' : (R1.en == 1) = true := by simpa using he
    have hs' : ((T.length : Int) == 150) = true := by have := hn' he; simp only [beq_iff_eq]; omega
    have fx := And.intro h3 <| And.intro hp3 <| And.intro @bne_def <| And.intro he' <| hs'
    have d1 := hit
    refine k_run ?_
    clear fx d1
    refine e_ret [] .nil (by simp; rfl) (by simp)
  · have he' : (R1.en == 1) = false := by simpa using he
    obtain ⟨j1, j2⟩ := hj' he
    have fx := And.intro h3 <| And.intro hp3 <| And.intro @bne_def <| And.intro he' <| And.intro j1 <| j2
    have d1 := hit
    refine k_run ?_
    clear fx d1
    refine e_ret [] .nil (by simp; rfl) (by simp)
end Go.Proofs.YtpckgioefpkmoaaGreat
end
