/-
  Own texts, joined by mkclaim.py: Phs, Qns, Sa.
-/
import Derived.Test.YtpckgioefpkmoaaGreatE21
import Derived.Test.YtpckgioefpkmoaaGreatE27
import Derived.Test.YtpckgioefpkmoaaGreatE29
set_option linter.unusedSimpArgs false
set_option linter.unusedVariables false

section
set_option maxRecDepth 100000
set_option maxHeartbeats 4000000
set_option linter.unusedSimpArgs false
namespace Go.Proofs.YtpckgioefpkmoaaGreat
open Go Go.Hm Go.Proofs
theorem spec_StepsOf_fn (gl) (p : Prg) (hs : Sml p) : FnOk Tryz.prog gl 16 [pav p] (fun _ y _ => y = iv (stepsG p)) := by
  refine FnOk.of_sem Tryz.func16 rfl (by kernel_rfl) (rs := [.tmp 2]) rfl Tryz.ntmps16 (Nat.le_of_ble_eq_true rfl) fun C w g root => ?_
  cases hv : progOk p
  · skip
    have fx :=  hv
    have c1 := hv ▸ validProgram_fn gl p hs
    refine k_run ?_
    clear fx c1
    refine e_ret [] .nil (by simp; rfl) (by simp [stepsG, hv])
  · have hP := ValP.of hs hv
    have hm := meantOk hP.sh (f := 150) (by omega)
    have hml := hm.left
    have fx :=  hv
    have c1 := hv ▸ validProgram_fn gl p hs
    refine k_run ?_
    clear fx c1
    intro K hK
    have fx := fx0
    refine x_mut Wn rfl (by simp [ctx0, noH]) (hF := meant_fn gl _ p 150 hP (by omega) (by simp [noH])) (h := ?_)
    rintro y H1 ⟨rfl, hO1⟩
    clear fx
    have hT1 := hO1.top
    simp only [wRow] at hT1
    have hw : IntKind.i64.wrap (150 - ((meantW p 150).left : Int)) = 150 - ((meantW p 150).left : Int) := wrp (by omega) (by omega)
    have fx := And.intro hT1 <| hw
    refine k_run ?_
    clear fx
    refine e_ret [] .nil (by simp; rfl) (by simp [stepsG, hv])
end Go.Proofs.YtpckgioefpkmoaaGreat
end

section
set_option maxRecDepth 100000
set_option maxHeartbeats 4000000
set_option linter.unusedSimpArgs false
namespace Go.Proofs.YtpckgioefpkmoaaGreat
open Go Go.Hm Go.Proofs
theorem impl_StepsOf_fn (gl) (p : Prg) (hs : Sml p) : FnOk Tryz.prog gl 18 [pav p] (fun _ y _ => y = iv (stepsG p)) := by
  refine FnOk.of_sem Tryz.func18 rfl (by kernel_rfl) (rs := [.tmp 2]) rfl Tryz.ntmps18 (Nat.le_of_ble_eq_true rfl) fun C w g root => ?_
  cases hv : progOk p
  · skip
    have fx :=  hv
    have c1 := hv ▸ impl_ValidProgram_fn gl p hs
    refine k_run ?_
    clear fx c1
    refine e_ret [] .nil (by simp; rfl) (by simp [stepsG, hv])
  · have hP := ValP.of hs hv
    have hm := meantOk hP.sh (Nat.le_refl 150)
    have hml := hm.left
    have fx :=  hv
    have c1 := hv ▸ impl_ValidProgram_fn gl p hs
    refine k_run ?_
    clear fx c1
    intro K hK
    have fx := fx0
    refine x_mutM (fun k i j he => by simp [ctx0, noH] at he) (hF := meaningOf_fn gl _ p 150 hP (by omega) (by simp [noH])) (h := ?_)
    rintro y H1 ⟨rfl, hO1⟩
    clear fx
    have hT1 := hO1.top
    simp only [mRow] at hT1
    have hw : IntKind.i64.wrap (150 - ((meantW p 150).left : Int)) = 150 - ((meantW p 150).left : Int) := wrp (by omega) (by omega)
    have fx := And.intro hT1 <| hw
    refine k_run ?_
    clear fx
    refine e_ret [] .nil (by simp; rfl) (by simp [stepsG, hv])
end Go.Proofs.YtpckgioefpkmoaaGreat
end

section
set_option maxRecDepth 100000
set_option maxHeartbeats 4000000
set_option linter.unusedSimpArgs false
namespace Go.Proofs.YtpckgioefpkmoaaGreat
open Go Go.Hm Go.Proofs
theorem FnExactStepsOf_fn (gl : Nat → Option (List AV)) (p : Prg) (hb : Big p) : FnOk Tryz.prog gl 3 [pav p] (fun _ y _ => y = bv true) := by
  refine FnOk.of_sem Tryz.func3 rfl (by kernel_rfl) (rs := [.tmp 2]) rfl Tryz.ntmps3 (Nat.le_of_ble_eq_true rfl) fun C w g root => ?_
  by_cases ht : tot p ≤ 1048576
  case neg =>
    have fx :=  ht
    have c1 := szProgram_fn gl p hb
    refine k_run ?_
    repeat ((first | refine w_sch (id := 10) (.q 0 <| .q 1 <| .l 2 [0] <| .l 3 [] <| .q 4 <| .done) mixed (by kernel_rfl) (by kernel_rfl) ?_); refine k_rund ?_; refine k_run ?_)
    clear fx c1
    refine e_ret [] .nil (by simp; rfl) (by simp)
  have hs := tot_sml ht
  have hge : ¬ 1048576 - (tot p : Int) < 0 := by omega
  have hsa := spec_StepsOf_fn gl p hs
  have hia := impl_StepsOf_fn gl p hs
  generalize stepsG p = v at hsa hia
  have fx := And.intro ht <| hge
  have c1 := szProgram_fn gl p hb
  have e1 := toProgram_fn gl p hs
  refine k_run ?_
  repeat ((first | refine w_sch (id := 10) (.q 0 <| .q 1 <| .l 2 [0] <| .l 3 [] <| .q 4 <| .done) mixed (by kernel_rfl) (by kernel_rfl) ?_); refine k_rund ?_; refine k_run ?_)
  clear fx c1 e1
  rintro K hK y H1 ⟨rfl, hO⟩
  obtain ⟨ho1, ho2, ho3⟩ := hO.hcln
  refine ⟨by simp, ?_⟩
  have fx := And.intro ht <| hge
  have c1 := hsa
  refine k_run ?_
  repeat ((first | refine w_sch (id := 10) (.q 0 <| .q 1 <| .l 2 [0] <| .l 3 [] <| .q 4 <| .done) mixed (by kernel_rfl) (by kernel_rfl) ?_); refine k_rund ?_; refine k_run ?_)
  clear fx c1
  intro K hK
  refine o_abs (fun st => st.tm 1 = .pt (.s 1) 0 ∧ st.hp (.s 1) = some (.row 1 [[ksl p]]) ∧ st.tm 4 = iv v ∧ st.tm 15 = pav p) ⟨by simp, by simp, by simp, by simp⟩ ?_
  clear hO ho1 ho2 ho3
  rintro st ⟨h3, hp3, h8, h21⟩
  have fx := And.intro h3 <| And.intro hp3 <| And.intro h8 <| h21
  have e1 := toProgram_fn gl p hs
  refine k_run ?_
  repeat ((first | refine w_sch (id := 10) (.q 0 <| .q 1 <| .l 2 [0] <| .l 3 [] <| .q 4 <| .done) mixed (by kernel_rfl) (by kernel_rfl) ?_); refine k_rund ?_; refine k_run ?_)
  clear fx e1
  rintro y H2 ⟨rfl, hO⟩
  obtain ⟨b1, b2, b3⟩ := hO.hcln
  refine ⟨by simp, ?_⟩
  have fx := And.intro h3 <| And.intro hp3 <| And.intro h8 <| And.intro b1 <| @bne_def
  have c1 := hia
  have e1 := toProgram_fn gl p hs
  refine k_run ?_
  repeat ((first | refine w_sch (id := 10) (.q 0 <| .q 1 <| .l 2 [0] <| .l 3 [] <| .q 4 <| .done) mixed (by kernel_rfl) (by kernel_rfl) ?_); refine k_rund ?_; refine k_run ?_)
  clear fx c1 e1
  rintro K hK y H3 ⟨rfl, hO3⟩
  obtain ⟨ho1, ho2, ho3⟩ := hO3.hcln
  refine ⟨by simp, ?_⟩
  have fx := And.intro h3 <| And.intro hp3 <| And.intro b1 <| ho1
  have c1 := eqProgram_fn gl p p hs hs
  refine k_run ?_
  repeat ((first | refine w_sch (id := 10) (.q 0 <| .q 1 <| .l 2 [0] <| .l 3 [] <| .q 4 <| .done) mixed (by kernel_rfl) (by kernel_rfl) ?_); refine k_rund ?_; refine k_run ?_)
  clear fx c1
  refine e_ret [] .nil (by simp; rfl) (by simp)
end Go.Proofs.YtpckgioefpkmoaaGreat
end
