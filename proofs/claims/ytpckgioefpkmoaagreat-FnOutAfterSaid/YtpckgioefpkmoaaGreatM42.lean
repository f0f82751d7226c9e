/-
  Own texts, joined by mkclaim.py: Pho, Qp, Sr.
-/
import Derived.Test.YtpckgioefpkmoaaGreatM20
import Derived.Test.YtpckgioefpkmoaaGreatM31
import Derived.Test.YtpckgioefpkmoaaGreatM30
set_option linter.unusedSimpArgs false
set_option linter.unusedVariables false

section
set_option maxRecDepth 100000
set_option maxHeartbeats 4000000
set_option linter.unusedSimpArgs false
namespace Go.Proofs.YtpckgioefpkmoaaGreat
open Go Go.Hm Go.Proofs
theorem spec_OutAfter_fn (gl) (p : Prg) (f : Int) (hs : Sml p) : FnOk Tryz.prog gl 22 [pav p, iv f] (fun r y H' => y = .hs r 1 0 (outG p f).length ∧ H' r = some (.row 1 (irows (outG p f)))) := by
  refine FnOk.of_sem Tryz.func22 rfl (by kernel_rfl) (rs := [.tmp 4]) rfl Tryz.ntmps22 (Nat.le_of_ble_eq_true rfl) fun C w g root => ?_
  cases hv : fuelOk p f
  · skip
    have fx :=  hv
    have c1 := hv ▸ validFuel_fn gl p f hs
    refine k_run ?_
    clear fx c1
    refine e_ret [(.s 4, root)] (.one rfl) (by simp; rfl) (by simp [outG, hv])
  · obtain ⟨hpo, n, rfl, hn⟩ := fuelOk_of hv
    have hP := ValP.of hs hpo
    have hm := meantOk hP.sh hn
    have hol := hm.ok.nout
    have hol' : (meantW p n).out.length ≤ 1000 := by omega
    have hG : outG p n = (meantW p n).out := by simp [outG, hv]
    rw [hG]
    have fx :=  hv
    have c1 := hv ▸ validFuel_fn gl p n hs
    refine k_run ?_
    clear fx c1
    intro K hK
    have fx := fx0
    refine x_mut Wn rfl (by simp [ctx0, noH]) (hF := meant_fn gl _ p n hP hn (by simp [noH])) (h := ?_)
    rintro y H1 ⟨rfl, hO1⟩
    clear fx
    have hT1 := hO1.top
    have hU1 := hO1.out
    simp only [wRow] at hT1
    have fx := And.intro hT1 <| And.intro hU1 <| hol'
    refine k_run ?_
    clear fx
    refine e_ret [(.s 4, root)] (.one rfl) (by simp; rfl) ⟨by simp, by simp⟩
end Go.Proofs.YtpckgioefpkmoaaGreat
end

section
set_option maxRecDepth 100000
set_option maxHeartbeats 4000000
set_option linter.unusedSimpArgs false
namespace Go.Proofs.YtpckgioefpkmoaaGreat
open Go Go.Hm Go.Proofs
theorem impl_OutAfter_fn (gl) (p : Prg) (f : Int) (hs : Sml p) : FnOk Tryz.prog gl 23 [pav p, iv f] (fun r y H' => y = .hs r 1 0 (outG p f).length ∧ H' r = some (.row 1 (irows (outG p f)))) := by
  have hG : outG p f = (resG p f).out := by
    unfold outG resG
    split <;> simp [resW]
  rw [hG]
  refine FnOk.of_sem Tryz.func23 rfl (by kernel_rfl) (rs := [.tmp 4]) rfl Tryz.ntmps23 (Nat.le_of_ble_eq_true rfl) fun C w g root => ?_
  have fx := fx0
  have e1 := impl_RunMeaning_fn gl p f hs
  refine k_run ?_
  clear fx e1
  intro K hK
  rintro y H' ⟨rfl, hR⟩
  have r1 := hcln_row hR.out (by simp [irows])
  have r2 := hcln_row hR.gl (by simp [irows])
  try refine ⟨by simp, ?_⟩
  have fx := And.intro r1 <| r2
  refine k_run ?_
  clear fx
  refine e_ret [(.c (.s 7) 0 0, root)] (.one rfl) (by simp; rfl) ⟨by simp, by simp [r1]⟩
end Go.Proofs.YtpckgioefpkmoaaGreat
end

section
set_option maxRecDepth 100000
set_option maxHeartbeats 4000000
set_option linter.unusedSimpArgs false
namespace Go.Proofs.YtpckgioefpkmoaaGreat
open Go Go.Hm Go.Proofs
theorem FnOutAfter_fn (gl : Nat → Option (List AV)) (code : List Int) (hcode : ∀ v ∈ code, 0 ≤ v ∧ v ≤ 255) (hbig : code.length ≤ 1152921504606846976) :
    FnOk Tryz.prog gl 11 [bsl code] (fun _ z _ => z = bv true) := by
  refine FnOk.of_sem Tryz.func11 rfl (by kernel_rfl) (rs := [.tmp 2]) rfl Tryz.ntmps11 (Nat.le_of_ble_eq_true rfl) fun C w g root => ?_
  by_cases hlen : 1048576 < code.length
  · have hl1 : (1048576 : Int) < code.length := by omega
    have fx :=  hl1
    refine k_run ?_
    clear fx
    refine e_ret [] .nil (by simp; rfl) (by simp)
  have hl1 : ¬ (1048576 : Int) < code.length := by omega
  have hc : CodeOk code := ⟨by omega, hcode⟩
  have fx :=  hl1
  have e1 := DrawOutAfter_fn gl code hc
  refine k_run ?_
  clear fx e1
  rintro K hK z H1 ⟨p, f, rfl, hO, hs⟩
  obtain ⟨ho1, ho2, ho3⟩ := hO.hcln
  refine ⟨by simp, ?_⟩
  have hpl := hs.len
  have fx :=  ho1
  refine k_run ?_
  clear fx
  intro K hK
  refine o_abs (fun st => BoxP st 3 p ∧ st.tm 4 = iv f ∧ st.tm 15 = .agg [.hs (.c (.s 3) 0 0) 4 0 p.length] ∧ st.tm 16 = iv f) ⟨⟨by simp, by simp, ⟨by simp [ho1], fun j r hj => by simp [ho2 j r hj], fun j r hj => by simp [ho3 j r hj]⟩⟩, by simp, by simp, by simp⟩ ?_
  clear hO ho1 ho2 ho3
  rintro st ⟨⟨h3, hp3, ⟨a1, a2, a3⟩⟩, h4, h15, h16⟩
  have hio := impl_OutAfter_fn gl p f hs
  have hso := spec_OutAfter_fn gl p f hs
  have hvp := impl_ValidProgram_fn gl p hs
  have hll := outG_len (f := f) hs
  have heq := equalInts_fn gl (outG p f) (outG p f) (by omega) (by omega)
  simp only [decide_true] at heq
  by_cases hv : fuelOk p f = true ∧ f < 150
  case neg =>
    generalize outG p f = L at *
    cases hv0 : progOk p
    · rw [hv0] at hvp
      have fx := And.intro h3 <| And.intro hp3 <| And.intro h4 <| And.intro h15 <| And.intro h16 <| @bne_def
      have c1 := heq
      have c2 := hvp
      have d1 := hio
      have d2 := hso
      refine k_run ?_
      clear fx c1 c2 d1 d2
      refine e_ret [] .nil (by simp; rfl) (by simp)
    rw [hv0] at hvp
    by_cases hf0 : f < 0
    · skip
      have fx := And.intro h3 <| And.intro hp3 <| And.intro h4 <| And.intro h15 <| And.intro h16 <| And.intro @bne_def <| hf0
      have c1 := heq
      have c2 := hvp
      have d1 := hio
      have d2 := hso
      refine k_run ?_
      clear fx c1 c2 d1 d2
      refine e_ret [] .nil (by simp; rfl) (by simp)
    have hf1 : 150 ≤ f := by
      simp only [fuelOk, hv0, Bool.true_and, Bool.and_eq_true, decide_eq_true_eq] at hv
      omega
    have hf2 : ¬ f < 150 := by omega
    have fx := And.intro h3 <| And.intro hp3 <| And.intro h4 <| And.intro h15 <| And.intro h16 <| And.intro @bne_def <| And.intro hf0 <| And.intro hf1 <| hf2
    have c1 := heq
    have c2 := hvp
    have d1 := hio
    have d2 := hso
    refine k_run ?_
    clear fx c1 c2 d1 d2
    refine e_ret [] .nil (by simp; rfl) (by simp)
  obtain ⟨hv, hf⟩ := hv
  obtain ⟨n, rfl, hn, hP, hm⟩ := fuel_run hs hv
  have hv0 : progOk p = true := (fuelOk_of hv).1
  rw [hv0] at hvp
  have hv1 : fuelOk p ((n + 1 : Nat) : Int) = true := by
    simp only [fuelOk, hv0, Bool.true_and, Bool.and_eq_true, decide_eq_true_eq]
    omega
  have hm1 := meantOk hP (f := n + 1) (by omega)
  have hmo := run_more (p := p) (f := n) (g := n + 1) (by omega) (by omega)
  rw [show n + 1 - n = 1 by omega] at hmo
  have h1 := out_one hm hm1 hmo
  have hpr := hmo.out
  have hx1 := hm1.ok.nout
  have e1 : outG p n = (meantW p n).out := by simp [outG, hv]
  have e2 : outG p ((n + 1 : Nat) : Int) = (meantW p (n + 1)).out := by simp only [outG, hv1, if_true, Int.toNat_natCast]
  have e3 : (resG p n).out = (meantW p n).out := by simp [resG, hv, resW]
  have hio1 := impl_OutAfter_fn gl p ((n + 1 : Nat) : Int) hs
  have hir := impl_RunMeaning_fn gl p n hs
  have hbg := begins_fn gl _ _ hpr (by omega)
  rw [e1] at hio hso heq hll
  rw [e2] at hio1
  clear e1 e2 hv hv1 hm hm1 hmo hpr
  generalize (meantW p n).out = L at *
  generalize (meantW p (n + 1)).out = M at *
  generalize resG p n = R at *
  have hf0 : ¬ (n : Int) < 0 := by omega
  have hf1 : ¬ 150 ≤ (n : Int) := by omega
  have hw : IntKind.i64.wrap ((n : Int) + 1) = ((n + 1 : Nat) : Int) := by rw [wrp (by omega) (by omega)]; omega
  have hw2 : IntKind.i64.wrap ((L.length : Int) + 1) = (L.length : Int) + 1 := wrp (by omega) (by omega)
  have hle : (M.length : Int) ≤ (L.length : Int) + 1 := by omega
  have fx := And.intro h3 <| And.intro hp3 <| And.intro h4 <| And.intro h15 <| And.intro h16 <| And.intro @bne_def <| And.intro hf0 <| And.intro hf <| And.intro hf1 <| And.intro hw <| And.intro hw2 <| hle
  have c1 := heq
  have c2 := hvp
  have c3 := hbg
  have d1 := hio
  have d2 := hso
  have d3 := hio1
  have e1 := hir
  refine k_run ?_
  clear fx c1 c2 c3 d1 d2 d3 e1
  rintro K hK y H3 ⟨rfl, hR⟩
  obtain ⟨r1, r2⟩ := hR.hcln
  refine ⟨by simp, ?_⟩
  rw [e3] at r1
  have fx := And.intro r1 <| And.intro e3 <| @bne_def
  have c1 := heq
  refine k_run ?_
  clear fx c1
  refine e_ret [] .nil (by simp; rfl) (by simp)
end Go.Proofs.YtpckgioefpkmoaaGreat
end
