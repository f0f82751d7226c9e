/-
  Own texts, joined by mkclaim.py: Pht, Ss.
-/
import Derived.Test.YtpckgioefpkmoaaGreatM20
import Derived.Test.YtpckgioefpkmoaaGreatM32
import Derived.Test.YtpckgioefpkmoaaGreatM31
import Derived.Test.YtpckgioefpkmoaaGreatM30
set_option linter.unusedSimpArgs false
set_option linter.unusedVariables false

section
set_option maxRecDepth 100000
set_option maxHeartbeats 4000000
set_option linter.unusedSimpArgs false
namespace Go.Proofs.YtpckgioefpkmoaaGreat
open Go Go.Hm Go.Proofs
theorem spec_TraceByMeaning_fn (gl) (p : Prg) (f : Int) (hs : Sml p) : FnOk Tryz.prog gl 28 [pav p, iv f] (fun r y H' => y = .hs r 2 0 (trcG p f).length ∧ H' r = some (.row 2 (nrows (trcG p f)))) := by
  refine FnOk.of_sem Tryz.func28 rfl (by kernel_rfl) (rs := [.tmp 4]) rfl Tryz.ntmps28 (Nat.le_of_ble_eq_true rfl) fun C w g root => ?_
  cases hv : fuelOk p f
  · skip
    have fx :=  hv
    have c1 := hv ▸ validFuel_fn gl p f hs
    refine k_run ?_
    clear fx c1
    refine e_ret [(.s 4, root)] (.one rfl) (by simp; rfl) (by simp [trcG, hv])
  · obtain ⟨hpo, n, rfl, hn⟩ := fuelOk_of hv
    have hP := ValP.of hs hpo
    have hm := meantOk hP.sh hn
    have hol := hm.tr
    have hol' : (meantW p n).trace.length ≤ 1000 := by omega
    have hG : trcG p n = (meantW p n).trace := by simp [trcG, hv]
    rw [hG]
    have fx :=  hv
    have c1 := hv ▸ validFuel_fn gl p n hs
    refine k_run ?_
    clear fx c1
    intro K hK
    have fx := fx0
    refine x_mut Wn rfl (by simp [ctx0, noH]) (hF := meant_fn gl _ p n hP hn (by simp [noH])) (h := ?_)
    rintro y H1 ⟨rfl, hO1⟩
    clear fx
    have hT1 := hO1.top
    have hU1 := hO1.trc
    simp only [wRow] at hT1
    have fx := And.intro hT1 <| And.intro hU1 <| hol'
    refine k_run ?_
    clear fx
    refine e_ret [(.s 4, root)] (.one rfl) (by simp; rfl) ⟨by simp, by simp⟩
end Go.Proofs.YtpckgioefpkmoaaGreat
end

section
set_option maxRecDepth 100000
set_option maxHeartbeats 4000000
set_option linter.unusedSimpArgs false
namespace Go.Proofs.YtpckgioefpkmoaaGreat
open Go Go.Hm Go.Proofs
attribute [local simp] slcAV rowsIn
theorem FnTraceByMeaning_fn (gl : Nat → Option (List AV)) (code : List Int) (hcode : ∀ v ∈ code, 0 ≤ v ∧ v ≤ 255) (hbig : code.length ≤ 1152921504606846976) :
    FnOk Tryz.prog gl 10 [bsl code] (fun _ z _ => z = bv true) := by
  refine FnOk.of_sem Tryz.func10 rfl (by kernel_rfl) (rs := [.tmp 2]) rfl Tryz.ntmps10 (Nat.le_of_ble_eq_true rfl) fun C w g root => ?_
  by_cases hlen : 1048576 < code.length
  · have hl1 : (1048576 : Int) < code.length := by omega
    have fx :=  hl1
    refine k_run ?_
    repeat ((first | refine w_sch (id := 12) (.q 0 <| .q 1 <| .q 2 <| .q 3 <| .q 4 <| .q 5 <| .q 6 <| .q 7 <| .q 8 <| .q 9 <| .q 10 <| .q 11 <| .q 12 <| .q 13 <| .q 14 <| .q 15 <| .q 16 <| .q 17 <| .q 18 <| .q 19 <| .q 20 <| .q 21 <| .q 22 <| .q 23 <| .q 24 <| .q 25 <| .q 26 <| .q 27 <| .q 28 <| .q 29 <| .q 30 <| .q 31 <| .q 32 <| .q 33 <| .q 34 <| .q 35 <| .q 36 <| .q 37 <| .q 38 <| .q 39 <| .q 40 <| .q 41 <| .q 42 <| .q 43 <| .done) mixed (by kernel_rfl) (by kernel_rfl) ?_); refine k_rund ?_; refine k_run ?_)
    clear fx
    refine e_ret [] .nil (by simp; rfl) (by simp)
  have hl1 : ¬ (1048576 : Int) < code.length := by omega
  have hc : CodeOk code := ⟨by omega, hcode⟩
  have fx :=  hl1
  have e1 := DrawTraceByMeaning_fn gl code hc
  refine k_run ?_
  repeat ((first | refine w_sch (id := 12) (.q 0 <| .q 1 <| .q 2 <| .q 3 <| .q 4 <| .q 5 <| .q 6 <| .q 7 <| .q 8 <| .q 9 <| .q 10 <| .q 11 <| .q 12 <| .q 13 <| .q 14 <| .q 15 <| .q 16 <| .q 17 <| .q 18 <| .q 19 <| .q 20 <| .q 21 <| .q 22 <| .q 23 <| .q 24 <| .q 25 <| .q 26 <| .q 27 <| .q 28 <| .q 29 <| .q 30 <| .q 31 <| .q 32 <| .q 33 <| .q 34 <| .q 35 <| .q 36 <| .q 37 <| .q 38 <| .q 39 <| .q 40 <| .q 41 <| .q 42 <| .q 43 <| .done) mixed (by kernel_rfl) (by kernel_rfl) ?_); refine k_rund ?_; refine k_run ?_)
  clear fx e1
  rintro K hK z H1 ⟨p, f, rfl, hO, hs⟩
  obtain ⟨ho1, ho2, ho3⟩ := hO.hcln
  refine ⟨by simp, ?_⟩
  have hpl := hs.len
  have fx :=  ho1
  refine k_run ?_
  repeat ((first | refine w_sch (id := 12) (.q 0 <| .q 1 <| .q 2 <| .q 3 <| .q 4 <| .q 5 <| .q 6 <| .q 7 <| .q 8 <| .q 9 <| .q 10 <| .q 11 <| .q 12 <| .q 13 <| .q 14 <| .q 15 <| .q 16 <| .q 17 <| .q 18 <| .q 19 <| .q 20 <| .q 21 <| .q 22 <| .q 23 <| .q 24 <| .q 25 <| .q 26 <| .q 27 <| .q 28 <| .q 29 <| .q 30 <| .q 31 <| .q 32 <| .q 33 <| .q 34 <| .q 35 <| .q 36 <| .q 37 <| .q 38 <| .q 39 <| .q 40 <| .q 41 <| .q 42 <| .q 43 <| .done) mixed (by kernel_rfl) (by kernel_rfl) ?_); refine k_rund ?_; refine k_run ?_)
  clear fx
  intro K hK
  refine o_abs (fun st => BoxP st 3 p ∧ st.tm 4 = iv f ∧ st.tm 17 = .agg [.hs (.c (.s 3) 0 0) 4 0 p.length] ∧ st.tm 18 = iv f) ⟨⟨by simp, by simp, ⟨by simp [ho1], fun j r hj => by simp [ho2 j r hj], fun j r hj => by simp [ho3 j r hj]⟩⟩, by simp, by simp, by simp⟩ ?_
  clear hO ho1 ho2 ho3
  rintro st ⟨⟨h3, hp3, ⟨a1, a2, a3⟩⟩, h4, h17, h18⟩
  have hio := impl_TraceByMeaning_fn gl p f hs
  have hso := spec_TraceByMeaning_fn gl p f hs
  have hvp := impl_ValidProgram_fn gl p hs
  have hll := trcG_len (f := f) hs
  rw [nrows_trI, ← trI_len] at hio hso
  rw [← trI_len] at hll
  have heq := equalSteps_fn gl (trI (trcG p f)) (by omega)
  by_cases hv : fuelOk p f = true
  case neg =>
    generalize trI (trcG p f) = L at *
    cases hv0 : progOk p
    · rw [hv0] at hvp
      have fx := And.intro h3 <| And.intro hp3 <| And.intro h4 <| And.intro h17 <| And.intro h18 <| @bne_def
      have c1 := heq
      have c2 := hvp
      have d1 := hio
      have d2 := hso
      refine k_run ?_
      repeat ((first | refine w_sch (id := 12) (.q 0 <| .q 1 <| .q 2 <| .q 3 <| .q 4 <| .q 5 <| .q 6 <| .q 7 <| .q 8 <| .q 9 <| .q 10 <| .q 11 <| .q 12 <| .q 13 <| .q 14 <| .q 15 <| .q 16 <| .q 17 <| .q 18 <| .q 19 <| .q 20 <| .q 21 <| .q 22 <| .q 23 <| .q 24 <| .q 25 <| .q 26 <| .q 27 <| .q 28 <| .q 29 <| .q 30 <| .q 31 <| .q 32 <| .q 33 <| .q 34 <| .q 35 <| .q 36 <| .q 37 <| .q 38 <| .q 39 <| .q 40 <| .q 41 <| .q 42 <| .q 43 <| .done) mixed (by kernel_rfl) (by kernel_rfl) ?_); refine k_rund ?_; refine k_run ?_)
      clear fx c1 c2 d1 d2
      refine e_ret [] .nil (by simp; rfl) (by simp)
    rw [hv0] at hvp
    by_cases hf0 : f < 0
    · skip
      have fx := And.intro h3 <| And.intro hp3 <| And.intro h4 <| And.intro h17 <| And.intro h18 <| And.intro @bne_def <| hf0
      have c1 := heq
      have c2 := hvp
      have d1 := hio
      have d2 := hso
      refine k_run ?_
      repeat ((first | refine w_sch (id := 12) (.q 0 <| .q 1 <| .q 2 <| .q 3 <| .q 4 <| .q 5 <| .q 6 <| .q 7 <| .q 8 <| .q 9 <| .q 10 <| .q 11 <| .q 12 <| .q 13 <| .q 14 <| .q 15 <| .q 16 <| .q 17 <| .q 18 <| .q 19 <| .q 20 <| .q 21 <| .q 22 <| .q 23 <| .q 24 <| .q 25 <| .q 26 <| .q 27 <| .q 28 <| .q 29 <| .q 30 <| .q 31 <| .q 32 <| .q 33 <| .q 34 <| .q 35 <| .q 36 <| .q 37 <| .q 38 <| .q 39 <| .q 40 <| .q 41 <| .q 42 <| .q 43 <| .done) mixed (by kernel_rfl) (by kernel_rfl) ?_); refine k_rund ?_; refine k_run ?_)
      clear fx c1 c2 d1 d2
      refine e_ret [] .nil (by simp; rfl) (by simp)
    have hf1 : 150 < f := by
      simp only [fuelOk, hv0, Bool.true_and, Bool.and_eq_true, decide_eq_true_eq] at hv
      omega
    have fx := And.intro h3 <| And.intro hp3 <| And.intro h4 <| And.intro h17 <| And.intro h18 <| And.intro @bne_def <| And.intro hf0 <| hf1
    have c1 := heq
    have c2 := hvp
    have d1 := hio
    have d2 := hso
    refine k_run ?_
    repeat ((first | refine w_sch (id := 12) (.q 0 <| .q 1 <| .q 2 <| .q 3 <| .q 4 <| .q 5 <| .q 6 <| .q 7 <| .q 8 <| .q 9 <| .q 10 <| .q 11 <| .q 12 <| .q 13 <| .q 14 <| .q 15 <| .q 16 <| .q 17 <| .q 18 <| .q 19 <| .q 20 <| .q 21 <| .q 22 <| .q 23 <| .q 24 <| .q 25 <| .q 26 <| .q 27 <| .q 28 <| .q 29 <| .q 30 <| .q 31 <| .q 32 <| .q 33 <| .q 34 <| .q 35 <| .q 36 <| .q 37 <| .q 38 <| .q 39 <| .q 40 <| .q 41 <| .q 42 <| .q 43 <| .done) mixed (by kernel_rfl) (by kernel_rfl) ?_); refine k_rund ?_; refine k_run ?_)
    clear fx c1 c2 d1 d2
    refine e_ret [] .nil (by simp; rfl) (by simp)
  obtain ⟨n, rfl, hn, hP, hm⟩ := fuel_run hs hv
  have hv0 : progOk p = true := (fuelOk_of hv).1
  rw [hv0] at hvp
  obtain ⟨h, hh⟩ : ∃ h, h = n / 2 := ⟨_, rfl⟩
  have hv1 : fuelOk p (h : Int) = true := by
    simp only [fuelOk, hv0, Bool.true_and, Bool.and_eq_true, decide_eq_true_eq]
    omega
  have hmo := run_more (p := p) (f := h) (g := n) (by omega) (by omega)
  have hpr := hmo.tr
  have htr := hm.tr
  have e1 : trcG p n = (meantW p n).trace := by simp [trcG, hv]
  have e2 : trcG p (h : Int) = (meantW p h).trace := by simp only [trcG, hv1, if_true, Int.toNat_natCast]
  have e3 : (resG p n).left = ((meantW p n).left : Int) := by simp [resG, hv, resW]
  have hio1 := impl_TraceByMeaning_fn gl p (h : Int) hs
  have hir := impl_RunMeaning_fn gl p n hs
  rw [nrows_trI, ← trI_len, e2] at hio1
  have hst := fun t (ht : t ∈ (meantW p n).trace) => hm.stp ht
  rw [e1] at hio hso heq hll
  have hel := hpr.length_le
  have hlt : ((meantW p n).trace.length : Int) = (n : Int) - ((meantW p n).left : Int) := by omega
  have heq2 := equalSteps_fn gl (trI (meantW p h).trace) (by simp; omega)
  have htk : (trI (meantW p n).trace).take (meantW p h).trace.length = trI (meantW p h).trace := by rw [trI_take, pre_take hpr]
  have hlf := hm.left
  clear e1 e2 hv hv1 hm hmo hpr
  generalize hT : (meantW p n).trace = T at *
  generalize (meantW p h).trace = E at *
  generalize (meantW p n).left = lf at *
  generalize resG p n = R at *
  have hf0 : ¬ (n : Int) < 0 := by omega
  have hf1 : ¬ 150 < (n : Int) := by omega
  have hw : IntKind.i64.wrap ((n : Int) / 2) = (h : Int) := by rw [wrp (by omega) (by omega)]; omega
  have fx := And.intro h3 <| And.intro hp3 <| And.intro h4 <| And.intro h17 <| And.intro h18 <| And.intro @bne_def <| And.intro hf0 <| And.intro hf1 <| hw
  have c1 := heq
  have c2 := hvp
  have d1 := hio
  have d2 := hso
  have d3 := hio1
  refine k_run ?_
  repeat ((first | refine w_sch (id := 12) (.q 0 <| .q 1 <| .q 2 <| .q 3 <| .q 4 <| .q 5 <| .q 6 <| .q 7 <| .q 8 <| .q 9 <| .q 10 <| .q 11 <| .q 12 <| .q 13 <| .q 14 <| .q 15 <| .q 16 <| .q 17 <| .q 18 <| .q 19 <| .q 20 <| .q 21 <| .q 22 <| .q 23 <| .q 24 <| .q 25 <| .q 26 <| .q 27 <| .q 28 <| .q 29 <| .q 30 <| .q 31 <| .q 32 <| .q 33 <| .q 34 <| .q 35 <| .q 36 <| .q 37 <| .q 38 <| .q 39 <| .q 40 <| .q 41 <| .q 42 <| .q 43 <| .done) mixed (by kernel_rfl) (by kernel_rfl) ?_); refine k_rund ?_; refine k_run ?_)
  clear fx c1 c2 d1 d2 d3
  refine w_loop (fun n0 st => ∃ i : Nat, n0 = T.length - i ∧ i ≤ T.length ∧ st.tm 8 = iv i ∧ st.tm 5 = .hs (.s 5) 2 0 T.length ∧ st.hp (.s 5) = some (.row 2 (nrows T)) ∧ st.tm 7 = .hs (.s 7) 2 0 E.length ∧ st.hp (.s 7) = some (.row 2 (orows (trI E))) ∧ BoxP st 3 p ∧ st.tm 4 = iv n) T.length ?_ ?_
  · exact ⟨0, by omega, by omega, by simp, by simp, by simp [nrows_trI], by simp, by simp, ⟨by simp [h3], by simp [hp3], ⟨by simp [a1], fun j r hj => by simp [a2 j r hj], fun j r hj => by simp [a3 j r hj]⟩⟩, by simp [h4]⟩
  clear h3 hp3 a1 a2 a3 h4 h17 h18 hio hso hio1 heq
  rintro n0 st - - ⟨i, rfl, hi, h8, h5, hp5, h7, hp7, ⟨h3, hp3, ⟨a1, a2, a3⟩⟩, h4⟩
  by_cases hil : i < T.length
  · obtain ⟨t, ht⟩ : ∃ t, T[i]? = some t := ⟨_, List.getElem?_eq_getElem hil⟩
    obtain ⟨_, htE⟩ := List.getElem?_eq_some_iff.1 ht
    obtain ⟨k, s, hk, hsk, hkd⟩ := hst t (List.mem_of_getElem? ht)
    obtain ⟨hkl, hkE⟩ := List.getElem?_eq_some_iff.1 hk
    obtain ⟨hsl, hsE⟩ := List.getElem?_eq_some_iff.1 hsk
    have a3k := a3 t.1 k hk
    have l1 : ¬ (t.1 : Int) < 0 := by omega
    have l2 : ¬ (t.2 : Int) < 0 := by omega
    have l3 : ¬ p.length ≤ t.1 := by omega
    have l4 : ¬ k.body.length ≤ t.2 := by omega
    have fx := And.intro h3 <| And.intro hp3 <| And.intro a1 <| And.intro h4 <| And.intro h5 <| And.intro hp5 <| And.intro h7 <| And.intro h8 <| And.intro hil <| And.intro ht <| And.intro htE <| And.intro hk <| And.intro hkE <| And.intro hkl <| And.intro hsk <| And.intro hsE <| And.intro hsl <| And.intro a3k <| And.intro l1 <| And.intro l2 <| And.intro l3 <| l4
    refine k_run ?_
    repeat ((first | refine w_sch (id := 12) (.q 0 <| .q 1 <| .q 2 <| .q 3 <| .q 4 <| .q 5 <| .q 6 <| .q 7 <| .q 8 <| .q 9 <| .q 10 <| .q 11 <| .q 12 <| .q 13 <| .q 14 <| .q 15 <| .q 16 <| .q 17 <| .q 18 <| .q 19 <| .q 20 <| .q 21 <| .q 22 <| .q 23 <| .q 24 <| .q 25 <| .q 26 <| .q 27 <| .q 28 <| .q 29 <| .q 30 <| .q 31 <| .q 32 <| .q 33 <| .q 34 <| .q 35 <| .q 36 <| .q 37 <| .q 38 <| .q 39 <| .q 40 <| .q 41 <| .q 42 <| .q 43 <| .done) mixed (by kernel_rfl) (by kernel_rfl) ?_); refine k_rund ?_; refine k_run ?_)
    clear fx
    exact ⟨T.length - (i + 1), by omega, i + 1, rfl, by omega, by simp; exact wrp (by omega) (by omega), by simp [h5], by simp [hp5], by simp [h7], by simp [hp7], ⟨by simp [h3], by simp [hp3], ⟨by simp [a1], fun j r hj => by simp [a2 j r hj], fun j r hj => by simp [a3 j r hj]⟩⟩, by simp [h4]⟩
  · obtain rfl : i = T.length := by omega
    have hel1 : (E.length : Int) ≤ T.length := by omega
    have hel2 : ¬ T.length < E.length := by omega
    have hw3 : IntKind.i64.wrap ((n : Int) - (lf : Int)) = (T.length : Int) := by rw [wrp (by omega) (by omega)]; omega
    rw [nrows_trI] at hp5
    all_goals have fx := And.intro h3 <| And.intro hp3 <| And.intro a1 <| And.intro h4 <| And.intro h5 <| And.intro hp5 <| And.intro h7 <| And.intro hp7 <| And.intro h8 <| And.intro hil <| And.intro @bne_def <| And.intro hel <| And.intro hel1 <| hel2
    repeat' (first
     | refine w_seq ?_ | refine w_reg fun K hK => ?_
     | ((with_reducible refine s_end hK ?_); clear hK K)
     | (with_reducible first | refine then_normal ?_)
     | refine w_exit ?_
     | (with_reducible refine s_none ?_)
     | ((with_reducible refine g_id ?_); refine x_guard (h := ?_))
     | (with_reducible first | refine gx_tt ?_)
     | ((with_reducible refine o_id 41 rfl ?_); refine x_call (hB := (by first | ((repeat' (first | exact .nil | refine .cons ?_ ?_ | exact .refl _ | exact bw_ints (by simp [fx]; first | done | rfl) (by first | (simp [fx]; done) | (simp [fx]; omega) | omega) | exact bw_list (by simp [fx]; first | done | rfl) (by first | (simp [fx]; done) | (simp [fx]; omega) | omega) (by first | (simp; done) | fail) | exact bw_ordsP (n := .s 5) (l := trI T) (m := trI E) (by simp [hp5]) (by simp; omega) htk | exact bw_ords (n := .s 7) (by simp [hp7]) (by simp) | exact bw_agg1 (bw_prog (p := p) (n := .c (.s 3) 0 0) ⟨by simp [a1], fun j r hj => by simp [a2 j r hj], fun j r hj => by simp [a3 j r hj]⟩ rfl))); done) | fail)) (hF := heq2) (h := ?_))
     | ((with_reducible refine o_id 34 rfl ?_); refine x_callg (hB := (by first | ((repeat' (first | exact .nil | refine .cons ?_ ?_ | exact .refl _ | exact bw_ints (by simp [fx]; first | done | rfl) (by first | (simp [fx]; done) | (simp [fx]; omega) | omega) | exact bw_list (by simp [fx]; first | done | rfl) (by first | (simp [fx]; done) | (simp [fx]; omega) | omega) (by first | (simp; done) | fail) | exact bw_ordsP (n := .s 5) (l := trI T) (m := trI E) (by simp [hp5]) (by simp; omega) htk | exact bw_ords (n := .s 7) (by simp [hp7]) (by simp) | exact bw_agg1 (bw_prog (p := p) (n := .c (.s 3) 0 0) ⟨by simp [a1], fun j r hj => by simp [a2 j r hj], fun j r hj => by simp [a3 j r hj]⟩ rfl))); done) | fail)) (hF := hir) (h := ?_))
     | (with_reducible refine x_q (h := ?_))
     | refine x_condf (h1 := ?_)
     | fail)
    all_goals try clear fx
    rintro y H3 ⟨rfl, hR⟩
    refine ⟨by simp, ?_⟩
    all_goals have fx := And.intro h3 <| And.intro hp3 <| And.intro a1 <| And.intro h4 <| And.intro h5 <| And.intro hp5 <| And.intro h7 <| And.intro hp7 <| And.intro h8 <| And.intro hil <| And.intro @bne_def <| And.intro e3 <| hw3
    repeat' (first
     | ((with_reducible refine s_end hK ?_); clear hK K)
     | (with_reducible first | refine then_normal ?_)
     | refine w_ret ?_
     | (with_reducible refine s_none ?_)
     | ((with_reducible refine g_id ?_); refine x_guard (h := ?_))
     | (with_reducible first | refine gx_tt ?_ | refine x_assign (h := ?_))
     | (with_reducible refine x_q (h := ?_))
     | fail)
    all_goals try clear fx
    refine e_ret [] .nil (by simp; rfl) (by simp)
end Go.Proofs.YtpckgioefpkmoaaGreat
end
