/-
  Own texts, joined by mkclaim.py: Pht, Qnt, Se.
-/
import Derived.Test.YtpckgioefpkmoaaGreatE21
import Derived.Test.YtpckgioefpkmoaaGreatE27
import Derived.Test.YtpckgioefpkmoaaGreatE32
import Derived.Test.YtpckgioefpkmoaaGreatE16
set_option linter.unusedSimpArgs false
set_option linter.unusedVariables false

section
set_option maxRecDepth 100000
set_option maxHeartbeats 4000000
set_option linter.unusedSimpArgs false
namespace Go.Proofs.YtpckgioefpkmoaaGreat
open Go Go.Hm Go.Proofs
theorem spec_TraceByMeaning_fn (gl) (p : Prg) (f : Int) (hs : Sml p) : FnOk Tryz.prog gl 28 [pav p, iv f] (fun r y H' => y = .hs r 2 0 (trcG p f).length ∧ H' r = some (.row 2 (nrows (trcG p f)))) := by
  refine FnOk.of_sem Tryz.func28 rfl (by kernel_rfl) (rs := [.tmp 4]) rfl Tryz.ntmps28 (Nat.le_of_ble_eq_true rfl) fun C w g root => ?_
  cases hv : fuelOk p f
  · skip
    have fx :=  hv
    have c1 := hv ▸ validFuel_fn gl p f hs
    refine k_run ?_
    clear fx c1
    refine e_ret [(.s 4, root)] (.one rfl) (by simp; rfl) (by simp [trcG, hv])
  · obtain ⟨hpo, n, rfl, hn⟩ := fuelOk_of hv
    have hP := ValP.of hs hpo
    have hm := meantOk hP.sh hn
    have hol := hm.tr
    have hol' : (meantW p n).trace.length ≤ 1000 := by omega
    have hG : trcG p n = (meantW p n).trace := by simp [trcG, hv]
    rw [hG]
    have fx :=  hv
    have c1 := hv ▸ validFuel_fn gl p n hs
    refine k_run ?_
    clear fx c1
    intro K hK
    have fx := fx0
    refine x_mut Wn rfl (by simp [ctx0, noH]) (hF := meant_fn gl _ p n hP hn (by simp [noH])) (h := ?_)
    rintro y H1 ⟨rfl, hO1⟩
    clear fx
    have hT1 := hO1.top
    have hU1 := hO1.trc
    simp only [wRow] at hT1
    have fx := And.intro hT1 <| And.intro hU1 <| hol'
    refine k_run ?_
    clear fx
    refine e_ret [(.s 4, root)] (.one rfl) (by simp; rfl) ⟨by simp, by simp⟩
end Go.Proofs.YtpckgioefpkmoaaGreat
end

section
set_option maxRecDepth 100000
set_option maxHeartbeats 4000000
set_option linter.unusedSimpArgs false
namespace Go.Proofs.YtpckgioefpkmoaaGreat
open Go Go.Hm Go.Proofs
theorem impl_TraceByMeaning_fn (gl) (p : Prg) (f : Int) (hs : Sml p) : FnOk Tryz.prog gl 29 [pav p, iv f] (fun r y H' => y = .hs r 2 0 (trcG p f).length ∧ H' r = some (.row 2 (nrows (trcG p f)))) := by
  refine FnOk.of_sem Tryz.func29 rfl (by kernel_rfl) (rs := [.tmp 4]) rfl Tryz.ntmps29 (Nat.le_of_ble_eq_true rfl) fun C w g root => ?_
  cases hv0 : progOk p
  · have hv : fuelOk p f = false := by simp [fuelOk, hv0]
    have fx :=  hv0
    have c1 := hv0 ▸ impl_ValidProgram_fn gl p hs
    refine k_run ?_
    clear fx c1
    refine e_ret [(.s 4, root)] (.one rfl) (by simp; rfl) (by simp [trcG, hv])
  cases hv : fuelOk p f
  · have hf : (decide (0 ≤ f) && decide (f ≤ 150)) = false := by simpa [fuelOk, hv0] using hv
    have fx := And.intro hv0 <| hf
    have c1 := hv0 ▸ impl_ValidProgram_fn gl p hs
    have c2 := hf ▸ isFuel_fn gl f
    refine k_run ?_
    clear fx c1 c2
    refine e_ret [(.s 4, root)] (.one rfl) (by simp; rfl) (by simp [trcG, hv])
  · obtain ⟨hpo, n, rfl, hn⟩ := fuelOk_of hv
    have hP := ValP.of hs hpo
    have hf : (decide (0 ≤ (n : Int)) && decide ((n : Int) ≤ 150)) = true := by simpa [fuelOk, hv0] using hv
    have hm := meantOk hP.sh hn
    have hol := hm.tr
    have hol' : (meantW p n).trace.length ≤ 1000 := by omega
    have hG : trcG p n = (meantW p n).trace := by simp [trcG, hv]
    rw [hG]
    have fx := And.intro hv0 <| hf
    have c1 := hv0 ▸ impl_ValidProgram_fn gl p hs
    have c2 := hf ▸ isFuel_fn gl n
    refine k_run ?_
    clear fx c1 c2
    intro K hK
    have fx := fx0
    refine o_mvPost (.c Mn 0 5) (.s 15) (.inl rfl) (.inl rfl) ?_
    refine x_mutM (fun k i j he => by simp [ctx0, noH] at he) (hF := meaningOf_fn gl _ p n hP hn (by simp [noH])) (h := ?_)
    rintro y H1 ⟨rfl, hO1⟩
    clear fx
    have hT1 := hO1.top
    have hU1 := hO1.trc
    simp only [mRow] at hT1
    have fx := And.intro hT1 <| And.intro hU1 <| hol'
    refine k_run ?_
    clear fx
    refine e_ret [(.s 4, root)] (.one rfl) (by simp; rfl) ⟨by simp, by simp [hU1]⟩
end Go.Proofs.YtpckgioefpkmoaaGreat
end

section
set_option maxRecDepth 100000
set_option maxHeartbeats 4000000
set_option linter.unusedSimpArgs false
namespace Go.Proofs.YtpckgioefpkmoaaGreat
open Go Go.Hm Go.Proofs
theorem FnExactTraceByMeaning_fn (gl : Nat → Option (List AV)) (p : Prg) (b : Int) (hb : Big p) : FnOk Tryz.prog gl 6 [pav p, iv b] (fun _ y _ => y = bv true) := by
  refine FnOk.of_sem Tryz.func6 rfl (by kernel_rfl) (rs := [.tmp 4]) rfl Tryz.ntmps6 (Nat.le_of_ble_eq_true rfl) fun C w g root => ?_
  by_cases ht : tot p ≤ 1048576
  case neg =>
    have fx :=  ht
    have c1 := szProgram_fn gl p hb
    refine k_run ?_
    repeat ((first | refine w_sch (id := 10) (.q 0 <| .q 1 <| .l 2 [0] <| .l 3 [] <| .q 4 <| .done) mixed (by kernel_rfl) (by kernel_rfl) ?_); refine k_rund ?_; refine k_run ?_)
    clear fx c1
    refine e_ret [] .nil (by simp; rfl) (by simp)
  have hs := tot_sml ht
  have hgt : ¬ 1048576 - (tot p : Int) < 0 := by omega
  have hsa := spec_TraceByMeaning_fn gl p b hs
  have hia := impl_TraceByMeaning_fn gl p b hs
  have hll := trcG_len (f := b) hs
  rw [nrows_trI, ← trI_len] at hsa hia
  rw [← trI_len] at hll
  generalize trI (trcG p b) = L at hsa hia hll
  have hL : L.length ≤ 1048576 := by omega
  have heq := eqStepS_fn gl L L hL hL
  have hcp := cntTo_le hs p.length
  have hpl := hs.len
  have fx := And.intro ht <| hgt
  have c1 := szProgram_fn gl p hb
  have e1 := toProgram_fn gl p hs
  refine k_run ?_
  repeat ((first | refine w_sch (id := 10) (.q 0 <| .q 1 <| .l 2 [0] <| .l 3 [] <| .q 4 <| .done) mixed (by kernel_rfl) (by kernel_rfl) ?_); refine k_rund ?_; refine k_run ?_)
  clear fx c1 e1
  rintro K hK y H1 ⟨rfl, hO⟩
  obtain ⟨ho1, ho2, ho3⟩ := hO.hcln
  refine ⟨by simp, ?_⟩
  have fx := And.intro ht <| hgt
  have d1 := hsa
  refine k_run ?_
  repeat ((first | refine w_sch (id := 10) (.q 0 <| .q 1 <| .l 2 [0] <| .l 3 [] <| .q 4 <| .done) mixed (by kernel_rfl) (by kernel_rfl) ?_); refine k_rund ?_; refine k_run ?_)
  clear fx d1
  intro K hK
  refine o_abs (fun st => st.tm 2 = .pt (.s 2) 0 ∧ st.hp (.s 2) = some (.row 1 [[ksl p]]) ∧ st.tm 6 = .hs (.s 6) 2 0 L.length ∧ st.hp (.s 6) = some (.row 2 (orows L)) ∧ st.tm 1 = iv b ∧ st.tm 22 = pav p) ⟨by simp, by simp, by simp, by simp, by simp, by simp⟩ ?_
  clear hO ho1 ho2 ho3
  rintro st ⟨h2, hp2, h6, hp6, h1, h22⟩
  have fx := And.intro h2 <| And.intro hp2 <| And.intro h6 <| And.intro hp6 <| And.intro h1 <| h22
  have e1 := toProgram_fn gl p hs
  refine k_run ?_
  repeat ((first | refine w_sch (id := 10) (.q 0 <| .q 1 <| .l 2 [0] <| .l 3 [] <| .q 4 <| .done) mixed (by kernel_rfl) (by kernel_rfl) ?_); refine k_rund ?_; refine k_run ?_)
  clear fx e1
  rintro y H2 ⟨rfl, hO⟩
  obtain ⟨b1, b2, b3⟩ := hO.hcln
  refine ⟨by simp, ?_⟩
  have fx := And.intro h2 <| And.intro hp2 <| And.intro h6 <| And.intro hp6 <| And.intro h1 <| b1
  have c1 := heq
  have d1 := hia
  have e1 := toProgram_fn gl p hs
  refine k_run ?_
  repeat ((first | refine w_sch (id := 10) (.q 0 <| .q 1 <| .l 2 [0] <| .l 3 [] <| .q 4 <| .done) mixed (by kernel_rfl) (by kernel_rfl) ?_); refine k_rund ?_; refine k_run ?_)
  clear fx c1 d1 e1
  rintro K hK y H3 ⟨rfl, hO3⟩
  obtain ⟨ho1, ho2, ho3⟩ := hO3.hcln
  refine ⟨by simp, ?_⟩
  have fx := And.intro h2 <| And.intro hp2 <| And.intro h6 <| And.intro hp6 <| And.intro b1 <| ho1
  have c1 := eqProgram_fn gl p p hs hs
  refine k_run ?_
  repeat ((first | refine w_sch (id := 10) (.q 0 <| .q 1 <| .l 2 [0] <| .l 3 [] <| .q 4 <| .done) mixed (by kernel_rfl) (by kernel_rfl) ?_); refine k_rund ?_; refine k_run ?_)
  clear fx c1
  intro K hK
  refine o_abs (fun st => st.tm 2 = .pt (.s 2) 0 ∧ st.hp (.s 2) = some (.row 1 [[ksl p]]) ∧ st.tm 6 = .hs (.s 6) 2 0 L.length ∧ st.hp (.s 6) = some (.row 2 (orows L)) ∧ st.tm 1 = iv b ∧ st.tm 8 = .hs (.s 8) 2 0 L.length ∧ st.hp (.s 8) = some (.row 2 (orows L)) ∧ OwnP st.hp (.c (.s 7) 0 0) p ∧ st.tm 36 = .agg [.hs (.c (.s 7) 0 0) 4 0 p.length] ∧ st.tm 37 = iv 1)
    ⟨by simp [h2], by simp [hp2], by simp [h6], by simp [hp6], by simp [h1], by simp, by simp, ⟨by simp [b1], fun j r hj => by simp [b2 j r hj], fun j r hj => by simp [b3 j r hj]⟩, by simp, by simp⟩ ?_
  clear h2 hp2 h6 hp6 h1 h22 b1 b2 b3 ho1 ho2 ho3 hO hO3
  rintro st ⟨h2, hp2, h6, hp6, h1, h8, hp8, ⟨b1, b2, b3⟩, h36, h37⟩
  have fx := And.intro h36 h37
  refine x_mutc (.c (.s 7) 0 0) (.u 0 0 0) (hext := rfl) (hs := by simp [b1]) (hF := markProgram_fn _ _ p 1 hs ⟨by simp [b1], fun j r hj => by simp [b2 j r hj], fun j r hj => by simp [b3 j r hj]⟩ (by simp) (by decide)) (h := ?_)
  rintro y H6 ⟨rfl, ⟨d1, d2, d3⟩⟩
  clear fx
  refine s_abs (fun st => st.tm 2 = .pt (.s 2) 0 ∧ st.hp (.s 2) = some (.row 1 [[ksl p]]) ∧ st.tm 6 = .hs (.s 6) 2 0 L.length ∧ st.hp (.s 6) = some (.row 2 (orows L)) ∧ st.tm 1 = iv b ∧ st.tm 8 = .hs (.s 8) 2 0 L.length ∧ st.hp (.s 8) = some (.row 2 (orows L)) ∧ st.tm 38 = iv (1 + cnt p))
    ⟨by simp [h2], by simp [hp2], by simp [h6], by simp [hp6], by simp [h1], by simp [h8], by simp [hp8], by simp⟩ ?_
  clear h2 hp2 h6 hp6 h1 h8 hp8 b1 b2 b3 h36 h37 d1 d2 d3
  rintro st ⟨h2, hp2, h6, hp6, h1, h8, hp8, h38⟩
  have hk1 : ¬ 1 + (cnt p : Int) < 0 := by omega
  have fx := And.intro h2 <| And.intro hp2 <| And.intro h6 <| And.intro hp6 <| And.intro h1 <| And.intro h8 <| And.intro hp8 <| And.intro h38 <| hk1
  have c1 := heq
  refine k_run ?_
  repeat ((first | refine w_sch (id := 10) (.q 0 <| .q 1 <| .l 2 [0] <| .l 3 [] <| .q 4 <| .done) mixed (by kernel_rfl) (by kernel_rfl) ?_); refine k_rund ?_; refine k_run ?_)
  clear fx c1
  intro K hK
  refine o_abs (fun st => st.tm 2 = .pt (.s 2) 0 ∧ st.hp (.s 2) = some (.row 1 [[ksl p]]) ∧ st.tm 6 = .hs (.s 6) 2 0 L.length ∧ st.hp (.s 6) = some (.row 2 (orows L)) ∧ st.tm 1 = iv b ∧ st.hp (.s 8) = some (.row 2 (orows L)) ∧ st.tm 8 = .hs (.s 8) 2 0 L.length ∧ st.tm 47 = .hs (.s 8) 2 0 L.length ∧ st.tm 48 = iv 1)
    ⟨by simp [h2], by simp [hp2], by simp [h6], by simp [hp6], by simp [h1], by simp [hp8], by simp [h8], by simp [h8], by simp⟩ ?_
  clear h2 hp2 h6 hp6 h1 hp8 h8 h38
  rintro st ⟨h2, hp2, h6, hp6, h1, hp8, h8, h47, h48⟩
  have fx := And.intro h47 h48
  refine x_mutc (.s 8) (.u 1 0 0) (hext := rfl) (hs := by simp [hp8]) (hF := markStepS_fn _ _ L 1 (by simp [hp8]) (by decide) hL) (h := ?_)
  rintro y H7 ⟨rfl, hM⟩
  clear fx
  have hMl : (markO L.length 1).length = L.length := by simp
  refine s_abs (fun st => st.tm 2 = .pt (.s 2) 0 ∧ st.hp (.s 2) = some (.row 1 [[ksl p]]) ∧ st.tm 6 = .hs (.s 6) 2 0 L.length ∧ st.hp (.s 6) = some (.row 2 (orows L)) ∧ st.tm 1 = iv b ∧ st.hp (.s 8) = some (.row 2 (orows (markO L.length 1))) ∧ st.tm 8 = .hs (.s 8) 2 0 (markO L.length 1).length ∧ st.tm 49 = iv (1 + 2 * (L.length : Int)))
    ⟨by simp [h2], by simp [hp2], by simp [h6], by simp [hp6], by simp [h1], by simp [hM], by simp [h8, hMl], by simp⟩ ?_
  clear h2 hp2 h6 hp6 h1 hp8 h8 h47 h48 hM
  rintro st ⟨h2, hp2, h6, hp6, h1, hp8, h8, h49⟩
  have hhe := heldStepS_fn gl L.length 1 (by decide) hL
  have hk2 : ¬ 1 + 2 * (L.length : Int) < 0 := by omega
  generalize markO L.length 1 = M at hp8 h8 hhe
  have fx := And.intro h2 <| And.intro hp2 <| And.intro h6 <| And.intro hp6 <| And.intro h1 <| And.intro hp8 <| And.intro h8 <| And.intro h49 <| And.intro hk2 <| @bne_def
  have c1 := hhe
  have e1 := toProgram_fn gl p hs
  refine k_run ?_
  repeat ((first | refine w_sch (id := 10) (.q 0 <| .q 1 <| .l 2 [0] <| .l 3 [] <| .q 4 <| .done) mixed (by kernel_rfl) (by kernel_rfl) ?_); refine k_rund ?_; refine k_run ?_)
  clear fx c1 e1
  rintro K hK y H8 ⟨rfl, hO⟩
  obtain ⟨ho1, ho2, ho3⟩ := hO.hcln
  refine ⟨by simp, ?_⟩
  have fx := And.intro h2 <| And.intro hp2 <| And.intro h6 <| And.intro hp6 <| And.intro h1 <| And.intro hp8 <| And.intro h8 <| And.intro ho1 <| And.intro hk2 <| @bne_def
  have c1 := heq
  have c2 := hhe
  have d1 := hia
  refine k_run ?_
  repeat ((first | refine w_sch (id := 10) (.q 0 <| .q 1 <| .l 2 [0] <| .l 3 [] <| .q 4 <| .done) mixed (by kernel_rfl) (by kernel_rfl) ?_); refine k_rund ?_; refine k_run ?_)
  clear fx c1 c2 d1
  refine e_ret [] .nil (by simp; rfl) (by simp)
end Go.Proofs.YtpckgioefpkmoaaGreat
end
