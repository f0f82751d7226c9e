/-
  Own texts, joined by mkclaim.py: Phm, Qnm, Sh.
-/
import Derived.Test.YtpckgioefpkmoaaGreatE21
import Derived.Test.YtpckgioefpkmoaaGreatE27
import Derived.Test.YtpckgioefpkmoaaGreatE29
set_option linter.unusedSimpArgs false
set_option linter.unusedVariables false

section
set_option maxRecDepth 100000
set_option maxHeartbeats 4000000
set_option linter.unusedSimpArgs false
namespace Go.Proofs.YtpckgioefpkmoaaGreat
open Go Go.Hm Go.Proofs
theorem spec_MadeBy_fn (gl) (p : Prg) (f : Int) (hs : Sml p) : FnOk Tryz.prog gl 20 [pav p, iv f] (fun _ y _ => y = .tup [iv (madeG p f).1, iv (madeG p f).2]) := by
  refine FnOk.of_sem Tryz.func20 rfl (by kernel_rfl) (rs := [.tmp 4, .tmp 5]) rfl Tryz.ntmps20 (Nat.le_of_ble_eq_true rfl) fun C w g root => ?_
  cases hv : fuelOk p f
  · skip
    have fx :=  hv
    have c1 := hv ▸ validFuel_fn gl p f hs
    refine k_run ?_
    repeat ((first | refine w_sch (id := 4) (.q 0 <| .q 1 <| .q 2 <| .q 3 <| .q 4 <| .q 5 <| .q 6 <| .q 7 <| .q 8 <| .q 9 <| .l 10 [9, 8, 7, 6, 5] <| .l 11 [] <| .done) mixed (by kernel_rfl) (by kernel_rfl) ?_); refine k_rund ?_; refine k_run ?_)
    clear fx c1
    refine e_ret [] .nil (by simp; rfl) (by simp [madeG, hv])
  · obtain ⟨hpo, n, rfl, hn⟩ := fuelOk_of hv
    have hP := ValP.of hs hpo
    have fx :=  hv
    have c1 := hv ▸ validFuel_fn gl p n hs
    refine k_run ?_
    repeat ((first | refine w_sch (id := 4) (.q 0 <| .q 1 <| .q 2 <| .q 3 <| .q 4 <| .q 5 <| .q 6 <| .q 7 <| .q 8 <| .q 9 <| .l 10 [9, 8, 7, 6, 5] <| .l 11 [] <| .done) mixed (by kernel_rfl) (by kernel_rfl) ?_); refine k_rund ?_; refine k_run ?_)
    clear fx c1
    intro K hK
    have fx := fx0
    refine x_mut Wn rfl (by simp [ctx0, noH]) (hF := meant_fn gl _ p n hP hn (by simp [noH])) (h := ?_)
    rintro y H1 ⟨rfl, hO1⟩
    clear fx
    have hT1 := hO1.top
    simp only [wRow] at hT1
    have fx :=  hT1
    refine k_run ?_
    repeat ((first | refine w_sch (id := 4) (.q 0 <| .q 1 <| .q 2 <| .q 3 <| .q 4 <| .q 5 <| .q 6 <| .q 7 <| .q 8 <| .q 9 <| .l 10 [9, 8, 7, 6, 5] <| .l 11 [] <| .done) mixed (by kernel_rfl) (by kernel_rfl) ?_); refine k_rund ?_; refine k_run ?_)
    clear fx
    refine e_ret [] .nil (by simp; rfl) (by simp [madeG, hv])
end Go.Proofs.YtpckgioefpkmoaaGreat
end

section
set_option maxRecDepth 100000
set_option maxHeartbeats 4000000
set_option linter.unusedSimpArgs false
namespace Go.Proofs.YtpckgioefpkmoaaGreat
open Go Go.Hm Go.Proofs
theorem impl_MadeBy_fn (gl) (p : Prg) (f : Int) (hs : Sml p) : FnOk Tryz.prog gl 21 [pav p, iv f] (fun _ y _ => y = .tup [iv (madeG p f).1, iv (madeG p f).2]) := by
  refine FnOk.of_sem Tryz.func21 rfl (by kernel_rfl) (rs := [.tmp 4, .tmp 5]) rfl Tryz.ntmps21 (Nat.le_of_ble_eq_true rfl) fun C w g root => ?_
  cases hv0 : progOk p
  · have hv : fuelOk p f = false := by simp [fuelOk, hv0]
    have fx :=  hv0
    have c1 := hv0 ▸ impl_ValidProgram_fn gl p hs
    refine k_run ?_
    repeat ((first | refine w_sch (id := 4) (.q 0 <| .q 1 <| .q 2 <| .q 3 <| .q 4 <| .q 5 <| .q 6 <| .q 7 <| .q 8 <| .q 9 <| .l 10 [9, 8, 7, 6, 5] <| .l 11 [] <| .done) mixed (by kernel_rfl) (by kernel_rfl) ?_); refine k_rund ?_; refine k_run ?_)
    clear fx c1
    refine e_ret [] .nil (by simp; rfl) (by simp [madeG, hv])
  cases hv : fuelOk p f
  · have hf : (decide (0 ≤ f) && decide (f ≤ 150)) = false := by simpa [fuelOk, hv0] using hv
    have fx := And.intro hv0 <| hf
    have c1 := hv0 ▸ impl_ValidProgram_fn gl p hs
    have c2 := hf ▸ isFuel_fn gl f
    refine k_run ?_
    repeat ((first | refine w_sch (id := 4) (.q 0 <| .q 1 <| .q 2 <| .q 3 <| .q 4 <| .q 5 <| .q 6 <| .q 7 <| .q 8 <| .q 9 <| .l 10 [9, 8, 7, 6, 5] <| .l 11 [] <| .done) mixed (by kernel_rfl) (by kernel_rfl) ?_); refine k_rund ?_; refine k_run ?_)
    clear fx c1 c2
    refine e_ret [] .nil (by simp; rfl) (by simp [madeG, hv])
  · obtain ⟨hpo, n, rfl, hn⟩ := fuelOk_of hv
    have hP := ValP.of hs hpo
    have hf : (decide (0 ≤ (n : Int)) && decide ((n : Int) ≤ 150)) = true := by simpa [fuelOk, hv0] using hv
    have fx := And.intro hv0 <| hf
    have c1 := hv0 ▸ impl_ValidProgram_fn gl p hs
    have c2 := hf ▸ isFuel_fn gl n
    refine k_run ?_
    repeat ((first | refine w_sch (id := 4) (.q 0 <| .q 1 <| .q 2 <| .q 3 <| .q 4 <| .q 5 <| .q 6 <| .q 7 <| .q 8 <| .q 9 <| .l 10 [9, 8, 7, 6, 5] <| .l 11 [] <| .done) mixed (by kernel_rfl) (by kernel_rfl) ?_); refine k_rund ?_; refine k_run ?_)
    clear fx c1 c2
    intro K hK
    have fx := fx0
    refine x_mutM (fun k i j he => by simp [ctx0, noH] at he) (hF := meaningOf_fn gl _ p n hP hn (by simp [noH])) (h := ?_)
    rintro y H1 ⟨rfl, hO1⟩
    clear fx
    have hT1 := hO1.top
    simp only [mRow] at hT1
    have fx :=  hT1
    refine k_run ?_
    repeat ((first | refine w_sch (id := 4) (.q 0 <| .q 1 <| .q 2 <| .q 3 <| .q 4 <| .q 5 <| .q 6 <| .q 7 <| .q 8 <| .q 9 <| .l 10 [9, 8, 7, 6, 5] <| .l 11 [] <| .done) mixed (by kernel_rfl) (by kernel_rfl) ?_); refine k_rund ?_; refine k_run ?_)
    clear fx
    refine e_ret [] .nil (by simp; rfl) (by simp [madeG, hv])
end Go.Proofs.YtpckgioefpkmoaaGreat
end

section
set_option maxRecDepth 100000
set_option maxHeartbeats 4000000
set_option linter.unusedSimpArgs false
namespace Go.Proofs.YtpckgioefpkmoaaGreat
open Go Go.Hm Go.Proofs
theorem FnExactMadeBy_fn (gl : Nat → Option (List AV)) (p : Prg) (b : Int) (hb : Big p) : FnOk Tryz.prog gl 4 [pav p, iv b] (fun _ y _ => y = bv true) := by
  refine FnOk.of_sem Tryz.func4 rfl (by kernel_rfl) (rs := [.tmp 4]) rfl Tryz.ntmps4 (Nat.le_of_ble_eq_true rfl) fun C w g root => ?_
  by_cases ht : tot p ≤ 1048576
  case neg =>
    have fx :=  ht
    have c1 := szProgram_fn gl p hb
    refine k_run ?_
    repeat ((first | refine w_sch (id := 10) (.q 0 <| .q 1 <| .l 2 [0] <| .l 3 [] <| .q 4 <| .done) mixed (by kernel_rfl) (by kernel_rfl) ?_); refine k_rund ?_; refine k_run ?_)
    clear fx c1
    refine e_ret [] .nil (by simp; rfl) (by simp)
  have hs := tot_sml ht
  have hge : ¬ 1048576 - (tot p : Int) < 0 := by omega
  have hsa := spec_MadeBy_fn gl p b hs
  have hia := impl_MadeBy_fn gl p b hs
  generalize (madeG p b).1 = v at hsa hia
  generalize (madeG p b).2 = u at hsa hia
  have fx := And.intro ht <| hge
  have c1 := szProgram_fn gl p hb
  have e1 := toProgram_fn gl p hs
  refine k_run ?_
  repeat ((first | refine w_sch (id := 10) (.q 0 <| .q 1 <| .l 2 [0] <| .l 3 [] <| .q 4 <| .done) mixed (by kernel_rfl) (by kernel_rfl) ?_); refine k_rund ?_; refine k_run ?_)
  clear fx c1 e1
  rintro K hK y H1 ⟨rfl, hO⟩
  obtain ⟨ho1, ho2, ho3⟩ := hO.hcln
  refine ⟨by simp, ?_⟩
  have fx := And.intro ht <| hge
  have c1 := hsa
  refine k_run ?_
  repeat ((first | refine w_sch (id := 10) (.q 0 <| .q 1 <| .l 2 [0] <| .l 3 [] <| .q 4 <| .done) mixed (by kernel_rfl) (by kernel_rfl) ?_); refine k_rund ?_; refine k_run ?_)
  clear fx c1
  intro K hK
  refine o_abs (fun st => st.tm 1 = iv b ∧ st.tm 2 = .pt (.s 2) 0 ∧ st.hp (.s 2) = some (.row 1 [[ksl p]]) ∧ st.tm 6 = iv v ∧ st.tm 7 = iv u ∧ st.tm 23 = pav p) ⟨by simp, by simp, by simp, by simp, by simp, by simp⟩ ?_
  clear hO ho1 ho2 ho3
  rintro st ⟨h1, h3, hp3, h6, h7, h21⟩
  have fx := And.intro h1 <| And.intro h3 <| And.intro hp3 <| And.intro h6 <| And.intro h7 <| h21
  have e1 := toProgram_fn gl p hs
  refine k_run ?_
  repeat ((first | refine w_sch (id := 10) (.q 0 <| .q 1 <| .l 2 [0] <| .l 3 [] <| .q 4 <| .done) mixed (by kernel_rfl) (by kernel_rfl) ?_); refine k_rund ?_; refine k_run ?_)
  clear fx e1
  rintro y H2 ⟨rfl, hO⟩
  obtain ⟨b1, b2, b3⟩ := hO.hcln
  refine ⟨by simp, ?_⟩
  have fx := And.intro h1 <| And.intro h3 <| And.intro hp3 <| And.intro h6 <| And.intro h7 <| And.intro b1 <| @bne_def
  have c1 := hia
  have e1 := toProgram_fn gl p hs
  refine k_run ?_
  repeat ((first | refine w_sch (id := 10) (.q 0 <| .q 1 <| .l 2 [0] <| .l 3 [] <| .q 4 <| .done) mixed (by kernel_rfl) (by kernel_rfl) ?_); refine k_rund ?_; refine k_run ?_)
  clear fx c1 e1
  rintro K hK y H3 ⟨rfl, hO3⟩
  obtain ⟨ho1, ho2, ho3⟩ := hO3.hcln
  refine ⟨by simp, ?_⟩
  have fx := And.intro h1 <| And.intro h3 <| And.intro hp3 <| And.intro b1 <| ho1
  have c1 := eqProgram_fn gl p p hs hs
  refine k_run ?_
  repeat ((first | refine w_sch (id := 10) (.q 0 <| .q 1 <| .l 2 [0] <| .l 3 [] <| .q 4 <| .done) mixed (by kernel_rfl) (by kernel_rfl) ?_); refine k_rund ?_; refine k_run ?_)
  clear fx c1
  refine e_ret [] .nil (by simp; rfl) (by simp)
end Go.Proofs.YtpckgioefpkmoaaGreat
end
