/-
  Own texts, joined by mkclaim.py: Phm, Qnm, Sn.
-/
import Derived.Test.YtpckgioefpkmoaaGreatM20
import Derived.Test.YtpckgioefpkmoaaGreatM26
import Derived.Test.YtpckgioefpkmoaaGreatM32
import Derived.Test.YtpckgioefpkmoaaGreatM30
set_option linter.unusedSimpArgs false
set_option linter.unusedVariables false

section
set_option maxRecDepth 100000
set_option maxHeartbeats 4000000
set_option linter.unusedSimpArgs false
namespace Go.Proofs.YtpckgioefpkmoaaGreat
open Go Go.Hm Go.Proofs
theorem spec_MadeBy_fn (gl) (p : Prg) (f : Int) (hs : Sml p) : FnOk Tryz.prog gl 20 [pav p, iv f] (fun _ y _ => y = .tup [iv (madeG p f).1, iv (madeG p f).2]) := by
  refine FnOk.of_sem Tryz.func20 rfl (by kernel_rfl) (rs := [.tmp 4, .tmp 5]) rfl Tryz.ntmps20 (Nat.le_of_ble_eq_true rfl) fun C w g root => ?_
  cases hv : fuelOk p f
  · skip
    have fx :=  hv
    have c1 := hv ▸ validFuel_fn gl p f hs
    refine k_run ?_
    repeat ((first | refine w_sch (id := 4) (.q 0 <| .q 1 <| .q 2 <| .q 3 <| .q 4 <| .q 5 <| .q 6 <| .q 7 <| .q 8 <| .q 9 <| .l 10 [9, 8, 7, 6, 5] <| .l 11 [] <| .done) mixed (by kernel_rfl) (by kernel_rfl) ?_); refine k_rund ?_; refine k_run ?_)
    clear fx c1
    refine e_ret [] .nil (by simp; rfl) (by simp [madeG, hv])
  · obtain ⟨hpo, n, rfl, hn⟩ := fuelOk_of hv
    have hP := ValP.of hs hpo
    have fx :=  hv
    have c1 := hv ▸ validFuel_fn gl p n hs
    refine k_run ?_
    repeat ((first | refine w_sch (id := 4) (.q 0 <| .q 1 <| .q 2 <| .q 3 <| .q 4 <| .q 5 <| .q 6 <| .q 7 <| .q 8 <| .q 9 <| .l 10 [9, 8, 7, 6, 5] <| .l 11 [] <| .done) mixed (by kernel_rfl) (by kernel_rfl) ?_); refine k_rund ?_; refine k_run ?_)
    clear fx c1
    intro K hK
    have fx := fx0
    refine x_mut Wn rfl (by simp [ctx0, noH]) (hF := meant_fn gl _ p n hP hn (by simp [noH])) (h := ?_)
    rintro y H1 ⟨rfl, hO1⟩
    clear fx
    have hT1 := hO1.top
    simp only [wRow] at hT1
    have fx :=  hT1
    refine k_run ?_
    repeat ((first | refine w_sch (id := 4) (.q 0 <| .q 1 <| .q 2 <| .q 3 <| .q 4 <| .q 5 <| .q 6 <| .q 7 <| .q 8 <| .q 9 <| .l 10 [9, 8, 7, 6, 5] <| .l 11 [] <| .done) mixed (by kernel_rfl) (by kernel_rfl) ?_); refine k_rund ?_; refine k_run ?_)
    clear fx
    refine e_ret [] .nil (by simp; rfl) (by simp [madeG, hv])
end Go.Proofs.YtpckgioefpkmoaaGreat
end

section
set_option maxRecDepth 100000
set_option maxHeartbeats 4000000
set_option linter.unusedSimpArgs false
namespace Go.Proofs.YtpckgioefpkmoaaGreat
open Go Go.Hm Go.Proofs
theorem impl_MadeBy_fn (gl) (p : Prg) (f : Int) (hs : Sml p) : FnOk Tryz.prog gl 21 [pav p, iv f] (fun _ y _ => y = .tup [iv (madeG p f).1, iv (madeG p f).2]) := by
  refine FnOk.of_sem Tryz.func21 rfl (by kernel_rfl) (rs := [.tmp 4, .tmp 5]) rfl Tryz.ntmps21 (Nat.le_of_ble_eq_true rfl) fun C w g root => ?_
  cases hv0 : progOk p
  · have hv : fuelOk p f = false := by simp [fuelOk, hv0]
    have fx :=  hv0
    have c1 := hv0 ▸ impl_ValidProgram_fn gl p hs
    refine k_run ?_
    repeat ((first | refine w_sch (id := 4) (.q 0 <| .q 1 <| .q 2 <| .q 3 <| .q 4 <| .q 5 <| .q 6 <| .q 7 <| .q 8 <| .q 9 <| .l 10 [9, 8, 7, 6, 5] <| .l 11 [] <| .done) mixed (by kernel_rfl) (by kernel_rfl) ?_); refine k_rund ?_; refine k_run ?_)
    clear fx c1
    refine e_ret [] .nil (by simp; rfl) (by simp [madeG, hv])
  cases hv : fuelOk p f
  · have hf : (decide (0 ≤ f) && decide (f ≤ 150)) = false := by simpa [fuelOk, hv0] using hv
    have fx := And.intro hv0 <| hf
    have c1 := hv0 ▸ impl_ValidProgram_fn gl p hs
    have c2 := hf ▸ isFuel_fn gl f
    refine k_run ?_
    repeat ((first | refine w_sch (id := 4) (.q 0 <| .q 1 <| .q 2 <| .q 3 <| .q 4 <| .q 5 <| .q 6 <| .q 7 <| .q 8 <| .q 9 <| .l 10 [9, 8, 7, 6, 5] <| .l 11 [] <| .done) mixed (by kernel_rfl) (by kernel_rfl) ?_); refine k_rund ?_; refine k_run ?_)
    clear fx c1 c2
    refine e_ret [] .nil (by simp; rfl) (by simp [madeG, hv])
  · obtain ⟨hpo, n, rfl, hn⟩ := fuelOk_of hv
    have hP := ValP.of hs hpo
    have hf : (decide (0 ≤ (n : Int)) && decide ((n : Int) ≤ 150)) = true := by simpa [fuelOk, hv0] using hv
    have fx := And.intro hv0 <| hf
    have c1 := hv0 ▸ impl_ValidProgram_fn gl p hs
    have c2 := hf ▸ isFuel_fn gl n
    refine k_run ?_
    repeat ((first | refine w_sch (id := 4) (.q 0 <| .q 1 <| .q 2 <| .q 3 <| .q 4 <| .q 5 <| .q 6 <| .q 7 <| .q 8 <| .q 9 <| .l 10 [9, 8, 7, 6, 5] <| .l 11 [] <| .done) mixed (by kernel_rfl) (by kernel_rfl) ?_); refine k_rund ?_; refine k_run ?_)
    clear fx c1 c2
    intro K hK
    have fx := fx0
    refine x_mutM (fun k i j he => by simp [ctx0, noH] at he) (hF := meaningOf_fn gl _ p n hP hn (by simp [noH])) (h := ?_)
    rintro y H1 ⟨rfl, hO1⟩
    clear fx
    have hT1 := hO1.top
    simp only [mRow] at hT1
    have fx :=  hT1
    refine k_run ?_
    repeat ((first | refine w_sch (id := 4) (.q 0 <| .q 1 <| .q 2 <| .q 3 <| .q 4 <| .q 5 <| .q 6 <| .q 7 <| .q 8 <| .q 9 <| .l 10 [9, 8, 7, 6, 5] <| .l 11 [] <| .done) mixed (by kernel_rfl) (by kernel_rfl) ?_); refine k_rund ?_; refine k_run ?_)
    clear fx
    refine e_ret [] .nil (by simp; rfl) (by simp [madeG, hv])
end Go.Proofs.YtpckgioefpkmoaaGreat
end

section
set_option maxRecDepth 100000
set_option maxHeartbeats 4000000
set_option linter.unusedSimpArgs false
namespace Go.Proofs.YtpckgioefpkmoaaGreat
open Go Go.Hm Go.Proofs
theorem FnMadeBy_fn (gl : Nat → Option (List AV)) (code : List Int) (hcode : ∀ v ∈ code, 0 ≤ v ∧ v ≤ 255) (hbig : code.length ≤ 1152921504606846976) :
    FnOk Tryz.prog gl 8 [bsl code] (fun _ z _ => z = bv true) := by
  refine FnOk.of_sem Tryz.func8 rfl (by kernel_rfl) (rs := [.tmp 2]) rfl Tryz.ntmps8 (Nat.le_of_ble_eq_true rfl) fun C w g root => ?_
  by_cases hlen : 1048576 < code.length
  · have hl1 : (1048576 : Int) < code.length := by omega
    have fx :=  hl1
    refine k_run ?_
    repeat ((first | refine w_sch (id := 14) (.q 0 <| .q 1 <| .q 2 <| .q 3 <| .q 4 <| .q 5 <| .q 6 <| .q 7 <| .q 8 <| .q 9 <| .q 10 <| .q 11 <| .q 12 <| .q 13 <| .q 14 <| .q 15 <| .q 16 <| .q 17 <| .done) mixed (by kernel_rfl) (by kernel_rfl) ?_); refine k_rund ?_; refine k_run ?_)
    clear fx
    refine e_ret [] .nil (by simp; rfl) (by simp)
  have hl1 : ¬ (1048576 : Int) < code.length := by omega
  have hc : CodeOk code := ⟨by omega, hcode⟩
  have fx :=  hl1
  have e1 := DrawMadeBy_fn gl code hc
  refine k_run ?_
  repeat ((first | refine w_sch (id := 14) (.q 0 <| .q 1 <| .q 2 <| .q 3 <| .q 4 <| .q 5 <| .q 6 <| .q 7 <| .q 8 <| .q 9 <| .q 10 <| .q 11 <| .q 12 <| .q 13 <| .q 14 <| .q 15 <| .q 16 <| .q 17 <| .done) mixed (by kernel_rfl) (by kernel_rfl) ?_); refine k_rund ?_; refine k_run ?_)
  clear fx e1
  rintro K hK z H1 ⟨p, f, rfl, hO, hs⟩
  obtain ⟨ho1, ho2, ho3⟩ := hO.hcln
  refine ⟨by simp, ?_⟩
  have hpl := hs.len
  have fx :=  ho1
  refine k_run ?_
  repeat ((first | refine w_sch (id := 14) (.q 0 <| .q 1 <| .q 2 <| .q 3 <| .q 4 <| .q 5 <| .q 6 <| .q 7 <| .q 8 <| .q 9 <| .q 10 <| .q 11 <| .q 12 <| .q 13 <| .q 14 <| .q 15 <| .q 16 <| .q 17 <| .done) mixed (by kernel_rfl) (by kernel_rfl) ?_); refine k_rund ?_; refine k_run ?_)
  clear fx
  intro K hK
  refine o_abs (fun st => BoxP st 3 p ∧ st.tm 4 = iv f ∧ st.tm 24 = .agg [.hs (.c (.s 3) 0 0) 4 0 p.length] ∧ st.tm 25 = iv f) ⟨⟨by simp, by simp, ⟨by simp [ho1], fun j r hj => by simp [ho2 j r hj], fun j r hj => by simp [ho3 j r hj]⟩⟩, by simp, by simp, by simp⟩ ?_
  clear hO ho1 ho2 ho3
  rintro st ⟨⟨h3, hp3, ⟨a1, a2, a3⟩⟩, h4, h24, h25⟩
  have him := impl_MadeBy_fn gl p f hs
  have hsm := spec_MadeBy_fn gl p f hs
  have hit := impl_TraceByMeaning_fn gl p f hs
  have him2 := impl_MadeBy_fn gl p 150 hs
  cases hv : fuelOk p f
  · have e1 : madeG p f = (-1, -1) := by simp [madeG, hv]
    rw [e1] at him hsm
    have fx := And.intro h3 <| And.intro hp3 <| And.intro h4 <| And.intro h24 <| And.intro h25 <| @bne_def
    have c1 := him
    have c2 := hsm
    refine k_run ?_
    repeat ((first | refine w_sch (id := 14) (.q 0 <| .q 1 <| .q 2 <| .q 3 <| .q 4 <| .q 5 <| .q 6 <| .q 7 <| .q 8 <| .q 9 <| .q 10 <| .q 11 <| .q 12 <| .q 13 <| .q 14 <| .q 15 <| .q 16 <| .q 17 <| .done) mixed (by kernel_rfl) (by kernel_rfl) ?_); refine k_rund ?_; refine k_run ?_)
    clear fx c1 c2
    refine e_ret [] .nil (by simp; rfl) (by simp)
  obtain ⟨n, rfl, hn, hP, hm⟩ := fuel_run hs hv
  have hv2 : fuelOk p 150 = true := by
    simp only [fuelOk, Bool.and_eq_true, decide_eq_true_eq] at hv ⊢
    exact ⟨hv.1, by decide, by decide⟩
  obtain ⟨c3, c4, -⟩ := hm.counts
  have hmore := run_more (p := p) hn (Nat.le_refl 150)
  have e1 : madeG p n = ((cntK p 3 (meantW p n).trace : Int), ((meantW p n).classes.length : Int)) := by simp [madeG, hv, c3]
  have e2 : madeG p 150 = (((meantW p 150).funs.length : Int), ((meantW p 150).classes.length : Int)) := by simp [madeG, hv2]
  have e3 : trcG p n = (meantW p n).trace := by simp [trcG, hv]
  rw [e1] at him hsm
  rw [e2] at him2
  rw [e3] at hit
  have hst := fun t (ht : t ∈ (meantW p n).trace) => hm.stp ht
  have m1 := hmore.funs
  have m2 := hmore.cls
  have hTl : (meantW p n).trace.length ≤ 150 := by have := hm.tr; omega
  clear e1 e2 e3 hv hv2 hmore hm
  rw [c3] at m1
  clear c3
  generalize (meantW p n).trace = T at *
  generalize (meantW p n).classes.length = C at *
  generalize (meantW p 150).funs.length = F2 at *
  generalize (meantW p 150).classes.length = C2 at *
  have g0 : ¬ (cntK p 3 T : Int) < 0 := by omega
  have fx := And.intro h3 <| And.intro hp3 <| And.intro h4 <| And.intro h24 <| And.intro h25 <| And.intro @bne_def <| g0
  have c1 := him
  have c2 := hsm
  have d1 := hit
  refine k_run ?_
  repeat ((first | refine w_sch (id := 14) (.q 0 <| .q 1 <| .q 2 <| .q 3 <| .q 4 <| .q 5 <| .q 6 <| .q 7 <| .q 8 <| .q 9 <| .q 10 <| .q 11 <| .q 12 <| .q 13 <| .q 14 <| .q 15 <| .q 16 <| .q 17 <| .done) mixed (by kernel_rfl) (by kernel_rfl) ?_); refine k_rund ?_; refine k_run ?_)
  clear fx c1 c2 d1
  refine w_loop (fun n0 st => ∃ i : Nat, n0 = T.length - i ∧ i ≤ T.length ∧ st.tm 12 = iv i ∧ st.tm 10 = iv (cntK p 3 (T.take i)) ∧ st.tm 11 = iv (cntK p 4 (T.take i)) ∧ st.tm 9 = .hs (.s 9) 2 0 T.length ∧ st.hp (.s 9) = some (.row 2 (nrows T)) ∧ BoxP st 3 p ∧ st.tm 5 = iv (cntK p 3 T) ∧ st.tm 6 = iv C) T.length ?_ ?_
  · exact ⟨0, by omega, by omega, by simp, by simp [cntK], by simp [cntK], by simp, by simp, ⟨by simp [h3], by simp [hp3], ⟨by simp [a1], fun j r hj => by simp [a2 j r hj], fun j r hj => by simp [a3 j r hj]⟩⟩, by simp, by simp⟩
  clear h3 hp3 a1 a2 a3 h4 h24 h25 him hsm
  rintro n0 st - - ⟨i, rfl, hi, h12, h10, h11, h9, hp9, ⟨h3, hp3, ⟨a1, a2, a3⟩⟩, h5, h6⟩
  by_cases hil : i < T.length
  · obtain ⟨t, ht⟩ : ∃ t, T[i]? = some t := ⟨_, List.getElem?_eq_getElem hil⟩
    obtain ⟨_, htE⟩ := List.getElem?_eq_some_iff.1 ht
    obtain ⟨k, s, hk, hsk, hkd⟩ := hst t (List.mem_of_getElem? ht)
    obtain ⟨hkl, hkE⟩ := List.getElem?_eq_some_iff.1 hk
    obtain ⟨hsl, hsE⟩ := List.getElem?_eq_some_iff.1 hsk
    have a3k := a3 t.1 k hk
    have t3 := cntK_take (p := p) (d := 3) ht
    have t4 := cntK_take (p := p) (d := 4) ht
    have w3 : cntK p 3 (T.take i) ≤ 150 := Nat.le_trans cntK_le (by simp; omega)
    have w4 : cntK p 4 (T.take i) ≤ 150 := Nat.le_trans cntK_le (by simp; omega)
    rw [hkd] at t3 t4
    have l1 : (t.1 : Int) < p.length := by omega
    have l2 : (t.2 : Int) < k.body.length := by omega
    by_cases e3 : s.kind = 3
    · have e3' : (s.kind == 3) = true := by simpa using e3
      have fx := And.intro h3 <| And.intro hp3 <| And.intro a1 <| And.intro h5 <| And.intro h6 <| And.intro h9 <| And.intro hp9 <| And.intro h10 <| And.intro h11 <| And.intro h12 <| And.intro hil <| And.intro ht <| And.intro htE <| And.intro hk <| And.intro hkE <| And.intro hkl <| And.intro hsk <| And.intro hsE <| And.intro hsl <| And.intro a3k <| e3'
      refine k_run ?_
      repeat ((first | refine w_sch (id := 14) (.q 0 <| .q 1 <| .q 2 <| .q 3 <| .q 4 <| .q 5 <| .q 6 <| .q 7 <| .q 8 <| .q 9 <| .q 10 <| .q 11 <| .q 12 <| .q 13 <| .q 14 <| .q 15 <| .q 16 <| .q 17 <| .done) mixed (by kernel_rfl) (by kernel_rfl) ?_); refine k_rund ?_; refine k_run ?_)
      clear fx
      refine ⟨T.length - (i + 1), by omega, i + 1, rfl, by omega, by simp; exact wrp (by omega) (by omega), ?_, ?_, by simp [h9], by simp [hp9], ⟨by simp [h3], by simp [hp3], ⟨by simp [a1], fun j r hj => by simp [a2 j r hj], fun j r hj => by simp [a3 j r hj]⟩⟩, by simp [h5], by simp [h6]⟩
      · simp [t3, e3]; exact wrp (by omega) (by omega)
      · simp [t4, e3, h11]
    have e3' : (s.kind == 3) = false := by simpa using e3
    by_cases e4 : s.kind = 4
    · have e4' : (s.kind == 4) = true := by simpa using e4
      have fx := And.intro h3 <| And.intro hp3 <| And.intro a1 <| And.intro h5 <| And.intro h6 <| And.intro h9 <| And.intro hp9 <| And.intro h10 <| And.intro h11 <| And.intro h12 <| And.intro hil <| And.intro ht <| And.intro htE <| And.intro hk <| And.intro hkE <| And.intro hkl <| And.intro hsk <| And.intro hsE <| And.intro hsl <| And.intro a3k <| And.intro e3' <| e4'
      refine k_run ?_
      repeat ((first | refine w_sch (id := 14) (.q 0 <| .q 1 <| .q 2 <| .q 3 <| .q 4 <| .q 5 <| .q 6 <| .q 7 <| .q 8 <| .q 9 <| .q 10 <| .q 11 <| .q 12 <| .q 13 <| .q 14 <| .q 15 <| .q 16 <| .q 17 <| .done) mixed (by kernel_rfl) (by kernel_rfl) ?_); refine k_rund ?_; refine k_run ?_)
      clear fx
      refine ⟨T.length - (i + 1), by omega, i + 1, rfl, by omega, by simp; exact wrp (by omega) (by omega), ?_, ?_, by simp [h9], by simp [hp9], ⟨by simp [h3], by simp [hp3], ⟨by simp [a1], fun j r hj => by simp [a2 j r hj], fun j r hj => by simp [a3 j r hj]⟩⟩, by simp [h5], by simp [h6]⟩
      · simp [t3, e4, h10]
      · simp [t4, e4]; exact wrp (by omega) (by omega)
    have e4' : (s.kind == 4) = false := by simpa using e4
    have fx := And.intro h3 <| And.intro hp3 <| And.intro a1 <| And.intro h5 <| And.intro h6 <| And.intro h9 <| And.intro hp9 <| And.intro h10 <| And.intro h11 <| And.intro h12 <| And.intro hil <| And.intro ht <| And.intro htE <| And.intro hk <| And.intro hkE <| And.intro hkl <| And.intro hsk <| And.intro hsE <| And.intro hsl <| And.intro a3k <| And.intro e3' <| e4'
    refine k_run ?_
    repeat ((first | refine w_sch (id := 14) (.q 0 <| .q 1 <| .q 2 <| .q 3 <| .q 4 <| .q 5 <| .q 6 <| .q 7 <| .q 8 <| .q 9 <| .q 10 <| .q 11 <| .q 12 <| .q 13 <| .q 14 <| .q 15 <| .q 16 <| .q 17 <| .done) mixed (by kernel_rfl) (by kernel_rfl) ?_); refine k_rund ?_; refine k_run ?_)
    clear fx
    refine ⟨T.length - (i + 1), by omega, i + 1, rfl, by omega, by simp; exact wrp (by omega) (by omega), ?_, ?_, by simp [h9], by simp [hp9], ⟨by simp [h3], by simp [hp3], ⟨by simp [a1], fun j r hj => by simp [a2 j r hj], fun j r hj => by simp [a3 j r hj]⟩⟩, by simp [h5], by simp [h6]⟩
    · simp [t3, e3, h10]
    · simp [t4, e4, h11]
  · obtain rfl : i = T.length := by omega
    rw [List.take_length] at h10 h11
    have hle : ¬ (C : Int) > cntK p 4 T := by omega
    have hle' : (C : Int) ≤ cntK p 4 T := by omega
    have m1' : (cntK p 3 T : Int) ≤ F2 := by omega
    have m2' : (C : Int) ≤ C2 := by omega
    have fx := And.intro h3 <| And.intro hp3 <| And.intro a1 <| And.intro h5 <| And.intro h6 <| And.intro h9 <| And.intro hp9 <| And.intro h10 <| And.intro h11 <| And.intro h12 <| And.intro hil <| And.intro @bne_def <| And.intro m1 <| And.intro m2 <| c4
    have c1 := him2
    refine k_run ?_
    repeat ((first | refine w_sch (id := 14) (.q 0 <| .q 1 <| .q 2 <| .q 3 <| .q 4 <| .q 5 <| .q 6 <| .q 7 <| .q 8 <| .q 9 <| .q 10 <| .q 11 <| .q 12 <| .q 13 <| .q 14 <| .q 15 <| .q 16 <| .q 17 <| .done) mixed (by kernel_rfl) (by kernel_rfl) ?_); refine k_rund ?_; refine k_run ?_)
    clear fx c1
    refine e_ret [] .nil (by simp; rfl) (by simp)
end Go.Proofs.YtpckgioefpkmoaaGreat
end
