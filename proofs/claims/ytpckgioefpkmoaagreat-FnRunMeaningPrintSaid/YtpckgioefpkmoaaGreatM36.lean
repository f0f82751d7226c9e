/-
  Own texts, joined by mkclaim.py: Su.
-/
import Derived.Test.YtpckgioefpkmoaaGreatM33
import Derived.Test.YtpckgioefpkmoaaGreatM31
import Derived.Test.YtpckgioefpkmoaaGreatM32
import Derived.Test.YtpckgioefpkmoaaGreatM30
set_option linter.unusedSimpArgs false
set_option linter.unusedVariables false

section
set_option maxRecDepth 100000
set_option maxHeartbeats 4000000
set_option linter.unusedSimpArgs false
namespace Go.Proofs.YtpckgioefpkmoaaGreat
open Go Go.Hm Go.Proofs
theorem FnRunMeaningPrint_fn (gl : Nat → Option (List AV)) (code : List Int) (hcode : ∀ v ∈ code, 0 ≤ v ∧ v ≤ 255) (hbig : code.length ≤ 1152921504606846976) :
    FnOk Tryz.prog gl 13 [bsl code] (fun _ z _ => z = bv true) := by
  refine FnOk.of_sem Tryz.func13 rfl (by kernel_rfl) (rs := [.tmp 2]) rfl Tryz.ntmps13 (Nat.le_of_ble_eq_true rfl) fun C w g root => ?_
  by_cases hlen : 1048576 < code.length
  · have hl1 : (1048576 : Int) < code.length := by omega
    have fx :=  hl1
    refine k_run ?_
    repeat ((first | refine w_sch (id := 5) (.q 0 <| .q 1 <| .q 2 <| .l 3 [0] <| .l 4 [] <| .q 5 <| .q 6 <| .q 7 <| .q 8 <| .q 9 <| .q 10 <| .q 11 <| .done) mixed (by kernel_rfl) (by kernel_rfl) ?_ | refine w_sch (id := 6) (.q 0 <| .q 1 <| .q 2 <| .l 3 [0] <| .l 4 [] <| .l 5 [] <| .done) mixed (by kernel_rfl) (by kernel_rfl) ?_ | refine w_sch (id := 12) (.q 0 <| .q 1 <| .q 2 <| .q 3 <| .q 4 <| .q 5 <| .q 6 <| .q 7 <| .q 8 <| .q 9 <| .q 10 <| .q 11 <| .q 12 <| .q 13 <| .q 14 <| .q 15 <| .q 16 <| .q 17 <| .q 18 <| .done) mixed (by kernel_rfl) (by kernel_rfl) ?_); refine k_rund ?_; refine k_run ?_)
    clear fx
    refine e_ret [] .nil (by simp; rfl) (by simp)
  have hl1 : ¬ (1048576 : Int) < code.length := by omega
  have hc : CodeOk code := ⟨by omega, hcode⟩
  have fx :=  hl1
  have e1 := DrawRunMeaning_fn gl code hc
  refine k_run ?_
  repeat ((first | refine w_sch (id := 5) (.q 0 <| .q 1 <| .q 2 <| .l 3 [0] <| .l 4 [] <| .q 5 <| .q 6 <| .q 7 <| .q 8 <| .q 9 <| .q 10 <| .q 11 <| .done) mixed (by kernel_rfl) (by kernel_rfl) ?_ | refine w_sch (id := 6) (.q 0 <| .q 1 <| .q 2 <| .l 3 [0] <| .l 4 [] <| .l 5 [] <| .done) mixed (by kernel_rfl) (by kernel_rfl) ?_ | refine w_sch (id := 12) (.q 0 <| .q 1 <| .q 2 <| .q 3 <| .q 4 <| .q 5 <| .q 6 <| .q 7 <| .q 8 <| .q 9 <| .q 10 <| .q 11 <| .q 12 <| .q 13 <| .q 14 <| .q 15 <| .q 16 <| .q 17 <| .q 18 <| .done) mixed (by kernel_rfl) (by kernel_rfl) ?_); refine k_rund ?_; refine k_run ?_)
  clear fx e1
  rintro K hK z H1 ⟨p, f, rfl, hO, hs⟩
  obtain ⟨ho1, ho2, ho3⟩ := hO.hcln
  refine ⟨by simp, ?_⟩
  have hpl := hs.len
  have hia := impl_RunMeaning_fn gl p f hs
  have hsa := spec_RunMeaning_fn gl p f hs
  obtain ⟨hl1, hl2⟩ := resG_len (f := f) hs
  have heq := equalResult_fn gl (resG p f) (by omega) (by omega)
  have fx :=  ho1
  have e1 := hia
  refine k_run ?_
  repeat ((first | refine w_sch (id := 5) (.q 0 <| .q 1 <| .q 2 <| .l 3 [0] <| .l 4 [] <| .q 5 <| .q 6 <| .q 7 <| .q 8 <| .q 9 <| .q 10 <| .q 11 <| .done) mixed (by kernel_rfl) (by kernel_rfl) ?_ | refine w_sch (id := 6) (.q 0 <| .q 1 <| .q 2 <| .l 3 [0] <| .l 4 [] <| .l 5 [] <| .done) mixed (by kernel_rfl) (by kernel_rfl) ?_ | refine w_sch (id := 12) (.q 0 <| .q 1 <| .q 2 <| .q 3 <| .q 4 <| .q 5 <| .q 6 <| .q 7 <| .q 8 <| .q 9 <| .q 10 <| .q 11 <| .q 12 <| .q 13 <| .q 14 <| .q 15 <| .q 16 <| .q 17 <| .q 18 <| .done) mixed (by kernel_rfl) (by kernel_rfl) ?_); refine k_rund ?_; refine k_run ?_)
  clear fx e1
  rintro K hK y H2 ⟨rfl, hR⟩
  obtain ⟨r1, r2⟩ := hR.hcln
  refine ⟨by simp, ?_⟩
  have fx := And.intro ho1 <| And.intro r1 <| r2
  refine k_run ?_
  repeat ((first | refine w_sch (id := 5) (.q 0 <| .q 1 <| .q 2 <| .l 3 [0] <| .l 4 [] <| .q 5 <| .q 6 <| .q 7 <| .q 8 <| .q 9 <| .q 10 <| .q 11 <| .done) mixed (by kernel_rfl) (by kernel_rfl) ?_ | refine w_sch (id := 6) (.q 0 <| .q 1 <| .q 2 <| .l 3 [0] <| .l 4 [] <| .l 5 [] <| .done) mixed (by kernel_rfl) (by kernel_rfl) ?_ | refine w_sch (id := 12) (.q 0 <| .q 1 <| .q 2 <| .q 3 <| .q 4 <| .q 5 <| .q 6 <| .q 7 <| .q 8 <| .q 9 <| .q 10 <| .q 11 <| .q 12 <| .q 13 <| .q 14 <| .q 15 <| .q 16 <| .q 17 <| .q 18 <| .done) mixed (by kernel_rfl) (by kernel_rfl) ?_); refine k_rund ?_; refine k_run ?_)
  clear fx
  intro K hK
  refine o_abs (fun st => BoxP st 3 p ∧ st.tm 4 = iv f ∧ st.tm 5 = .pt (.s 5) 0 ∧ st.hp (.s 5) = some (.row 4 [(resG p f).own (.s 19)]) ∧ OwnR st.hp (.s 19) (resG p f) ∧ st.tm 20 = .agg ((resG p f).own (.s 19)) ∧ st.tm 21 = .agg [.hs (.c (.s 3) 0 0) 4 0 p.length] ∧ st.tm 22 = iv f)
    ⟨⟨by simp, by simp, ⟨by simp [ho1], fun j r hj => by simp [ho2 j r hj], fun j r hj => by simp [ho3 j r hj]⟩⟩, by simp, by simp, by simp, ⟨by simp [r1], by simp [r2]⟩, by simp, by simp, by simp⟩ ?_
  clear hO ho1 ho2 ho3 hR r1 r2
  rintro st ⟨⟨h3, hp3, ⟨a1, a2, a3⟩⟩, h4, h5, hp5, ⟨r1, r2⟩, h18, h19, h20⟩
  rw [Rsl.own_eq] at hp5 h18
  have fx := And.intro h3 <| And.intro hp3 <| And.intro h4 <| And.intro h5 <| And.intro hp5 <| And.intro h18 <| And.intro h19 <| h20
  have e1 := hsa
  refine k_run ?_
  repeat ((first | refine w_sch (id := 5) (.q 0 <| .q 1 <| .q 2 <| .l 3 [0] <| .l 4 [] <| .q 5 <| .q 6 <| .q 7 <| .q 8 <| .q 9 <| .q 10 <| .q 11 <| .done) mixed (by kernel_rfl) (by kernel_rfl) ?_ | refine w_sch (id := 6) (.q 0 <| .q 1 <| .q 2 <| .l 3 [0] <| .l 4 [] <| .l 5 [] <| .done) mixed (by kernel_rfl) (by kernel_rfl) ?_ | refine w_sch (id := 12) (.q 0 <| .q 1 <| .q 2 <| .q 3 <| .q 4 <| .q 5 <| .q 6 <| .q 7 <| .q 8 <| .q 9 <| .q 10 <| .q 11 <| .q 12 <| .q 13 <| .q 14 <| .q 15 <| .q 16 <| .q 17 <| .q 18 <| .done) mixed (by kernel_rfl) (by kernel_rfl) ?_); refine k_rund ?_; refine k_run ?_)
  clear fx e1
  rintro y H3 ⟨rfl, hR⟩
  obtain ⟨s1, s2⟩ := hR.hcln
  refine ⟨by simp, ?_⟩
  have fx := And.intro h3 <| And.intro hp3 <| And.intro h4 <| And.intro h5 <| And.intro hp5 <| And.intro h18 <| And.intro h19 <| h20
  refine k_run ?_
  repeat ((first | refine w_sch (id := 5) (.q 0 <| .q 1 <| .q 2 <| .l 3 [0] <| .l 4 [] <| .q 5 <| .q 6 <| .q 7 <| .q 8 <| .q 9 <| .q 10 <| .q 11 <| .done) mixed (by kernel_rfl) (by kernel_rfl) ?_ | refine w_sch (id := 6) (.q 0 <| .q 1 <| .q 2 <| .l 3 [0] <| .l 4 [] <| .l 5 [] <| .done) mixed (by kernel_rfl) (by kernel_rfl) ?_ | refine w_sch (id := 12) (.q 0 <| .q 1 <| .q 2 <| .q 3 <| .q 4 <| .q 5 <| .q 6 <| .q 7 <| .q 8 <| .q 9 <| .q 10 <| .q 11 <| .q 12 <| .q 13 <| .q 14 <| .q 15 <| .q 16 <| .q 17 <| .q 18 <| .done) mixed (by kernel_rfl) (by kernel_rfl) ?_); refine k_rund ?_; refine k_run ?_)
  clear fx
  have fx := And.intro h18 h18
  refine kx_call (hB := .cons (bw_rsl (n := .s 19) (r := resG p f) ⟨by simp [r1], by simp [r2]⟩) (.cons (bw_rsl (n := .s 23) (r := resG p f) ⟨by simp [s1], by simp [s2]⟩) .nil)) (hF := heq) (h := ?_)
  clear fx
  have hgl : (resG p f).gl.length = if fuelOk p f = true then 8 else 0 := by
    cases hv : fuelOk p f
    · simp [resG, hv]
    · obtain ⟨n, rfl, -, -, hm⟩ := fuel_run hs hv
      have := hm.ok.glob.1
      simp [resG, hv, resW, shownS, this]
  cases hv : fuelOk p f
  · have hg0 : (((resG p f).gl.length : Int) == 0) = true := by rw [hgl, hv]; rfl
    clear hgl
    generalize resG p f = R at *
    have fx := And.intro h3 <| And.intro hp3 <| And.intro h4 <| And.intro h5 <| And.intro hp5 <| And.intro h18 <| And.intro h19 <| And.intro h20 <| hg0
    have e1 := hsa
    refine k_run ?_
    repeat ((first | refine w_sch (id := 5) (.q 0 <| .q 1 <| .q 2 <| .l 3 [0] <| .l 4 [] <| .q 5 <| .q 6 <| .q 7 <| .q 8 <| .q 9 <| .q 10 <| .q 11 <| .done) mixed (by kernel_rfl) (by kernel_rfl) ?_ | refine w_sch (id := 6) (.q 0 <| .q 1 <| .q 2 <| .l 3 [0] <| .l 4 [] <| .l 5 [] <| .done) mixed (by kernel_rfl) (by kernel_rfl) ?_ | refine w_sch (id := 12) (.q 0 <| .q 1 <| .q 2 <| .q 3 <| .q 4 <| .q 5 <| .q 6 <| .q 7 <| .q 8 <| .q 9 <| .q 10 <| .q 11 <| .q 12 <| .q 13 <| .q 14 <| .q 15 <| .q 16 <| .q 17 <| .q 18 <| .done) mixed (by kernel_rfl) (by kernel_rfl) ?_); refine k_rund ?_; refine k_run ?_)
    clear fx e1
    rintro K hK y H4 ⟨rfl, hRR⟩
    obtain ⟨t1, t2⟩ := hRR.hcln
    refine ⟨by simp, ?_⟩
    have fx := And.intro h3 <| And.intro hp3 <| And.intro h4 <| And.intro h5 <| hp5
    refine k_run ?_
    repeat ((first | refine w_sch (id := 5) (.q 0 <| .q 1 <| .q 2 <| .l 3 [0] <| .l 4 [] <| .q 5 <| .q 6 <| .q 7 <| .q 8 <| .q 9 <| .q 10 <| .q 11 <| .done) mixed (by kernel_rfl) (by kernel_rfl) ?_ | refine w_sch (id := 6) (.q 0 <| .q 1 <| .q 2 <| .l 3 [0] <| .l 4 [] <| .l 5 [] <| .done) mixed (by kernel_rfl) (by kernel_rfl) ?_ | refine w_sch (id := 12) (.q 0 <| .q 1 <| .q 2 <| .q 3 <| .q 4 <| .q 5 <| .q 6 <| .q 7 <| .q 8 <| .q 9 <| .q 10 <| .q 11 <| .q 12 <| .q 13 <| .q 14 <| .q 15 <| .q 16 <| .q 17 <| .q 18 <| .done) mixed (by kernel_rfl) (by kernel_rfl) ?_); refine k_rund ?_; refine k_run ?_)
    clear fx
    have fx := And.intro hp5 h5
    refine kx_call (hB := .cons (bw_rsl (n := .s 19) (r := R) ⟨by simp [r1], by simp [r2]⟩) (.cons (bw_rsl (n := .s 35) (r := R) ⟨by simp [t1], by simp [t2]⟩) .nil)) (hF := heq) (h := ?_)
    clear fx
    have fx := And.intro h3 <| And.intro hp3 <| And.intro h4 <| And.intro h5 <| hp5
    refine k_run ?_
    repeat ((first | refine w_sch (id := 5) (.q 0 <| .q 1 <| .q 2 <| .l 3 [0] <| .l 4 [] <| .q 5 <| .q 6 <| .q 7 <| .q 8 <| .q 9 <| .q 10 <| .q 11 <| .done) mixed (by kernel_rfl) (by kernel_rfl) ?_ | refine w_sch (id := 6) (.q 0 <| .q 1 <| .q 2 <| .l 3 [0] <| .l 4 [] <| .l 5 [] <| .done) mixed (by kernel_rfl) (by kernel_rfl) ?_ | refine w_sch (id := 12) (.q 0 <| .q 1 <| .q 2 <| .q 3 <| .q 4 <| .q 5 <| .q 6 <| .q 7 <| .q 8 <| .q 9 <| .q 10 <| .q 11 <| .q 12 <| .q 13 <| .q 14 <| .q 15 <| .q 16 <| .q 17 <| .q 18 <| .done) mixed (by kernel_rfl) (by kernel_rfl) ?_); refine k_rund ?_; refine k_run ?_)
    clear fx
    refine e_ret [] .nil (by simp; rfl) (by simp)
  obtain ⟨n, rfl, hn, hP, hm⟩ := fuel_run hs hv
  have hg0 : (((resG p n).gl.length : Int) == 0) = false := by rw [hgl, hv]; rfl
  have hG1 : resG p n = resW (meantW p n) := by simp [resG, hv]
  obtain ⟨-, -, c7⟩ := hm.counts
  have hit := impl_TraceByMeaning_fn gl p n hs
  have e3 : trcG p n = (meantW p n).trace := by simp [trcG, hv]
  rw [e3] at hit
  have hst := fun t (ht : t ∈ (meantW p n).trace) => hm.stp ht
  have hTl : (meantW p n).trace.length ≤ 150 := by have := hm.tr; omega
  have b7 : (resG p n).out.length = cntK p 7 (meantW p n).trace ∨ ((resG p n).out.length + 1 = cntK p 7 (meantW p n).trace ∧ 2 ≤ (resG p n).en ∧ (resG p n).en ≤ 4) := by rw [hG1]; exact c7
  clear hG1 hm hgl e3 c7
  generalize resG p n = R at *
  generalize (meantW p n).trace = T at *
  have fx := And.intro h3 <| And.intro hp3 <| And.intro h4 <| And.intro h5 <| And.intro hp5 <| And.intro h18 <| And.intro h19 <| And.intro h20 <| And.intro a1 <| hg0
  have d1 := hit
  refine k_run ?_
  repeat ((first | refine w_sch (id := 5) (.q 0 <| .q 1 <| .q 2 <| .l 3 [0] <| .l 4 [] <| .q 5 <| .q 6 <| .q 7 <| .q 8 <| .q 9 <| .q 10 <| .q 11 <| .done) mixed (by kernel_rfl) (by kernel_rfl) ?_ | refine w_sch (id := 6) (.q 0 <| .q 1 <| .q 2 <| .l 3 [0] <| .l 4 [] <| .l 5 [] <| .done) mixed (by kernel_rfl) (by kernel_rfl) ?_ | refine w_sch (id := 12) (.q 0 <| .q 1 <| .q 2 <| .q 3 <| .q 4 <| .q 5 <| .q 6 <| .q 7 <| .q 8 <| .q 9 <| .q 10 <| .q 11 <| .q 12 <| .q 13 <| .q 14 <| .q 15 <| .q 16 <| .q 17 <| .q 18 <| .done) mixed (by kernel_rfl) (by kernel_rfl) ?_); refine k_rund ?_; refine k_run ?_)
  clear fx d1
  refine w_loop (fun n0 st => ∃ i : Nat, n0 = T.length - i ∧ i ≤ T.length ∧ st.tm 8 = iv i ∧ st.tm 7 = iv (cntK p 7 (T.take i)) ∧ st.tm 6 = .hs (.s 6) 2 0 T.length ∧ st.hp (.s 6) = some (.row 2 (nrows T)) ∧ BoxP st 3 p ∧ st.tm 5 = .pt (.s 5) 0 ∧ st.hp (.s 5) = some (.row 4 [R.own (.s 19)])) T.length ?_ ?_
  · exact ⟨0, by omega, by omega, by simp, by simp [cntK], by simp, by simp, ⟨by simp [h3], by simp [hp3], ⟨by simp [a1], fun j r hj => by simp [a2 j r hj], fun j r hj => by simp [a3 j r hj]⟩⟩, by simp [h5], by simp [hp5]⟩
  clear h3 hp3 a1 a2 a3 h4 h5 hp5 r1 r2 h18 h19 h20 s1 s2 hR hit heq hia hsa
  rintro n0 st - - ⟨i, rfl, hi, h8, h7, h6, hp6, ⟨h3, hp3, ⟨a1, a2, a3⟩⟩, h5, hp5⟩
  rw [Rsl.own_eq] at hp5
  by_cases hil : i < T.length
  · obtain ⟨t, ht⟩ : ∃ t, T[i]? = some t := ⟨_, List.getElem?_eq_getElem hil⟩
    obtain ⟨_, htE⟩ := List.getElem?_eq_some_iff.1 ht
    obtain ⟨k, s, hk, hsk, hkd⟩ := hst t (List.mem_of_getElem? ht)
    obtain ⟨hkl, hkE⟩ := List.getElem?_eq_some_iff.1 hk
    obtain ⟨hsl, hsE⟩ := List.getElem?_eq_some_iff.1 hsk
    have a3k := a3 t.1 k hk
    have t7 := cntK_take (p := p) (d := 7) ht
    have w7 : cntK p 7 (T.take i) ≤ 150 := Nat.le_trans cntK_le (by simp; omega)
    rw [hkd] at t7
    by_cases e7 : s.kind = 7
    · have e7' : (s.kind == 7) = true := by simpa using e7
      have fx := And.intro h3 <| And.intro hp3 <| And.intro a1 <| And.intro h5 <| And.intro hp5 <| And.intro h6 <| And.intro hp6 <| And.intro h7 <| And.intro h8 <| And.intro hil <| And.intro ht <| And.intro htE <| And.intro hk <| And.intro hkE <| And.intro hkl <| And.intro hsk <| And.intro hsE <| And.intro hsl <| And.intro a3k <| e7'
      refine k_run ?_
      repeat ((first | refine w_sch (id := 5) (.q 0 <| .q 1 <| .q 2 <| .l 3 [0] <| .l 4 [] <| .q 5 <| .q 6 <| .q 7 <| .q 8 <| .q 9 <| .q 10 <| .q 11 <| .done) mixed (by kernel_rfl) (by kernel_rfl) ?_ | refine w_sch (id := 6) (.q 0 <| .q 1 <| .q 2 <| .l 3 [0] <| .l 4 [] <| .l 5 [] <| .done) mixed (by kernel_rfl) (by kernel_rfl) ?_ | refine w_sch (id := 12) (.q 0 <| .q 1 <| .q 2 <| .q 3 <| .q 4 <| .q 5 <| .q 6 <| .q 7 <| .q 8 <| .q 9 <| .q 10 <| .q 11 <| .q 12 <| .q 13 <| .q 14 <| .q 15 <| .q 16 <| .q 17 <| .q 18 <| .done) mixed (by kernel_rfl) (by kernel_rfl) ?_); refine k_rund ?_; refine k_run ?_)
      clear fx
      refine ⟨T.length - (i + 1), by omega, i + 1, rfl, by omega, by simp; exact wrp (by omega) (by omega), ?_, by simp [h6], by simp [hp6], ⟨by simp [h3], by simp [hp3], ⟨by simp [a1], fun j r hj => by simp [a2 j r hj], fun j r hj => by simp [a3 j r hj]⟩⟩, by simp [h5], by simp [hp5]⟩
      simp [t7, e7]
      exact wrp (by omega) (by omega)
    have e7' : (s.kind == 7) = false := by simpa using e7
    have fx := And.intro h3 <| And.intro hp3 <| And.intro a1 <| And.intro h5 <| And.intro hp5 <| And.intro h6 <| And.intro hp6 <| And.intro h7 <| And.intro h8 <| And.intro hil <| And.intro ht <| And.intro htE <| And.intro hk <| And.intro hkE <| And.intro hkl <| And.intro hsk <| And.intro hsE <| And.intro hsl <| And.intro a3k <| e7'
    refine k_run ?_
    repeat ((first | refine w_sch (id := 5) (.q 0 <| .q 1 <| .q 2 <| .l 3 [0] <| .l 4 [] <| .q 5 <| .q 6 <| .q 7 <| .q 8 <| .q 9 <| .q 10 <| .q 11 <| .done) mixed (by kernel_rfl) (by kernel_rfl) ?_ | refine w_sch (id := 6) (.q 0 <| .q 1 <| .q 2 <| .l 3 [0] <| .l 4 [] <| .l 5 [] <| .done) mixed (by kernel_rfl) (by kernel_rfl) ?_ | refine w_sch (id := 12) (.q 0 <| .q 1 <| .q 2 <| .q 3 <| .q 4 <| .q 5 <| .q 6 <| .q 7 <| .q 8 <| .q 9 <| .q 10 <| .q 11 <| .q 12 <| .q 13 <| .q 14 <| .q 15 <| .q 16 <| .q 17 <| .q 18 <| .done) mixed (by kernel_rfl) (by kernel_rfl) ?_); refine k_rund ?_; refine k_run ?_)
    clear fx
    refine ⟨T.length - (i + 1), by omega, i + 1, rfl, by omega, by simp; exact wrp (by omega) (by omega), ?_, by simp [h6], by simp [hp6], ⟨by simp [h3], by simp [hp3], ⟨by simp [a1], fun j r hj => by simp [a2 j r hj], fun j r hj => by simp [a3 j r hj]⟩⟩, by simp [h5], by simp [hp5]⟩
    simp [t7, e7, h7]
  · obtain rfl : i = T.length := by omega
    rw [List.take_length] at h7
    have hcl : cntK p 7 T ≤ 150 := Nat.le_trans cntK_le hTl
    have hw : IntKind.i64.wrap ((cntK p 7 T : Int) - 1) = (cntK p 7 T : Int) - 1 := wrp (by omega) (by omega)
    rcases b7 with b7 | ⟨b7, b8, b9⟩
    · have q1 : ((R.out.length : Int) == (cntK p 7 T : Int)) = true := by simp only [beq_iff_eq]; omega
      have fx := And.intro h3 <| And.intro hp3 <| And.intro h5 <| And.intro hp5 <| And.intro h6 <| And.intro hp6 <| And.intro h7 <| And.intro h8 <| And.intro hil <| q1
      refine k_run ?_
      repeat ((first | refine w_sch (id := 5) (.q 0 <| .q 1 <| .q 2 <| .l 3 [0] <| .l 4 [] <| .q 5 <| .q 6 <| .q 7 <| .q 8 <| .q 9 <| .q 10 <| .q 11 <| .done) mixed (by kernel_rfl) (by kernel_rfl) ?_ | refine w_sch (id := 6) (.q 0 <| .q 1 <| .q 2 <| .l 3 [0] <| .l 4 [] <| .l 5 [] <| .done) mixed (by kernel_rfl) (by kernel_rfl) ?_ | refine w_sch (id := 12) (.q 0 <| .q 1 <| .q 2 <| .q 3 <| .q 4 <| .q 5 <| .q 6 <| .q 7 <| .q 8 <| .q 9 <| .q 10 <| .q 11 <| .q 12 <| .q 13 <| .q 14 <| .q 15 <| .q 16 <| .q 17 <| .q 18 <| .done) mixed (by kernel_rfl) (by kernel_rfl) ?_); refine k_rund ?_; refine k_run ?_)
      clear fx
      refine e_ret [] .nil (by simp; rfl) (by simp)
    · have q1 : ((R.out.length : Int) == (cntK p 7 T : Int)) = false := by simp only [beq_eq_false_iff_ne]; omega
      have q2 : ((R.out.length : Int) == (cntK p 7 T : Int) - 1) = true := by simp only [beq_iff_eq]; omega
      have hen : R.en = 2 ∨ R.en = 3 ∨ R.en = 4 := by omega
      rcases hen with he | he | he
      all_goals
        obtain ⟨ro, re, rl, rg⟩ := R
        simp only at he q1 q2 hp5
        subst he
      · skip
        have fx := And.intro h3 <| And.intro hp3 <| And.intro h5 <| And.intro hp5 <| And.intro h6 <| And.intro hp6 <| And.intro h7 <| And.intro h8 <| And.intro hil <| And.intro q1 <| And.intro hw <| q2
        refine k_run ?_
        repeat ((first | refine w_sch (id := 5) (.q 0 <| .q 1 <| .q 2 <| .l 3 [0] <| .l 4 [] <| .q 5 <| .q 6 <| .q 7 <| .q 8 <| .q 9 <| .q 10 <| .q 11 <| .done) mixed (by kernel_rfl) (by kernel_rfl) ?_ | refine w_sch (id := 6) (.q 0 <| .q 1 <| .q 2 <| .l 3 [0] <| .l 4 [] <| .l 5 [] <| .done) mixed (by kernel_rfl) (by kernel_rfl) ?_ | refine w_sch (id := 12) (.q 0 <| .q 1 <| .q 2 <| .q 3 <| .q 4 <| .q 5 <| .q 6 <| .q 7 <| .q 8 <| .q 9 <| .q 10 <| .q 11 <| .q 12 <| .q 13 <| .q 14 <| .q 15 <| .q 16 <| .q 17 <| .q 18 <| .done) mixed (by kernel_rfl) (by kernel_rfl) ?_); refine k_rund ?_; refine k_run ?_)
        clear fx
        refine e_ret [] .nil (by simp; rfl) (by simp)
      · skip
        have fx := And.intro h3 <| And.intro hp3 <| And.intro h5 <| And.intro hp5 <| And.intro h6 <| And.intro hp6 <| And.intro h7 <| And.intro h8 <| And.intro hil <| And.intro q1 <| And.intro hw <| q2
        refine k_run ?_
        repeat ((first | refine w_sch (id := 5) (.q 0 <| .q 1 <| .q 2 <| .l 3 [0] <| .l 4 [] <| .q 5 <| .q 6 <| .q 7 <| .q 8 <| .q 9 <| .q 10 <| .q 11 <| .done) mixed (by kernel_rfl) (by kernel_rfl) ?_ | refine w_sch (id := 6) (.q 0 <| .q 1 <| .q 2 <| .l 3 [0] <| .l 4 [] <| .l 5 [] <| .done) mixed (by kernel_rfl) (by kernel_rfl) ?_ | refine w_sch (id := 12) (.q 0 <| .q 1 <| .q 2 <| .q 3 <| .q 4 <| .q 5 <| .q 6 <| .q 7 <| .q 8 <| .q 9 <| .q 10 <| .q 11 <| .q 12 <| .q 13 <| .q 14 <| .q 15 <| .q 16 <| .q 17 <| .q 18 <| .done) mixed (by kernel_rfl) (by kernel_rfl) ?_); refine k_rund ?_; refine k_run ?_)
        clear fx
        refine e_ret [] .nil (by simp; rfl) (by simp)
      · skip
        have fx := And.intro h3 <| And.intro hp3 <| And.intro h5 <| And.intro hp5 <| And.intro h6 <| And.intro hp6 <| And.intro h7 <| And.intro h8 <| And.intro hil <| And.intro q1 <| And.intro hw <| q2
        refine k_run ?_
        repeat ((first | refine w_sch (id := 5) (.q 0 <| .q 1 <| .q 2 <| .l 3 [0] <| .l 4 [] <| .q 5 <| .q 6 <| .q 7 <| .q 8 <| .q 9 <| .q 10 <| .q 11 <| .done) mixed (by kernel_rfl) (by kernel_rfl) ?_ | refine w_sch (id := 6) (.q 0 <| .q 1 <| .q 2 <| .l 3 [0] <| .l 4 [] <| .l 5 [] <| .done) mixed (by kernel_rfl) (by kernel_rfl) ?_ | refine w_sch (id := 12) (.q 0 <| .q 1 <| .q 2 <| .q 3 <| .q 4 <| .q 5 <| .q 6 <| .q 7 <| .q 8 <| .q 9 <| .q 10 <| .q 11 <| .q 12 <| .q 13 <| .q 14 <| .q 15 <| .q 16 <| .q 17 <| .q 18 <| .done) mixed (by kernel_rfl) (by kernel_rfl) ?_); refine k_rund ?_; refine k_run ?_)
        clear fx
        refine e_ret [] .nil (by simp; rfl) (by simp)
end Go.Proofs.YtpckgioefpkmoaaGreat
end
