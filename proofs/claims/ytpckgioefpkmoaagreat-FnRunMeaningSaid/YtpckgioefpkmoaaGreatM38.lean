/-
  Own texts, joined by mkclaim.py: St.
-/
import Derived.Test.YtpckgioefpkmoaaGreatM33
import Derived.Test.YtpckgioefpkmoaaGreatM31
import Derived.Test.YtpckgioefpkmoaaGreatM30
set_option linter.unusedSimpArgs false
set_option linter.unusedVariables false

section
set_option maxRecDepth 100000
set_option maxHeartbeats 4000000
set_option linter.unusedSimpArgs false
namespace Go.Proofs.YtpckgioefpkmoaaGreat
open Go Go.Hm Go.Proofs
theorem FnRunMeaning_fn (gl : Nat → Option (List AV)) (code : List Int) (hcode : ∀ v ∈ code, 0 ≤ v ∧ v ≤ 255) (hbig : code.length ≤ 1152921504606846976) :
    FnOk Tryz.prog gl 12 [bsl code] (fun _ z _ => z = bv true) := by
  refine FnOk.of_sem Tryz.func12 rfl (by kernel_rfl) (rs := [.tmp 2]) rfl Tryz.ntmps12 (Nat.le_of_ble_eq_true rfl) fun C w g root => ?_
  by_cases hlen : 1048576 < code.length
  · have hl1 : (1048576 : Int) < code.length := by omega
    have fx :=  hl1
    refine k_run ?_
    repeat ((first | refine w_sch (id := 5) (.q 0 <| .q 1 <| .q 2 <| .l 3 [0] <| .l 4 [] <| .q 5 <| .q 6 <| .q 7 <| .q 8 <| .q 9 <| .q 10 <| .q 11 <| .done) mixed (by kernel_rfl) (by kernel_rfl) ?_ | refine w_sch (id := 6) (.q 0 <| .q 1 <| .q 2 <| .l 3 [0] <| .l 4 [] <| .l 5 [] <| .done) mixed (by kernel_rfl) (by kernel_rfl) ?_); refine k_rund ?_; refine k_run ?_)
    clear fx
    refine e_ret [] .nil (by simp; rfl) (by simp)
  have hl1 : ¬ (1048576 : Int) < code.length := by omega
  have hc : CodeOk code := ⟨by omega, hcode⟩
  have fx :=  hl1
  have e1 := DrawRunMeaning_fn gl code hc
  refine k_run ?_
  repeat ((first | refine w_sch (id := 5) (.q 0 <| .q 1 <| .q 2 <| .l 3 [0] <| .l 4 [] <| .q 5 <| .q 6 <| .q 7 <| .q 8 <| .q 9 <| .q 10 <| .q 11 <| .done) mixed (by kernel_rfl) (by kernel_rfl) ?_ | refine w_sch (id := 6) (.q 0 <| .q 1 <| .q 2 <| .l 3 [0] <| .l 4 [] <| .l 5 [] <| .done) mixed (by kernel_rfl) (by kernel_rfl) ?_); refine k_rund ?_; refine k_run ?_)
  clear fx e1
  rintro K hK z H1 ⟨p, f, rfl, hO, hs⟩
  obtain ⟨ho1, ho2, ho3⟩ := hO.hcln
  refine ⟨by simp, ?_⟩
  have hpl := hs.len
  have hia := impl_RunMeaning_fn gl p f hs
  have hsa := spec_RunMeaning_fn gl p f hs
  obtain ⟨hl1, hl2⟩ := resG_len (f := f) hs
  have heq := equalResult_fn gl (resG p f) (by omega) (by omega)
  have fx :=  ho1
  have e1 := hia
  refine k_run ?_
  repeat ((first | refine w_sch (id := 5) (.q 0 <| .q 1 <| .q 2 <| .l 3 [0] <| .l 4 [] <| .q 5 <| .q 6 <| .q 7 <| .q 8 <| .q 9 <| .q 10 <| .q 11 <| .done) mixed (by kernel_rfl) (by kernel_rfl) ?_ | refine w_sch (id := 6) (.q 0 <| .q 1 <| .q 2 <| .l 3 [0] <| .l 4 [] <| .l 5 [] <| .done) mixed (by kernel_rfl) (by kernel_rfl) ?_); refine k_rund ?_; refine k_run ?_)
  clear fx e1
  rintro K hK y H2 ⟨rfl, hR⟩
  obtain ⟨r1, r2⟩ := hR.hcln
  refine ⟨by simp, ?_⟩
  have fx := And.intro ho1 <| And.intro r1 <| r2
  refine k_run ?_
  repeat ((first | refine w_sch (id := 5) (.q 0 <| .q 1 <| .q 2 <| .l 3 [0] <| .l 4 [] <| .q 5 <| .q 6 <| .q 7 <| .q 8 <| .q 9 <| .q 10 <| .q 11 <| .done) mixed (by kernel_rfl) (by kernel_rfl) ?_ | refine w_sch (id := 6) (.q 0 <| .q 1 <| .q 2 <| .l 3 [0] <| .l 4 [] <| .l 5 [] <| .done) mixed (by kernel_rfl) (by kernel_rfl) ?_); refine k_rund ?_; refine k_run ?_)
  clear fx
  intro K hK
  refine o_abs (fun st => BoxP st 3 p ∧ st.tm 4 = iv f ∧ st.tm 5 = .pt (.s 5) 0 ∧ st.hp (.s 5) = some (.row 4 [(resG p f).own (.s 17)]) ∧ OwnR st.hp (.s 17) (resG p f) ∧ st.tm 18 = .agg ((resG p f).own (.s 17)) ∧ st.tm 19 = .agg [.hs (.c (.s 3) 0 0) 4 0 p.length] ∧ st.tm 20 = iv f)
    ⟨⟨by simp, by simp, ⟨by simp [ho1], fun j r hj => by simp [ho2 j r hj], fun j r hj => by simp [ho3 j r hj]⟩⟩, by simp, by simp, by simp, ⟨by simp [r1], by simp [r2]⟩, by simp, by simp, by simp⟩ ?_
  clear hO ho1 ho2 ho3 hR r1 r2
  rintro st ⟨⟨h3, hp3, ⟨a1, a2, a3⟩⟩, h4, h5, hp5, ⟨r1, r2⟩, h18, h19, h20⟩
  rw [Rsl.own_eq] at hp5 h18
  have fx := And.intro h3 <| And.intro hp3 <| And.intro h4 <| And.intro h5 <| And.intro hp5 <| And.intro h18 <| And.intro h19 <| h20
  have e1 := hsa
  refine k_run ?_
  repeat ((first | refine w_sch (id := 5) (.q 0 <| .q 1 <| .q 2 <| .l 3 [0] <| .l 4 [] <| .q 5 <| .q 6 <| .q 7 <| .q 8 <| .q 9 <| .q 10 <| .q 11 <| .done) mixed (by kernel_rfl) (by kernel_rfl) ?_ | refine w_sch (id := 6) (.q 0 <| .q 1 <| .q 2 <| .l 3 [0] <| .l 4 [] <| .l 5 [] <| .done) mixed (by kernel_rfl) (by kernel_rfl) ?_); refine k_rund ?_; refine k_run ?_)
  clear fx e1
  rintro y H3 ⟨rfl, hR⟩
  obtain ⟨s1, s2⟩ := hR.hcln
  refine ⟨by simp, ?_⟩
  have fx := And.intro h3 <| And.intro hp3 <| And.intro h4 <| And.intro h5 <| And.intro hp5 <| And.intro h18 <| And.intro h19 <| h20
  refine k_run ?_
  repeat ((first | refine w_sch (id := 5) (.q 0 <| .q 1 <| .q 2 <| .l 3 [0] <| .l 4 [] <| .q 5 <| .q 6 <| .q 7 <| .q 8 <| .q 9 <| .q 10 <| .q 11 <| .done) mixed (by kernel_rfl) (by kernel_rfl) ?_ | refine w_sch (id := 6) (.q 0 <| .q 1 <| .q 2 <| .l 3 [0] <| .l 4 [] <| .l 5 [] <| .done) mixed (by kernel_rfl) (by kernel_rfl) ?_); refine k_rund ?_; refine k_run ?_)
  clear fx
  have fx := And.intro h18 h18
  refine kx_call (hB := .cons (bw_rsl (n := .s 17) (r := resG p f) ⟨by simp [r1], by simp [r2]⟩) (.cons (bw_rsl (n := .s 21) (r := resG p f) ⟨by simp [s1], by simp [s2]⟩) .nil)) (hF := heq) (h := ?_)
  clear fx
  have hgl : (resG p f).gl.length = if fuelOk p f = true then 8 else 0 := by
    cases hv : fuelOk p f
    · simp [resG, hv]
    · obtain ⟨n, rfl, -, -, hm⟩ := fuel_run hs hv
      have := hm.ok.glob.1
      simp [resG, hv, resW, shownS, this]
  cases hv : fuelOk p f
  · have hg0 : (((resG p f).gl.length : Int) == 0) = true := by rw [hgl, hv]; rfl
    clear hgl
    generalize resG p f = R at *
    have fx := And.intro h3 <| And.intro hp3 <| And.intro h4 <| And.intro h5 <| And.intro hp5 <| And.intro h18 <| And.intro h19 <| And.intro h20 <| hg0
    have e1 := hsa
    refine k_run ?_
    repeat ((first | refine w_sch (id := 5) (.q 0 <| .q 1 <| .q 2 <| .l 3 [0] <| .l 4 [] <| .q 5 <| .q 6 <| .q 7 <| .q 8 <| .q 9 <| .q 10 <| .q 11 <| .done) mixed (by kernel_rfl) (by kernel_rfl) ?_ | refine w_sch (id := 6) (.q 0 <| .q 1 <| .q 2 <| .l 3 [0] <| .l 4 [] <| .l 5 [] <| .done) mixed (by kernel_rfl) (by kernel_rfl) ?_); refine k_rund ?_; refine k_run ?_)
    clear fx e1
    rintro K hK y H4 ⟨rfl, hRR⟩
    obtain ⟨t1, t2⟩ := hRR.hcln
    refine ⟨by simp, ?_⟩
    have fx := And.intro h3 <| And.intro hp3 <| And.intro h4 <| And.intro h5 <| hp5
    refine k_run ?_
    repeat ((first | refine w_sch (id := 5) (.q 0 <| .q 1 <| .q 2 <| .l 3 [0] <| .l 4 [] <| .q 5 <| .q 6 <| .q 7 <| .q 8 <| .q 9 <| .q 10 <| .q 11 <| .done) mixed (by kernel_rfl) (by kernel_rfl) ?_ | refine w_sch (id := 6) (.q 0 <| .q 1 <| .q 2 <| .l 3 [0] <| .l 4 [] <| .l 5 [] <| .done) mixed (by kernel_rfl) (by kernel_rfl) ?_); refine k_rund ?_; refine k_run ?_)
    clear fx
    have fx := And.intro hp5 h5
    refine kx_call (hB := .cons (bw_rsl (n := .s 17) (r := R) ⟨by simp [r1], by simp [r2]⟩) (.cons (bw_rsl (n := .s 33) (r := R) ⟨by simp [t1], by simp [t2]⟩) .nil)) (hF := heq) (h := ?_)
    clear fx
    have fx := And.intro h3 <| And.intro hp3 <| And.intro h4 <| And.intro h5 <| hp5
    refine k_run ?_
    repeat ((first | refine w_sch (id := 5) (.q 0 <| .q 1 <| .q 2 <| .l 3 [0] <| .l 4 [] <| .q 5 <| .q 6 <| .q 7 <| .q 8 <| .q 9 <| .q 10 <| .q 11 <| .done) mixed (by kernel_rfl) (by kernel_rfl) ?_ | refine w_sch (id := 6) (.q 0 <| .q 1 <| .q 2 <| .l 3 [0] <| .l 4 [] <| .l 5 [] <| .done) mixed (by kernel_rfl) (by kernel_rfl) ?_); refine k_rund ?_; refine k_run ?_)
    clear fx
    refine e_ret [] .nil (by simp; rfl) (by simp)
  obtain ⟨n, rfl, hn, hP, hm⟩ := fuel_run hs hv
  have hg0 : (((resG p n).gl.length : Int) == 0) = false := by rw [hgl, hv]; rfl
  have hG1 : resG p n = resW (meantW p n) := by simp [resG, hv]
  have hmo := run_more (p := p) hn (Nat.le_refl 150)
  have hv2 : fuelOk p 150 = true := by
    simp only [fuelOk, Bool.and_eq_true, decide_eq_true_eq] at hv ⊢
    exact ⟨hv.1, by decide, by decide⟩
  have hm2 := meantOk hP (Nat.le_refl 150)
  have hib := impl_RunMeaning_fn gl p 150 hs
  have hG2 : resG p 150 = resW (meantW p 150) := by simp [resG, hv2]
  have b1 : (resG p n).out <+: (resG p 150).out := by rw [hG1, hG2]; exact hmo.out
  have b2 : (resG p n).en = 1 → (resG p n).left = 0 := by
    rw [hG1]
    intro e
    have := hmo.none e
    simp only [resW]
    omega
  have b3 : (resG p n).en ≠ 1 → (resG p 150).en = (resG p n).en ∧ (resG p 150).out = (resG p n).out ∧ (resG p 150).gl = (resG p n).gl ∧ (150 : Int) - (resG p 150).left = (n : Int) - (resG p n).left := by
    rw [hG1, hG2]
    intro e
    have e2 := hmo.same e
    rw [e2]
    refine ⟨rfl, rfl, rfl, ?_⟩
    simp only [resW, addF]
    omega
  have b4 : 0 ≤ (resG p n).left ∧ (resG p n).left ≤ 150 := by
    rw [hG1]
    have := hm.left
    simp only [resW]
    omega
  have b5 : 0 ≤ (resG p 150).left ∧ (resG p 150).left ≤ 150 := by
    rw [hG2]
    have := hm2.left
    simp only [resW]
    omega
  obtain ⟨hq1, hq2⟩ := resG_len (f := 150) hs
  have hbg := begins_fn gl _ _ b1 (by omega)
  clear hG1 hG2 hmo hm hm2 hv hv2 hgl b1
  generalize resG p n = R at *
  generalize resG p 150 = S at *
  have fx := And.intro h3 <| And.intro hp3 <| And.intro h4 <| And.intro h5 <| And.intro hp5 <| And.intro h18 <| And.intro h19 <| And.intro h20 <| And.intro a1 <| hg0
  have e1 := hib
  refine k_run ?_
  repeat ((first | refine w_sch (id := 5) (.q 0 <| .q 1 <| .q 2 <| .l 3 [0] <| .l 4 [] <| .q 5 <| .q 6 <| .q 7 <| .q 8 <| .q 9 <| .q 10 <| .q 11 <| .done) mixed (by kernel_rfl) (by kernel_rfl) ?_ | refine w_sch (id := 6) (.q 0 <| .q 1 <| .q 2 <| .l 3 [0] <| .l 4 [] <| .l 5 [] <| .done) mixed (by kernel_rfl) (by kernel_rfl) ?_); refine k_rund ?_; refine k_run ?_)
  clear fx e1
  rintro K hK y H4 ⟨rfl, hRR⟩
  obtain ⟨t1, t2⟩ := hRR.hcln
  refine ⟨by simp, ?_⟩
  by_cases he : R.en = 1
  · have he' : (R.en == 1) = true := by simpa using he
    have hz := b2 he
    have fx := And.intro h3 <| And.intro hp3 <| And.intro h4 <| And.intro h5 <| And.intro hp5 <| And.intro r1 <| And.intro r2 <| And.intro t1 <| And.intro t2 <| And.intro @bne_def <| And.intro he' <| hz
    have c1 := hbg
    refine k_run ?_
    repeat ((first | refine w_sch (id := 5) (.q 0 <| .q 1 <| .q 2 <| .l 3 [0] <| .l 4 [] <| .q 5 <| .q 6 <| .q 7 <| .q 8 <| .q 9 <| .q 10 <| .q 11 <| .done) mixed (by kernel_rfl) (by kernel_rfl) ?_ | refine w_sch (id := 6) (.q 0 <| .q 1 <| .q 2 <| .l 3 [0] <| .l 4 [] <| .l 5 [] <| .done) mixed (by kernel_rfl) (by kernel_rfl) ?_); refine k_rund ?_; refine k_run ?_)
    clear fx c1
    refine e_ret [] .nil (by simp; rfl) (by simp)
  · have he' : (R.en == 1) = false := by simpa using he
    obtain ⟨c1, c2, c3, c4⟩ := b3 he
    have q1 := equalInts_fn gl R.out R.out (by omega) (by omega)
    have q2 := equalInts_fn gl R.gl R.gl (by omega) (by omega)
    simp only [decide_true] at q1 q2
    have w1 : IntKind.i64.wrap (150 - S.left) = 150 - S.left := wrp (by omega) (by omega)
    have w2 : IntKind.i64.wrap ((n : Int) - R.left) = 150 - S.left := by rw [wrp (by omega) (by omega)]; omega
    obtain ⟨so, se, sl, sg⟩ := S
    simp only at c1 c2 c3 c4 w1 w2 hbg t1 t2 b5
    subst c1 c2 c3
    have fx := And.intro h3 <| And.intro hp3 <| And.intro h4 <| And.intro h5 <| And.intro hp5 <| And.intro r1 <| And.intro r2 <| And.intro t1 <| And.intro t2 <| And.intro @bne_def <| And.intro he' <| And.intro w1 <| w2
    have c1 := hbg
    have c2 := q1
    have c3 := q2
    refine k_run ?_
    repeat ((first | refine w_sch (id := 5) (.q 0 <| .q 1 <| .q 2 <| .l 3 [0] <| .l 4 [] <| .q 5 <| .q 6 <| .q 7 <| .q 8 <| .q 9 <| .q 10 <| .q 11 <| .done) mixed (by kernel_rfl) (by kernel_rfl) ?_ | refine w_sch (id := 6) (.q 0 <| .q 1 <| .q 2 <| .l 3 [0] <| .l 4 [] <| .l 5 [] <| .done) mixed (by kernel_rfl) (by kernel_rfl) ?_); refine k_rund ?_; refine k_run ?_)
    clear fx c1 c2 c3
    refine e_ret [] .nil (by simp; rfl) (by simp)
end Go.Proofs.YtpckgioefpkmoaaGreat
end
