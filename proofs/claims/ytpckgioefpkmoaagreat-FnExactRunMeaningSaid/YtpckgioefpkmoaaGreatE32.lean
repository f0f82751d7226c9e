/-
  Own texts, joined by mkclaim.py: Sc.
-/
import Derived.Test.YtpckgioefpkmoaaGreatE29
import Derived.Test.YtpckgioefpkmoaaGreatE12
import Derived.Test.YtpckgioefpkmoaaGreatE16
set_option linter.unusedSimpArgs false
set_option linter.unusedVariables false

section
set_option maxRecDepth 100000
set_option maxHeartbeats 4000000
set_option linter.unusedSimpArgs false
namespace Go.Proofs.YtpckgioefpkmoaaGreat
open Go Go.Hm Go.Proofs
theorem eqStep_fn (gl) (a b c d : Int) : FnOk Tryz.prog gl 60 [.agg [iv a, iv b], .agg [iv c, iv d]] (fun _ z _ => z = bv (decide ((a, b) = (c, d)))) := by
  refine FnOk.of_sem Tryz.func60 rfl (by kernel_rfl) (rs := [.tmp 4]) rfl Tryz.ntmps60 (Nat.le_of_ble_eq_true rfl) fun C w g root => ?_
  by_cases h1 : a = c
  · subst h1
    by_cases h2 : b = d
    · subst h2
      have fx :=  @bne_def
      refine k_run ?_
      clear fx
      refine e_ret [] .nil (by simp; rfl) (by simp)
    · have e2 : (b == d) = false := by simpa using h2
      have fx := And.intro @bne_def <| e2
      refine k_run ?_
      clear fx
      refine e_ret [] .nil (by simp; rfl) (by simp [h2])
  · have e1 : (a == c) = false := by simpa using h1
    have fx := And.intro @bne_def <| e1
    refine k_run ?_
    clear fx
    refine e_ret [] .nil (by simp; rfl) (by simp [h1])
theorem eqStepS_fn (gl) (xs ys : List (Int × Int)) (hx : xs.length ≤ 1048576) (hy : ys.length ≤ 1048576) : FnOk Tryz.prog gl 30 [osl xs, osl ys] (fun _ z _ => z = bv (decide (xs = ys))) := by
  refine FnOk.of_sem Tryz.func30 rfl (by kernel_rfl) (rs := [.tmp 4]) rfl Tryz.ntmps30 (Nat.le_of_ble_eq_true rfl) fun C w g root => ?_
  by_cases hl : xs.length = ys.length
  case neg =>
    have h1 : ((xs.length : Int) == ys.length) = false := by simp; omega
    have fx := And.intro h1 <| @bne_def
    refine k_run ?_
    repeat ((first | refine w_sch (id := 6) (.q 0 <| .q 1 <| .q 2 <| .q 3 <| .q 4 <| .q 5 <| .q 6 <| .q 7 <| .l 8 [6, 5, 4, 2, 1, 0] <| .q 9 <| .done) mixed (by kernel_rfl) (by kernel_rfl) ?_); refine k_rund ?_; refine k_run ?_)
    clear fx
    refine e_ret [] .nil (by simp; rfl) ?_
    have : ¬ xs = ys := fun e => hl (by rw [e])
    simp [this]
  have fx := And.intro hl <| @bne_def
  refine k_run ?_
  repeat ((first | refine w_sch (id := 6) (.q 0 <| .q 1 <| .q 2 <| .q 3 <| .q 4 <| .q 5 <| .q 6 <| .q 7 <| .l 8 [6, 5, 4, 2, 1, 0] <| .q 9 <| .done) mixed (by kernel_rfl) (by kernel_rfl) ?_); refine k_rund ?_; refine k_run ?_)
  clear fx
  refine w_loop (fun n st => ∃ i : Nat, n = xs.length - i ∧ i ≤ xs.length ∧ st.tm 0 = osl xs ∧ st.tm 1 = osl ys ∧ st.tm 5 = iv i ∧ xs.take i = ys.take i) xs.length ⟨0, by simp⟩ ?_
  rintro n st - - ⟨i, rfl, hi, h0, h1, h5, heq⟩
  by_cases hil : i < xs.length
  · obtain ⟨x, hxi⟩ : ∃ x, xs[i]? = some x := ⟨_, List.getElem?_eq_getElem (by omega)⟩
    obtain ⟨y, hyi⟩ : ∃ y, ys[i]? = some y := ⟨_, List.getElem?_eq_getElem (by omega)⟩
    obtain ⟨hil2, hxE⟩ := List.getElem?_eq_some_iff.1 hxi
    obtain ⟨hil3, hyE⟩ := List.getElem?_eq_some_iff.1 hyi
    have hc := eqStep_fn gl x.1 x.2 y.1 y.2
    by_cases hxy : x = y
    · subst hxy
      simp only [decide_true] at hc
      have fx := And.intro h0 <| And.intro h1 <| And.intro h5 <| And.intro hil <| And.intro hil3 <| And.intro hxi <| And.intro hyi <| And.intro hxE <| hyE
      have c1 := hc
      refine k_run ?_
      repeat ((first | refine w_sch (id := 6) (.q 0 <| .q 1 <| .q 2 <| .q 3 <| .q 4 <| .q 5 <| .q 6 <| .q 7 <| .l 8 [6, 5, 4, 2, 1, 0] <| .q 9 <| .done) mixed (by kernel_rfl) (by kernel_rfl) ?_); refine k_rund ?_; refine k_run ?_)
      clear fx c1
      refine ⟨xs.length - (i + 1), by omega, i + 1, rfl, by omega, by simp [h0], by simp [h1], by simp; exact wrp (by omega) (by omega), ?_⟩
      rw [List.take_add_one, List.take_add_one, heq, hxi, hyi]
    · have hd : decide ((x.1, x.2) = (y.1, y.2)) = false := decide_eq_false hxy
      rw [hd] at hc
      have hne : ¬ xs = ys := fun e => hxy (by rw [e, hyi] at hxi; exact (Option.some.inj hxi).symm)
      have fx := And.intro h0 <| And.intro h1 <| And.intro h5 <| And.intro hil <| And.intro hil3 <| And.intro hxi <| And.intro hyi <| And.intro hxE <| hyE
      have c1 := hc
      refine k_run ?_
      repeat ((first | refine w_sch (id := 6) (.q 0 <| .q 1 <| .q 2 <| .q 3 <| .q 4 <| .q 5 <| .q 6 <| .q 7 <| .l 8 [6, 5, 4, 2, 1, 0] <| .q 9 <| .done) mixed (by kernel_rfl) (by kernel_rfl) ?_); refine k_rund ?_; refine k_run ?_)
      clear fx c1
      refine e_ret [] .nil (by simp; rfl) (by simp [hne])
  · have hge : i = xs.length := by omega
    have : xs = ys := by rw [hge, List.take_length, hl, List.take_length] at heq; exact heq
    have fx := And.intro h0 <| And.intro h1 <| And.intro h5 <| hil
    refine k_run ?_
    repeat ((first | refine w_sch (id := 6) (.q 0 <| .q 1 <| .q 2 <| .q 3 <| .q 4 <| .q 5 <| .q 6 <| .q 7 <| .l 8 [6, 5, 4, 2, 1, 0] <| .q 9 <| .done) mixed (by kernel_rfl) (by kernel_rfl) ?_); refine k_rund ?_; refine k_run ?_)
    clear fx
    refine e_ret [] .nil (by simp; rfl) (by simp [this])
theorem markStepS_fn (gl) (H : Nm → Option AO) (xs : List (Int × Int)) (c : Int) (hH : H (.u 1 0 0) = some (.row 2 (orows xs))) (hc : 0 ≤ c ∧ c ≤ 1152921504606846976) (hx : xs.length ≤ 1048576) :
    FnE Tryz.prog gl 31 (Nm.under (.u 1 0 0)) [.hs (.u 1 0 0) 2 0 xs.length, iv c] H (fun _ y H' => y = iv (c + 2 * xs.length) ∧ H' (.u 1 0 0) = some (.row 2 (orows (markO xs.length c)))) noE := by
  refine FnE.of_sem Tryz.func31 rfl (by kernel_rfl) (rs := [.tmp 4]) rfl Tryz.ntmps31 (Nat.le_of_ble_eq_true rfl) (fun _ => under_usroot rfl) fun C w g root hroot => ?_
  have fx := fx0
  refine k_run ?_
  clear fx
  refine w_loop (fun n st => ∃ i : Nat, n = xs.length - i ∧ i ≤ xs.length ∧ st.tm 0 = .hs (.u 1 0 0) 2 0 xs.length ∧ st.tm 1 = iv (c + 2 * i) ∧ st.hp (.u 1 0 0) = some (.row 2 (orows (markO i c ++ xs.drop i))) ∧ st.tm 5 = iv i) xs.length ?_ ?_
  · exact ⟨0, by simp, by simp, by simp, by simp, by simp [hH, markO], by simp⟩
  rintro n st - - ⟨i, rfl, hi, h0, h1, hp0, h5⟩
  by_cases hil : i < xs.length
  · have hset := markO_set (c := c) hil
    have hll : (markO i c ++ xs.drop i).length = xs.length := by simp; omega
    have hs4 := orows_set2 (L := markO i c ++ xs.drop i) (i := i) (a := c + 2 * i) (b := c + 2 * i + 1) (by omega)
    rw [hset] at hs4
    obtain ⟨v0, hv0⟩ : ∃ v, v = c + 2 * (i : Int) := ⟨_, rfl⟩
    rw [← hv0] at h1 hs4
    obtain ⟨v1, hv1⟩ : ∃ v, v = v0 + 1 := ⟨_, rfl⟩
    have hw1 : IntKind.i64.wrap (v0 + 1) = v1 := by rw [hv1]; exact wrp (by omega) (by omega)
    have hw2 : IntKind.i64.wrap (v1 + 1) = v1 + 1 := wrp (by omega) (by omega)
    rw [← hv1] at hs4
    generalize markO i c ++ xs.drop i = L at hp0 hll hs4
    clear hset
    have fx := And.intro h0 <| And.intro h1 <| And.intro hp0 <| And.intro h5 <| And.intro hil <| And.intro hll <| hw1
    refine k_run ?_
    clear fx
    refine ⟨xs.length - (i + 1), by omega, i + 1, rfl, by omega, by simp [h0], ?_, by simp [hw1, hs4], by simp; exact wrp (by omega) (by omega)⟩
    simp [hw1, hw2]
    omega
  · have hge : i = xs.length := by omega
    subst hge
    rw [List.drop_length, List.append_nil] at hp0
    have fx := And.intro h0 <| And.intro h1 <| And.intro hp0 <| And.intro h5 <| hil
    refine k_run ?_
    clear fx
    refine e_ret [] .nil (by simp; rfl) ⟨by simp, by simp [hp0]⟩
theorem heldStepS_fn (gl) (m : Nat) (c : Int) (hc : 0 ≤ c ∧ c ≤ 1152921504606846976) (hm : m ≤ 1048576) : FnOk Tryz.prog gl 32 [osl (markO m c), iv c] (fun _ y _ => y = iv (c + 2 * m)) := by
  have hml : (markO m c).length = m := markO_len
  refine FnOk.of_sem Tryz.func32 rfl (by kernel_rfl) (rs := [.tmp 4]) rfl Tryz.ntmps32 (Nat.le_of_ble_eq_true rfl) fun C w g root => ?_
  have fx := fx0
  refine k_run ?_
  clear fx
  refine w_loop (fun n st => ∃ i : Nat, n = m - i ∧ i ≤ m ∧ st.tm 0 = osl (markO m c) ∧ st.tm 1 = iv (c + 2 * i) ∧ st.tm 5 = iv i) m ⟨0, by simp⟩ ?_
  rintro n st - - ⟨i, rfl, hi, h0, h1, h5⟩
  by_cases hil : i < m
  · have hg : (markO m c)[i]? = some (c + 2 * i, c + 2 * i + 1) := by simp [markO, hil]
    obtain ⟨v0, hv0⟩ : ∃ v, v = c + 2 * (i : Int) := ⟨_, rfl⟩
    obtain ⟨v1, hv1⟩ : ∃ v, v = v0 + 1 := ⟨_, rfl⟩
    have hw1 : IntKind.i64.wrap (v0 + 1) = v1 := by rw [hv1]; exact wrp (by omega) (by omega)
    have hw2 : IntKind.i64.wrap (v1 + 1) = v1 + 1 := wrp (by omega) (by omega)
    rw [← hv0] at h1 hg
    rw [← hv1] at hg
    obtain ⟨_, hgE⟩ := List.getElem?_eq_some_iff.1 hg
    have fx := And.intro h0 <| And.intro h1 <| And.intro h5 <| And.intro hil <| And.intro hg <| And.intro hgE <| And.intro hw1 <| @bne_def
    refine k_run ?_
    clear fx
    refine ⟨m - (i + 1), by omega, i + 1, rfl, by omega, by simp [h0], ?_, by simp; exact wrp (by omega) (by omega)⟩
    simp [hw1, hw2]
    omega
  · have hge : i = m := by omega
    subst hge
    have fx := And.intro h0 <| And.intro h1 <| And.intro h5 <| hil
    refine k_run ?_
    clear fx
    refine e_ret [] .nil (by simp; rfl) (by simp)
end Go.Proofs.YtpckgioefpkmoaaGreat
end
