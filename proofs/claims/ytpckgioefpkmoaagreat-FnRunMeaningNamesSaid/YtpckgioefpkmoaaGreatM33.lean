/-
  Own texts, joined by mkclaim.py: Phr.
-/
import Derived.Test.YtpckgioefpkmoaaGreatM20
set_option linter.unusedSimpArgs false
set_option linter.unusedVariables false

section
set_option maxRecDepth 100000
set_option maxHeartbeats 4000000
set_option linter.unusedSimpArgs false
namespace Go.Proofs.YtpckgioefpkmoaaGreat
open Go Go.Hm Go.Proofs
theorem globalsShown_fn (gl) (l : List Slt) (hl : l.length = 8) : FnOk Tryz.prog gl 61 [.sl 3 (slrows l)] (fun r y H' => y = .hs r 1 0 (shownS l).length ∧ H' r = some (.row 1 (irows (shownS l)))) := by
  refine FnOk.of_sem Tryz.func61 rfl (by kernel_rfl) (rs := [.tmp 2]) rfl Tryz.ntmps61 (Nat.le_of_ble_eq_true rfl) fun C w g root => ?_
  have fx :=  hl
  refine k_run ?_
  clear fx
  refine w_loop (fun n st => ∃ (i : Nat) (xs : List Int), n = l.length - i ∧ i ≤ l.length ∧ xs = shownS (l.take i) ∧ xs.length = i ∧ st.tm 0 = .sl 3 (slrows l) ∧ st.tm 3 = .hs (.s 3) 1 0 xs.length ∧ st.hp (.s 3) = some (.row 1 (irows xs)) ∧ st.tm 4 = iv i) l.length ?_ ?_
  · exact ⟨0, [], by omega, by omega, by simp [shownS], rfl, by simp, by simp, by simp, by simp⟩
  rintro n st - - ⟨i, xs, rfl, hi, hxs, hxl, h0, h3, hp3, h4⟩
  by_cases hil : i < l.length
  · obtain ⟨s, hs⟩ : ∃ s, l[i]? = some s := ⟨_, List.getElem?_eq_getElem hil⟩
    obtain ⟨_, hsE⟩ := List.getElem?_eq_some_iff.1 hs
    have hx8 : xs.length ≤ 8 := by omega
    have hi8 : (i : Int) < 8 := by omega
    have htk : shownS (l.take (i + 1)) = shownS (l.take i) ++ [match s with | some v => Hm.shown v | none => -9] := by
      rw [List.take_add_one, hs]
      cases s <;> simp [shownS]
    cases s with
    | none =>
      have fx := And.intro h0 <| And.intro h3 <| And.intro hp3 <| And.intro h4 <| And.intro hil <| And.intro hi8 <| And.intro hs <| And.intro hsE <| And.intro hx8 <| hl
      refine k_run ?_
      clear fx
      exact ⟨l.length - (i + 1), by omega, i + 1, xs ++ [-9], rfl, by omega, by rw [htk, hxs], by simp [hxl], by simp [h0], by simp, by simp, by simp; exact wrp (by omega) (by omega)⟩
    | some v =>
      have hsh := spec_shown_fn gl v
      obtain ⟨v1, v2⟩ := v
      have fx := And.intro h0 <| And.intro h3 <| And.intro hp3 <| And.intro h4 <| And.intro hil <| And.intro hi8 <| And.intro hs <| And.intro hsE <| And.intro hx8 <| hl
      have c1 := hsh
      refine k_run ?_
      clear fx c1
      exact ⟨l.length - (i + 1), by omega, i + 1, xs ++ [Hm.shown (v1, v2)], rfl, by omega, by rw [htk, hxs], by simp [hxl], by simp [h0], by simp, by simp, by simp; exact wrp (by omega) (by omega)⟩
  · have hge : i = l.length := by omega
    subst hge
    rw [List.take_length] at hxs
    subst hxs
    have fx := And.intro h0 <| And.intro h3 <| And.intro hp3 <| And.intro h4 <| hil
    refine k_run ?_
    clear fx
    refine e_ret [(.s 2, root)] (.one rfl) (by simp; rfl) ⟨by simp, by simp [hp3]⟩
theorem spec_RunMeaning_fn (gl) (p : Prg) (f : Int) (hs : Sml p) : FnOk Tryz.prog gl 33 [pav p, iv f] (fun r y H' => y = .agg ((resG p f).own r) ∧ OwnR H' r (resG p f)) := by
  refine FnOk.of_sem Tryz.func33 rfl (by kernel_rfl) (rs := [.cell 4 46]) rfl Tryz.ntmps33 (Nat.le_of_ble_eq_true rfl) fun C w g root => ?_
  cases hv : fuelOk p f
  · skip
    have fx :=  hv
    have c1 := hv ▸ validFuel_fn gl p f hs
    refine k_run ?_
    repeat ((first | refine w_sch (id := 4) (.q 1 <| .q 2 <| .q 3 <| .q 4 <| .q 6 <| .q 7 <| .q 8 <| .q 9 <| .q 10 <| .q 11 <| .q 12 <| .q 13 <| .q 14 <| .q 15 <| .q 16 <| .q 17 <| .l 0 [17, 16, 15, 14, 13, 12, 11, 10, 9, 8, 7, 6, 4, 3, 2, 1] <| .l 5 [17, 16, 15, 14, 13, 12, 11, 10, 9, 8, 7, 6, 3, 2, 1] <| .l 18 [16, 15, 14, 13, 12, 11, 10, 9, 8, 7, 6, 3, 2, 1] <| .q 19 <| .l 20 [] <| .done) mixed (by kernel_rfl) (by kernel_rfl) ?_); refine k_rund ?_; refine k_run ?_)
    clear fx c1
    have hG : resG p f = ⟨[], 0, 0, []⟩ := by simp [resG, hv]
    rw [hG]
    refine e_ret [(.s 4, root)] (.one rfl) (by simp; rfl) ⟨by simp, ⟨by simp, by simp⟩⟩
  · obtain ⟨hpo, n, rfl, hn⟩ := fuelOk_of hv
    have hP := ValP.of hs hpo
    have hm := meantOk hP.sh hn
    have hol := hm.ok.nout
    have hol' : (meantW p n).out.length ≤ 1000 := by omega
    have hgl8 := hm.ok.glob.1
    have hG : resG p n = resW (meantW p n) := by simp [resG, hv]
    rw [hG]
    have fx :=  hv
    have c1 := hv ▸ validFuel_fn gl p n hs
    refine k_run ?_
    repeat ((first | refine w_sch (id := 4) (.q 1 <| .q 2 <| .q 3 <| .q 4 <| .q 6 <| .q 7 <| .q 8 <| .q 9 <| .q 10 <| .q 11 <| .q 12 <| .q 13 <| .q 14 <| .q 15 <| .q 16 <| .q 17 <| .l 0 [17, 16, 15, 14, 13, 12, 11, 10, 9, 8, 7, 6, 4, 3, 2, 1] <| .l 5 [17, 16, 15, 14, 13, 12, 11, 10, 9, 8, 7, 6, 3, 2, 1] <| .l 18 [16, 15, 14, 13, 12, 11, 10, 9, 8, 7, 6, 3, 2, 1] <| .q 19 <| .l 20 [] <| .done) mixed (by kernel_rfl) (by kernel_rfl) ?_); refine k_rund ?_; refine k_run ?_)
    clear fx c1
    intro K hK
    have fx := fx0
    refine x_mut Wn rfl (by simp [ctx0, noH]) (hF := meant_fn gl _ p n hP hn (by simp [noH])) (h := ?_)
    rintro y H1 ⟨rfl, hO1⟩
    clear fx
    have hT1 := hO1.top
    have hU1 := hO1.out
    have hG1 := hO1.glob
    simp only [wRow] at hT1
    have fx := And.intro hT1 <| And.intro hU1 <| And.intro hG1 <| And.intro hol' <| hgl8
    have d1 := globalsShown_fn gl (meantW p n).globals hgl8
    refine k_run ?_
    repeat ((first | refine w_sch (id := 4) (.q 1 <| .q 2 <| .q 3 <| .q 4 <| .q 6 <| .q 7 <| .q 8 <| .q 9 <| .q 10 <| .q 11 <| .q 12 <| .q 13 <| .q 14 <| .q 15 <| .q 16 <| .q 17 <| .l 0 [17, 16, 15, 14, 13, 12, 11, 10, 9, 8, 7, 6, 4, 3, 2, 1] <| .l 5 [17, 16, 15, 14, 13, 12, 11, 10, 9, 8, 7, 6, 3, 2, 1] <| .l 18 [16, 15, 14, 13, 12, 11, 10, 9, 8, 7, 6, 3, 2, 1] <| .q 19 <| .l 20 [] <| .done) mixed (by kernel_rfl) (by kernel_rfl) ?_); refine k_rund ?_; refine k_run ?_)
    clear fx d1
    refine e_ret [(.s 4, root)] (.one rfl) (by simp; rfl) ⟨by simp [resW], ⟨by simp [resW], by simp [resW]⟩⟩
end Go.Proofs.YtpckgioefpkmoaaGreat
end
