/-
  Own texts, joined by merge.py: Hn.
-/
import Derived.Test.YtopgafhjmbfaoaaBL
import Derived.Test.YtopgafhjmbfaoaaA5

section
/-
  A program that is copied.
-/
set_option maxRecDepth 100000
set_option maxHeartbeats 1000000
set_option linter.unusedSimpArgs false
namespace Go.Proofs.Ytopgafhjmbfaoaa
open Go Go.Hm Go.Proofs

theorem copyOf_fn (gl) (p : Prg) (hs : Sml p) : FnOk Try.prog gl 31 [pav p] (fun r y H' => y = .agg [.hs r 4 0 p.length] ∧ OwnP H' r p) := by
  have hpl := hs.len
  refine FnOk.of_sem Try.func31 rfl (by kernel_rfl) (rs := [.cell 2 28]) rfl Try.ntmps31 (Nat.le_of_ble_eq_true rfl) fun C w g root => ?_
  all_goals have fx := fx0
  repeat' (first
   | refine w_seq ?_ | refine w_block ?_ | refine w_skip ?_ | refine w_reg fun K hK => ?_
   | ((with_reducible refine s_end hK ?_); clear hK K)
   | (with_reducible first | refine then_normal ?_ | refine in_normal ?_ | refine then_exit ?_ | refine in_exit ?_ | refine then_ret ?_ | refine in_ret ?_ | refine s_nil ?_ | refine in_other (by decide) ?_)
   | refine w_exit ?_
   | refine w_ret ?_
   | (with_reducible first | refine s_none ?_ | refine x_assign (h := ?_) | refine x_box (h := ?_) | refine x_alloc (h := ?_) | refine x_store0 (h := ?_) | refine x_append0 (T := 41) (h := ?_) | refine x_append (T := 41) (h := ?_) | refine x_append0 (T := 47) (h := ?_) | refine x_append (T := 47) (h := ?_) | refine x_store (h := ?_) | refine x_make (h := ?_))
   | (with_reducible refine x_q (h := ?_))
   | refine x_condt (h1 := ?_) | refine x_condf (h1 := ?_)
   | (refine w_sch (id := 5) (.q 0 <| .q 1 <| .q 2 <| .q 3 <| .q 4 <| .q 5 <| .q 6 <| .q 7 <| .q 8 <| .q 10 <| .q 11 <| .l 9 [11, 10, 7, 6, 5, 4, 3, 2, 1, 0] <| .l 12 [10, 7, 6, 5, 4, 3, 2, 1, 0] <| .q 13 <| .q 14 <| .l 15 [] <| .done) mixed (by kernel_rfl) (by kernel_rfl) fun K hK => ?_)
   | ((with_reducible refine a_end hK ?_); clear hK K)
   | ((with_reducible refine a_id ?_); first | refine xa_q (h := ?_) | refine xa_qt (h := ?_) | refine xa_qf (h := ?_))
   | ((with_reducible refine a_id ?_); refine xa_gq (h1 := fun ht => ?_) (h2 := fun ht => ?_))
   | refine a_l rfl ?_ | refine a_l2 ?_ ?_ | (with_reducible refine And.intro ?_ ?_) | exact st_nil | refine xa_st (h2 := ?_)
   | fail)
  all_goals try clear fx
  refine w_loop (fun n st => ∃ i : Nat, n = p.length - i ∧ i ≤ p.length ∧ st.tm 1 = .pt (.s 1) 0 ∧ st.hp (.s 1) = some (.row 1 [[ksl p]]) ∧ st.tm 2 = .pt (.s 2) 0 ∧ st.hp (.s 2) = some (.row 1 [[.hs (.c (.s 2) 0 0) 4 0 0]]) ∧ st.hp (.c (.s 2) 0 0) = some (.row 4 []) ∧ st.tm 3 = .pt (.s 3) 0 ∧ st.hp (.s 3) = some (.row 1 [[.hs (.c (.s 3) 0 0) 4 0 p.length]]) ∧ st.tm 12 = ksl p ∧ st.tm 13 = iv p.length ∧ st.tm 14 = iv i ∧ CopP st.hp (.c (.s 3) 0 0) p i) p.length ?_ ?_
  · refine ⟨0, by simp, by simp, by simp, by simp, by simp, by simp, by simp, by simp, by simp, by simp, by simp, by simp, ⟨?_, fun j k hj => by omega, fun j k hj => by omega⟩⟩
    rw [← cRows_zero]
    simp [zblk, nilS]
  rintro n st - - ⟨i, rfl, hi, h1, hp1, h2, hp2, hp2', h3, hp3, h12, h13, h14, ⟨ho1, ho2, ho3⟩⟩
  all_goals have fx := And.intro h12 <| And.intro h13 <| h14
  repeat' (first
   | refine w_seq ?_ | refine w_block ?_ | refine w_skip ?_ | refine w_reg fun K hK => ?_
   | ((with_reducible refine s_end hK ?_); clear hK K)
   | (with_reducible first | refine then_normal ?_ | refine in_normal ?_ | refine then_exit ?_ | refine in_exit ?_ | refine then_ret ?_ | refine in_ret ?_ | refine s_nil ?_ | refine in_other (by decide) ?_)
   | refine w_exit ?_
   | refine w_ret ?_
   | (with_reducible first | refine s_none ?_ | refine x_assign (h := ?_) | refine x_box (h := ?_) | refine x_alloc (h := ?_) | refine x_store0 (h := ?_) | refine x_append0 (T := 41) (h := ?_) | refine x_append (T := 41) (h := ?_) | refine x_append0 (T := 47) (h := ?_) | refine x_append (T := 47) (h := ?_) | refine x_store (h := ?_) | refine x_make (h := ?_))
   | (with_reducible refine x_q (h := ?_))
   | refine x_condt (h1 := ?_) | refine x_condf (h1 := ?_)
   | (refine w_sch (id := 5) (.q 0 <| .q 1 <| .q 2 <| .q 3 <| .q 4 <| .q 5 <| .q 6 <| .q 7 <| .q 8 <| .q 10 <| .q 11 <| .l 9 [11, 10, 7, 6, 5, 4, 3, 2, 1, 0] <| .l 12 [10, 7, 6, 5, 4, 3, 2, 1, 0] <| .q 13 <| .q 14 <| .l 15 [] <| .done) mixed (by kernel_rfl) (by kernel_rfl) fun K hK => ?_)
   | ((with_reducible refine a_end hK ?_); clear hK K)
   | ((with_reducible refine a_id ?_); first | refine xa_q (h := ?_) | refine xa_qt (h := ?_) | refine xa_qf (h := ?_))
   | ((with_reducible refine a_id ?_); refine xa_gq (h1 := fun ht => ?_) (h2 := fun ht => ?_))
   | refine a_l rfl ?_ | refine a_l2 ?_ ?_ | (with_reducible refine And.intro ?_ ?_) | exact st_nil | refine xa_st (h2 := ?_)
   | fail)
  all_goals try clear fx
  refine w_if (by simp []; first | done | rfl | exact (Bool.not_not _).symm) (fun ht => ?_) (fun hf => ?_)
  · have hlt : i < p.length := by simpa using ht
    obtain ⟨k, hk⟩ : ∃ k, p[i]? = some k := ⟨_, List.getElem?_eq_getElem hlt⟩
    obtain ⟨hkp, hkb⟩ := hs.bsm hk
    have hcg := cRows_get (n := .c (.s 3) 0 0) (i := i) hk
    rw [if_neg (by omega)] at hcg
    obtain ⟨_, hke⟩ := List.getElem?_eq_some_iff.1 hk
    obtain ⟨_, hcge⟩ := List.getElem?_eq_some_iff.1 hcg
    clear ht
    all_goals have fx := And.intro h12 <| And.intro h13 <| And.intro h14 <| And.intro h3 <| And.intro hp3 <| And.intro ho1 <| And.intro hk <| And.intro hke <| And.intro hcg <| And.intro hcge <| hlt
    repeat' (first
     | refine w_seq ?_ | refine w_block ?_ | refine w_skip ?_ | refine w_reg fun K hK => ?_
     | ((with_reducible refine s_end hK ?_); clear hK K)
     | (with_reducible first | refine then_normal ?_ | refine in_normal ?_ | refine then_exit ?_ | refine in_exit ?_ | refine then_ret ?_ | refine in_ret ?_ | refine s_nil ?_ | refine in_other (by decide) ?_)
     | refine w_exit ?_
     | refine w_ret ?_
     | (with_reducible first | refine s_none ?_ | refine x_assign (h := ?_) | refine x_box (h := ?_) | refine x_alloc (h := ?_) | refine x_store0 (h := ?_) | refine x_append0 (T := 41) (h := ?_) | refine x_append (T := 41) (h := ?_) | refine x_append0 (T := 47) (h := ?_) | refine x_append (T := 47) (h := ?_) | refine x_store (h := ?_) | refine x_make (h := ?_))
     | (with_reducible refine x_q (h := ?_))
     | refine x_condt (h1 := ?_) | refine x_condf (h1 := ?_)
     | (refine w_sch (id := 5) (.q 0 <| .q 1 <| .q 2 <| .q 3 <| .q 4 <| .q 5 <| .q 6 <| .q 7 <| .q 8 <| .q 10 <| .q 11 <| .l 9 [11, 10, 7, 6, 5, 4, 3, 2, 1, 0] <| .l 12 [10, 7, 6, 5, 4, 3, 2, 1, 0] <| .q 13 <| .q 14 <| .l 15 [] <| .done) mixed (by kernel_rfl) (by kernel_rfl) fun K hK => ?_)
     | ((with_reducible refine a_end hK ?_); clear hK K)
     | ((with_reducible refine a_id ?_); first | refine xa_q (h := ?_) | refine xa_qt (h := ?_) | refine xa_qf (h := ?_))
     | ((with_reducible refine a_id ?_); refine xa_gq (h1 := fun ht => ?_) (h2 := fun ht => ?_))
     | refine a_l rfl ?_ | refine a_l2 ?_ ?_ | (with_reducible refine And.intro ?_ ?_) | exact st_nil | refine xa_st (h2 := ?_)
     | fail)
    all_goals try clear fx
    all_goals
      refine ⟨p.length - (i + 1), by omega, i + 1, rfl, by omega, by simp [h1], by simp [hp1], by simp [h2], by simp [hp2], by simp [hp2'], by simp [h3], by simp [hp3], by simp [h12], by simp [h13], by simp; exact wrp (by omega) (by omega), ⟨?_, fun j r hj hr => ?_, fun j r hj hr => ?_⟩⟩
      · rw [← cRows_set (n := .c (.s 3) 0 0) (d := 28) (e := 31) hk (by simp) (by simp) (by decide) (by simp) (by simp)]
        simp [ho1]
      · rcases Nat.lt_succ_iff_lt_or_eq.1 hj with hlj | rfl
        · have hne : ¬ j = i := by omega
          simp [ho2 j r hlj hr, hne]
        · rw [hk] at hr
          obtain rfl := Option.some.inj hr
          simp
      · rcases Nat.lt_succ_iff_lt_or_eq.1 hj with hlj | rfl
        · have hne : ¬ j = i := by omega
          simp [ho3 j r hlj hr, hne]
        · rw [hk] at hr
          obtain rfl := Option.some.inj hr
          simp
  · have hge : i = p.length := by
      have : ¬ i < p.length := by simpa using hf
      omega
    subst hge
    rw [cRows_all] at ho1
    all_goals have fx := And.intro h2 <| And.intro hp2 <| And.intro hp2' <| And.intro h3 <| hp3
    repeat' (first
     | refine w_seq ?_ | refine w_block ?_ | refine w_skip ?_ | refine w_reg fun K hK => ?_
     | ((with_reducible refine s_end hK ?_); clear hK K)
     | (with_reducible first | refine then_normal ?_ | refine in_normal ?_ | refine then_exit ?_ | refine in_exit ?_ | refine then_ret ?_ | refine in_ret ?_ | refine s_nil ?_ | refine in_other (by decide) ?_)
     | refine w_exit ?_
     | refine w_ret ?_
     | (with_reducible first | refine s_none ?_ | refine x_assign (h := ?_) | refine x_box (h := ?_) | refine x_alloc (h := ?_) | refine x_store0 (h := ?_) | refine x_append0 (T := 41) (h := ?_) | refine x_append (T := 41) (h := ?_) | refine x_append0 (T := 47) (h := ?_) | refine x_append (T := 47) (h := ?_) | refine x_store (h := ?_) | refine x_make (h := ?_))
     | (with_reducible refine x_q (h := ?_))
     | refine x_condt (h1 := ?_) | refine x_condf (h1 := ?_)
     | (refine w_sch (id := 5) (.q 0 <| .q 1 <| .q 2 <| .q 3 <| .q 4 <| .q 5 <| .q 6 <| .q 7 <| .q 8 <| .q 10 <| .q 11 <| .l 9 [11, 10, 7, 6, 5, 4, 3, 2, 1, 0] <| .l 12 [10, 7, 6, 5, 4, 3, 2, 1, 0] <| .q 13 <| .q 14 <| .l 15 [] <| .done) mixed (by kernel_rfl) (by kernel_rfl) fun K hK => ?_)
     | ((with_reducible refine a_end hK ?_); clear hK K)
     | ((with_reducible refine a_id ?_); first | refine xa_q (h := ?_) | refine xa_qt (h := ?_) | refine xa_qf (h := ?_))
     | ((with_reducible refine a_id ?_); refine xa_gq (h1 := fun ht => ?_) (h2 := fun ht => ?_))
     | refine a_l rfl ?_ | refine a_l2 ?_ ?_ | (with_reducible refine And.intro ?_ ?_) | exact st_nil | refine xa_st (h2 := ?_)
     | fail)
    all_goals try clear fx
    refine e_ret [(.c (.s 3) 0 0, root)] (.one rfl) (by simp [h2]; rfl) ⟨by simp, ⟨?_, fun j r hj => ?_, fun j r hj => ?_⟩⟩
    · simp [ho1, pRows_tr (n := .c (.s 3) 0 0) (m := root) (f := finf noD [(.c (.s 3) 0 0, root)]) (p := p) (by simp)]
    · simp [ho2 j r (List.getElem?_eq_some_iff.1 hj).1 hj]
    · simp [ho3 j r (List.getElem?_eq_some_iff.1 hj).1 hj]
end Go.Proofs.Ytopgafhjmbfaoaa
end
