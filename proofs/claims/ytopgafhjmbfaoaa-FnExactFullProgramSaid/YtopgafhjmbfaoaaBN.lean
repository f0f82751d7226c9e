/-
  Own texts, joined by merge.py: Ho.
-/
import Derived.Test.YtopgafhjmbfaoaaBM
import Derived.Test.YtopgafhjmbfaoaaA5

section
/-
  The program's full programs.
-/
set_option maxRecDepth 100000
set_option maxHeartbeats 1000000
set_option linter.unusedSimpArgs false
namespace Go.Proofs.Ytopgafhjmbfaoaa
open Go Go.Hm Go.Proofs

theorem impl_FullProgram_fn (gl) (p : Prg) (hs : Sml p) : FnOk Try.prog gl 10 [pav p] (fun r y H' => if fullOk p = true then y = .tup [.agg [.hs r 4 0 p.length], bv true] ∧ OwnP H' r (fullP p) else y = .tup [.agg [.hs r 4 0 0], bv false] ∧ H' r = some (.row 4 [])) := by
  refine FnOk.of_sem Try.func10 rfl (by kernel_rfl) (rs := [.cell 2 28, .tmp 3]) rfl Try.ntmps10 (Nat.le_of_ble_eq_true rfl) fun C w g root => ?_
  cases hpo : progOk p with
  | false =>
    have hno : fullOk p = false := by simp only [fullOk, hpo, Bool.false_and]
    all_goals have fx :=  hpo
    repeat' (first
     | refine w_seq ?_ | refine w_block ?_ | refine w_skip ?_ | refine w_reg fun K hK => ?_
     | ((with_reducible refine s_end hK ?_); clear hK K)
     | (with_reducible first | refine then_normal ?_ | refine in_normal ?_ | refine then_exit ?_ | refine in_exit ?_ | refine then_ret ?_ | refine in_ret ?_ | refine s_nil ?_ | refine in_other (by decide) ?_)
     | refine w_exit ?_
     | refine w_ret ?_
     | (with_reducible refine s_none ?_)
     | ((with_reducible refine g_id ?_); refine x_guard (h := ?_))
     | (with_reducible first | refine gx_tt ?_ | refine gx_ff ?_ | refine x_tf (h := ?_) | refine x_ft (h := ?_) | refine x_u (h := ?_) | refine x_assign (h := ?_) | refine x_box (h := ?_) | refine x_alloc (h := ?_) | refine x_store0 (h := ?_) | refine x_append0 (T := 47) (h := ?_) | refine x_append (T := 47) (h := ?_) | refine x_store (h := ?_))
     | ((with_reducible refine o_id 30 rfl ?_); refine x_call (hF := impl_ValidProgram_fn _ p hs) (h := ?_))
     | (with_reducible refine x_q (h := ?_))
     | (with_reducible refine gx_s (fun ht => ?_) (fun ht => ?_))
     | refine x_condt (h1 := ?_) | refine x_condf (h1 := ?_)
     | (refine w_sch (id := 8) (.q 0 <| .q 1 <| .q 2 <| .q 3 <| .q 5 <| .q 6 <| .q 7 <| .q 8 <| .q 9 <| .q 10 <| .l 4 [10, 9, 8, 7, 6, 5, 2, 1, 0] <| .l 11 [9, 8, 7, 6, 5, 2, 1, 0] <| .q 12 <| .q 13 <| .l 14 [12] <| .done) mixed (by kernel_rfl) (by kernel_rfl) fun K hK => ?_)
     | (refine w_sch (id := 12) (.q 0 <| .l 1 [] <| .q 2 <| .q 3 <| .q 4 <| .q 6 <| .l 5 [6, 2] <| .l 7 [2] <| .l 8 [2] <| .q 9 <| .q 10 <| .done) mixed (by kernel_rfl) (by kernel_rfl) fun K hK => ?_)
     | ((with_reducible refine a_end hK ?_); clear hK K)
     | ((with_reducible refine a_id ?_); first | refine xa_q (h := ?_) | refine xa_qt (h := ?_) | refine xa_qf (h := ?_))
     | ((with_reducible refine a_id ?_); refine xa_gq (h1 := fun ht => ?_) (h2 := fun ht => ?_))
     | refine a_l rfl ?_ | refine a_l2 ?_ ?_ | (with_reducible refine And.intro ?_ ?_) | exact st_nil | refine xa_st (h2 := ?_)
     | fail)
    all_goals try clear fx
    simp only [hno]
    refine e_ret [(.c (.s 2) 0 0, root)] (.one rfl) (by simp; rfl) ?_
    simp
  | true =>
    have hsh : shapeOk p = true := by
      simp only [progOk, Bool.and_eq_true] at hpo
      exact hpo.1
    have hp := ShapeP.of hs hsh
    have hh := hp.heads
    have hl7 := hp.len
    all_goals have fx :=  hpo
    repeat' (first
     | refine w_seq ?_ | refine w_block ?_ | refine w_skip ?_ | refine w_reg fun K hK => ?_
     | ((with_reducible refine s_end hK ?_); clear hK K)
     | (with_reducible first | refine then_normal ?_ | refine in_normal ?_ | refine then_exit ?_ | refine in_exit ?_ | refine then_ret ?_ | refine in_ret ?_ | refine s_nil ?_ | refine in_other (by decide) ?_)
     | refine w_exit ?_
     | refine w_ret ?_
     | (with_reducible refine s_none ?_)
     | ((with_reducible refine g_id ?_); refine x_guard (h := ?_))
     | (with_reducible first | refine gx_tt ?_ | refine gx_ff ?_ | refine x_tf (h := ?_) | refine x_ft (h := ?_) | refine x_u (h := ?_) | refine x_assign (h := ?_) | refine x_box (h := ?_) | refine x_alloc (h := ?_) | refine x_store0 (h := ?_) | refine x_append0 (T := 47) (h := ?_) | refine x_append (T := 47) (h := ?_) | refine x_store (h := ?_))
     | ((with_reducible refine o_id 30 rfl ?_); refine x_call (hF := impl_ValidProgram_fn _ p hs) (h := ?_))
     | ((with_reducible refine o_id 31 rfl ?_); refine x_callg (hF := copyOf_fn _ p hs) (h := ?_))
     | (with_reducible refine x_q (h := ?_))
     | (with_reducible refine gx_s (fun ht => ?_) (fun ht => ?_))
     | refine x_condt (h1 := ?_) | refine x_condf (h1 := ?_)
     | (refine w_sch (id := 8) (.q 0 <| .q 1 <| .q 2 <| .q 3 <| .q 5 <| .q 6 <| .q 7 <| .q 8 <| .q 9 <| .q 10 <| .l 4 [10, 9, 8, 7, 6, 5, 2, 1, 0] <| .l 11 [9, 8, 7, 6, 5, 2, 1, 0] <| .q 12 <| .q 13 <| .l 14 [12] <| .done) mixed (by kernel_rfl) (by kernel_rfl) fun K hK => ?_)
     | (refine w_sch (id := 12) (.q 0 <| .l 1 [] <| .q 2 <| .q 3 <| .q 4 <| .q 6 <| .l 5 [6, 2] <| .l 7 [2] <| .l 8 [2] <| .q 9 <| .q 10 <| .done) mixed (by kernel_rfl) (by kernel_rfl) fun K hK => ?_)
     | ((with_reducible refine a_end hK ?_); clear hK K)
     | ((with_reducible refine a_id ?_); first | refine xa_q (h := ?_) | refine xa_qt (h := ?_) | refine xa_qf (h := ?_))
     | ((with_reducible refine a_id ?_); refine xa_gq (h1 := fun ht => ?_) (h2 := fun ht => ?_))
     | refine a_l rfl ?_ | refine a_l2 ?_ ?_ | (with_reducible refine And.intro ?_ ?_) | exact st_nil | refine xa_st (h2 := ?_)
     | fail)
    all_goals try clear fx
    rintro y H' ⟨rfl, hO⟩
    obtain ⟨ho1, ho2, ho3⟩ := hO.hcln
    refine ⟨by simp, ?_⟩
    all_goals have fx :=  ho1
    repeat' (first
     | refine w_seq ?_ | refine w_block ?_ | refine w_skip ?_ | refine w_reg fun K hK => ?_
     | ((with_reducible refine s_end hK ?_); clear hK K)
     | (with_reducible first | refine then_normal ?_ | refine in_normal ?_ | refine then_exit ?_ | refine in_exit ?_ | refine then_ret ?_ | refine in_ret ?_ | refine s_nil ?_ | refine in_other (by decide) ?_)
     | refine w_exit ?_
     | refine w_ret ?_
     | (with_reducible refine s_none ?_)
     | ((with_reducible refine g_id ?_); refine x_guard (h := ?_))
     | (with_reducible first | refine gx_tt ?_ | refine gx_ff ?_ | refine x_tf (h := ?_) | refine x_ft (h := ?_) | refine x_u (h := ?_) | refine x_assign (h := ?_) | refine x_box (h := ?_) | refine x_alloc (h := ?_) | refine x_store0 (h := ?_) | refine x_append0 (T := 47) (h := ?_) | refine x_append (T := 47) (h := ?_) | refine x_store (h := ?_))
     | ((with_reducible refine o_id 32 rfl ?_); refine x_callg (hF := scopesOf_fn _ p hs hh hp.names) (h := ?_))
     | (with_reducible refine x_q (h := ?_))
     | (with_reducible refine gx_s (fun ht => ?_) (fun ht => ?_))
     | refine x_condt (h1 := ?_) | refine x_condf (h1 := ?_)
     | (refine w_sch (id := 8) (.q 0 <| .q 1 <| .q 2 <| .q 3 <| .q 5 <| .q 6 <| .q 7 <| .q 8 <| .q 9 <| .q 10 <| .l 4 [10, 9, 8, 7, 6, 5, 2, 1, 0] <| .l 11 [9, 8, 7, 6, 5, 2, 1, 0] <| .q 12 <| .q 13 <| .l 14 [12] <| .done) mixed (by kernel_rfl) (by kernel_rfl) fun K hK => ?_)
     | (refine w_sch (id := 12) (.q 0 <| .l 1 [] <| .q 2 <| .q 3 <| .q 4 <| .q 6 <| .l 5 [6, 2] <| .l 7 [2] <| .l 8 [2] <| .q 9 <| .q 10 <| .done) mixed (by kernel_rfl) (by kernel_rfl) fun K hK => ?_)
     | ((with_reducible refine a_end hK ?_); clear hK K)
     | ((with_reducible refine a_id ?_); first | refine xa_q (h := ?_) | refine xa_qt (h := ?_) | refine xa_qf (h := ?_))
     | ((with_reducible refine a_id ?_); refine xa_gq (h1 := fun ht => ?_) (h2 := fun ht => ?_))
     | refine a_l rfl ?_ | refine a_l2 ?_ ?_ | (with_reducible refine And.intro ?_ ?_) | exact st_nil | refine xa_st (h2 := ?_)
     | fail)
    all_goals try clear fx
    rintro y H2 ⟨rfl, hS⟩
    obtain ⟨hc1, hc2⟩ := hS.hcln
    refine ⟨by simp, ?_⟩
    all_goals have fx := fx0
    repeat' (first
     | refine w_seq ?_ | refine w_block ?_ | refine w_skip ?_ | refine w_reg fun K hK => ?_
     | ((with_reducible refine s_end hK ?_); clear hK K)
     | (with_reducible first | refine then_normal ?_ | refine in_normal ?_ | refine then_exit ?_ | refine in_exit ?_ | refine then_ret ?_ | refine in_ret ?_ | refine s_nil ?_ | refine in_other (by decide) ?_)
     | refine w_exit ?_
     | refine w_ret ?_
     | (with_reducible refine s_none ?_)
     | ((with_reducible refine g_id ?_); refine x_guard (h := ?_))
     | (with_reducible first | refine gx_tt ?_ | refine gx_ff ?_ | refine x_tf (h := ?_) | refine x_ft (h := ?_) | refine x_u (h := ?_) | refine x_assign (h := ?_) | refine x_box (h := ?_) | refine x_alloc (h := ?_) | refine x_store0 (h := ?_) | refine x_append0 (T := 47) (h := ?_) | refine x_append (T := 47) (h := ?_) | refine x_store (h := ?_))
     | (with_reducible refine x_q (h := ?_))
     | (with_reducible refine gx_s (fun ht => ?_) (fun ht => ?_))
     | refine x_condt (h1 := ?_) | refine x_condf (h1 := ?_)
     | (refine w_sch (id := 8) (.q 0 <| .q 1 <| .q 2 <| .q 3 <| .q 5 <| .q 6 <| .q 7 <| .q 8 <| .q 9 <| .q 10 <| .l 4 [10, 9, 8, 7, 6, 5, 2, 1, 0] <| .l 11 [9, 8, 7, 6, 5, 2, 1, 0] <| .q 12 <| .q 13 <| .l 14 [12] <| .done) mixed (by kernel_rfl) (by kernel_rfl) fun K hK => ?_)
     | (refine w_sch (id := 12) (.q 0 <| .l 1 [] <| .q 2 <| .q 3 <| .q 4 <| .q 6 <| .l 5 [6, 2] <| .l 7 [2] <| .l 8 [2] <| .q 9 <| .q 10 <| .done) mixed (by kernel_rfl) (by kernel_rfl) fun K hK => ?_)
     | ((with_reducible refine a_end hK ?_); clear hK K)
     | ((with_reducible refine a_id ?_); first | refine xa_q (h := ?_) | refine xa_qt (h := ?_) | refine xa_qf (h := ?_))
     | ((with_reducible refine a_id ?_); refine xa_gq (h1 := fun ht => ?_) (h2 := fun ht => ?_))
     | refine a_l rfl ?_ | refine a_l2 ?_ ?_ | (with_reducible refine And.intro ?_ ?_) | exact st_nil | refine xa_st (h2 := ?_)
     | fail)
    all_goals try clear fx
    refine w_loop (fun n st => ∃ i : Nat, n = p.length - i ∧ i ≤ p.length ∧ st.tm 1 = .pt (.s 1) 0 ∧ st.hp (.s 1) = some (.row 1 [[ksl p]]) ∧ st.tm 2 = .pt (.s 2) 0 ∧ st.hp (.s 2) = some (.row 1 [[.hs (.c (.s 2) 0 0) 4 0 0]]) ∧ st.hp (.c (.s 2) 0 0) = some (.row 4 []) ∧ st.tm 4 = .pt (.s 4) 0 ∧ st.hp (.s 4) = some (.row 1 [[.hs (.c (.s 4) 0 0) 4 0 p.length]]) ∧ st.tm 14 = .hs (.s 14) 1 0 p.length ∧ OwnS st.hp (.s 14) p p.length ∧ st.tm 15 = iv p.length ∧ st.tm 16 = iv i ∧ OwnP st.hp (.c (.s 4) 0 0) (fullTo p i)) p.length ?_ ?_
    · refine ⟨0, by omega, by omega, by simp, by simp, by simp, by simp, by simp, by simp, by simp, by simp, ⟨by simp [hc1], fun j k hj hk => by simp [hc2 j k hj hk]⟩, by simp, by simp, ⟨by simp [ho1, fullTo], fun j k hk => ?_, fun j k hk => ?_⟩⟩
      · simp [ho2 j k hk]
      · simp [ho3 j k hk]
    clear ho1 ho2 ho3 hO hc1 hc2 hS
    rintro n st - - ⟨i, rfl, hi, h1, hp1, h2, hp2, hp2', h4, hp4, h14, ⟨hc1, hc2⟩, h15, h16, ⟨ho1, ho2, ho3⟩⟩
    all_goals have fx := And.intro h15 <| h16
    repeat' (first
     | refine w_seq ?_ | refine w_block ?_ | refine w_skip ?_ | refine w_reg fun K hK => ?_
     | ((with_reducible refine s_end hK ?_); clear hK K)
     | (with_reducible first | refine then_normal ?_ | refine in_normal ?_ | refine then_exit ?_ | refine in_exit ?_ | refine then_ret ?_ | refine in_ret ?_ | refine s_nil ?_ | refine in_other (by decide) ?_)
     | refine w_exit ?_
     | refine w_ret ?_
     | (with_reducible refine s_none ?_)
     | ((with_reducible refine g_id ?_); refine x_guard (h := ?_))
     | (with_reducible first | refine gx_tt ?_ | refine gx_ff ?_ | refine x_tf (h := ?_) | refine x_ft (h := ?_) | refine x_u (h := ?_) | refine x_assign (h := ?_) | refine x_box (h := ?_) | refine x_alloc (h := ?_) | refine x_store0 (h := ?_) | refine x_append0 (T := 47) (h := ?_) | refine x_append (T := 47) (h := ?_) | refine x_store (h := ?_))
     | (with_reducible refine x_q (h := ?_))
     | (with_reducible refine gx_s (fun ht => ?_) (fun ht => ?_))
     | refine x_condt (h1 := ?_) | refine x_condf (h1 := ?_)
     | (refine w_sch (id := 8) (.q 0 <| .q 1 <| .q 2 <| .q 3 <| .q 5 <| .q 6 <| .q 7 <| .q 8 <| .q 9 <| .q 10 <| .l 4 [10, 9, 8, 7, 6, 5, 2, 1, 0] <| .l 11 [9, 8, 7, 6, 5, 2, 1, 0] <| .q 12 <| .q 13 <| .l 14 [12] <| .done) mixed (by kernel_rfl) (by kernel_rfl) fun K hK => ?_)
     | (refine w_sch (id := 12) (.q 0 <| .l 1 [] <| .q 2 <| .q 3 <| .q 4 <| .q 6 <| .l 5 [6, 2] <| .l 7 [2] <| .l 8 [2] <| .q 9 <| .q 10 <| .done) mixed (by kernel_rfl) (by kernel_rfl) fun K hK => ?_)
     | ((with_reducible refine a_end hK ?_); clear hK K)
     | ((with_reducible refine a_id ?_); first | refine xa_q (h := ?_) | refine xa_qt (h := ?_) | refine xa_qf (h := ?_))
     | ((with_reducible refine a_id ?_); refine xa_gq (h1 := fun ht => ?_) (h2 := fun ht => ?_))
     | refine a_l rfl ?_ | refine a_l2 ?_ ?_ | (with_reducible refine And.intro ?_ ?_) | exact st_nil | refine xa_st (h2 := ?_)
     | fail)
    all_goals try clear fx
    refine w_if (by simp []; first | done | rfl | exact (Bool.not_not _).symm) (fun ht => ?_) (fun hf => ?_)
    · have hlt : i < p.length := by simpa using ht
      obtain ⟨k, hk⟩ : ∃ k, p[i]? = some k := ⟨_, List.getElem?_eq_getElem hlt⟩
      have hsg := sRows_at (n := .s 14) hlt
      obtain ⟨_, hse⟩ := List.getElem?_eq_some_iff.1 hsg
      clear ht
      all_goals have fx := And.intro h14 <| And.intro hc1 <| And.intro h15 <| And.intro h16 <| And.intro hsg <| And.intro hse <| hlt
      repeat' (first
       | refine w_seq ?_ | refine w_block ?_ | refine w_skip ?_ | refine w_reg fun K hK => ?_
       | ((with_reducible refine s_end hK ?_); clear hK K)
       | (with_reducible first | refine then_normal ?_ | refine in_normal ?_ | refine then_exit ?_ | refine in_exit ?_ | refine then_ret ?_ | refine in_ret ?_ | refine s_nil ?_ | refine in_other (by decide) ?_)
       | refine w_exit ?_
       | refine w_ret ?_
       | (with_reducible refine s_none ?_)
       | ((with_reducible refine g_id ?_); refine x_guard (h := ?_))
       | (with_reducible first | refine gx_tt ?_ | refine gx_ff ?_ | refine x_tf (h := ?_) | refine x_ft (h := ?_) | refine x_u (h := ?_) | refine x_assign (h := ?_) | refine x_box (h := ?_) | refine x_alloc (h := ?_) | refine x_store0 (h := ?_) | refine x_append0 (T := 47) (h := ?_) | refine x_append (T := 47) (h := ?_) | refine x_store (h := ?_))
       | (with_reducible refine x_q (h := ?_))
       | (with_reducible refine gx_s (fun ht => ?_) (fun ht => ?_))
       | refine x_condt (h1 := ?_) | refine x_condf (h1 := ?_)
       | (refine w_sch (id := 8) (.q 0 <| .q 1 <| .q 2 <| .q 3 <| .q 5 <| .q 6 <| .q 7 <| .q 8 <| .q 9 <| .q 10 <| .l 4 [10, 9, 8, 7, 6, 5, 2, 1, 0] <| .l 11 [9, 8, 7, 6, 5, 2, 1, 0] <| .q 12 <| .q 13 <| .l 14 [12] <| .done) mixed (by kernel_rfl) (by kernel_rfl) fun K hK => ?_)
       | (refine w_sch (id := 12) (.q 0 <| .l 1 [] <| .q 2 <| .q 3 <| .q 4 <| .q 6 <| .l 5 [6, 2] <| .l 7 [2] <| .l 8 [2] <| .q 9 <| .q 10 <| .done) mixed (by kernel_rfl) (by kernel_rfl) fun K hK => ?_)
       | ((with_reducible refine a_end hK ?_); clear hK K)
       | ((with_reducible refine a_id ?_); first | refine xa_q (h := ?_) | refine xa_qt (h := ?_) | refine xa_qf (h := ?_))
       | ((with_reducible refine a_id ?_); refine xa_gq (h1 := fun ht => ?_) (h2 := fun ht => ?_))
       | refine a_l rfl ?_ | refine a_l2 ?_ ?_ | (with_reducible refine And.intro ?_ ?_) | exact st_nil | refine xa_st (h2 := ?_)
       | fail)
      all_goals try clear fx
      refine w_if (by simp []; first | done | rfl | exact (Bool.not_not _).symm) (fun ht => ?_) (fun hf => ?_)
      · have hi0 : i = 0 := by simpa using ht
        subst hi0
        all_goals have fx :=  h16
        repeat' (first
         | refine w_seq ?_ | refine w_block ?_ | refine w_skip ?_ | refine w_reg fun K hK => ?_
         | ((with_reducible refine s_end hK ?_); clear hK K)
         | (with_reducible first | refine then_normal ?_ | refine in_normal ?_ | refine then_exit ?_ | refine in_exit ?_ | refine then_ret ?_ | refine in_ret ?_ | refine s_nil ?_ | refine in_other (by decide) ?_)
         | refine w_exit ?_
         | refine w_ret ?_
         | (with_reducible refine s_none ?_)
         | ((with_reducible refine g_id ?_); refine x_guard (h := ?_))
         | (with_reducible first | refine gx_tt ?_ | refine gx_ff ?_ | refine x_tf (h := ?_) | refine x_ft (h := ?_) | refine x_u (h := ?_) | refine x_assign (h := ?_) | refine x_box (h := ?_) | refine x_alloc (h := ?_) | refine x_store0 (h := ?_) | refine x_append0 (T := 47) (h := ?_) | refine x_append (T := 47) (h := ?_) | refine x_store (h := ?_))
         | (with_reducible refine x_q (h := ?_))
         | (with_reducible refine gx_s (fun ht => ?_) (fun ht => ?_))
         | refine x_condt (h1 := ?_) | refine x_condf (h1 := ?_)
         | (refine w_sch (id := 8) (.q 0 <| .q 1 <| .q 2 <| .q 3 <| .q 5 <| .q 6 <| .q 7 <| .q 8 <| .q 9 <| .q 10 <| .l 4 [10, 9, 8, 7, 6, 5, 2, 1, 0] <| .l 11 [9, 8, 7, 6, 5, 2, 1, 0] <| .q 12 <| .q 13 <| .l 14 [12] <| .done) mixed (by kernel_rfl) (by kernel_rfl) fun K hK => ?_)
         | (refine w_sch (id := 12) (.q 0 <| .l 1 [] <| .q 2 <| .q 3 <| .q 4 <| .q 6 <| .l 5 [6, 2] <| .l 7 [2] <| .l 8 [2] <| .q 9 <| .q 10 <| .done) mixed (by kernel_rfl) (by kernel_rfl) fun K hK => ?_)
         | ((with_reducible refine a_end hK ?_); clear hK K)
         | ((with_reducible refine a_id ?_); first | refine xa_q (h := ?_) | refine xa_qt (h := ?_) | refine xa_qf (h := ?_))
         | ((with_reducible refine a_id ?_); refine xa_gq (h1 := fun ht => ?_) (h2 := fun ht => ?_))
         | refine a_l rfl ?_ | refine a_l2 ?_ ?_ | (with_reducible refine And.intro ?_ ?_) | exact st_nil | refine xa_st (h2 := ?_)
         | fail)
        all_goals try clear fx
        refine ⟨p.length - 1, by omega, 1, rfl, by omega, by simp [h1], by simp [hp1], by simp [h2], by simp [hp2], by simp [hp2'], by simp [h4], by simp [hp4], by simp [h14], ⟨by simp [hc1], fun j k hj hk => by simp [hc2 j k hj hk]⟩, by simp [h15], by simp; exact wrp (by omega) (by omega), ?_⟩
        rw [fullTo_one hk]
        exact ⟨by simp [ho1, fullTo], fun j k hk => by simp [ho2 j k hk], fun j k hk => by simp [ho3 j k hk]⟩
      · have hi0 : 0 < i := by
          have : ¬ i = 0 := by simpa using hf
          omega
        have hki : (fullTo p i)[i]? = some k := by rw [fullTo_get hk i, if_neg (by omega)]
        have hob := ho3 i k hki
        obtain ⟨_, hki'⟩ := List.getElem?_eq_some_iff.1 hki
        have hkb := (hs.bsm hk).body
        have hex := explicitL_len (p := p) (i := i) (k := k)
        have hset := pRows_set (n := .c (.s 4) 0 0) (a := 34) (i := i) (len := (explicitL p i k).length + k.body.length) (p := fullTo p i) (L := explicitL p i k ++ k.body) (by simp) (by simp) (by simp)
        have hsb := setBody_get (i := i) (L := explicitL p i k ++ k.body) hki
        rw [if_pos rfl] at hsb
        obtain ⟨_, hsbe⟩ := List.getElem?_eq_some_iff.1 hsb
        all_goals have fx := And.intro h1 <| And.intro hp1 <| And.intro h2 <| And.intro hp2 <| And.intro hp2' <| And.intro h4 <| And.intro hp4 <| And.intro h16 <| And.intro ho1 <| And.intro hob <| And.intro hki <| And.intro hki' <| And.intro hset <| And.intro hsb <| And.intro hsbe <| hlt
        repeat' (first
         | refine w_seq ?_ | refine w_block ?_ | refine w_skip ?_ | refine w_reg fun K hK => ?_
         | ((with_reducible refine s_end hK ?_); clear hK K)
         | (with_reducible first | refine then_normal ?_ | refine in_normal ?_ | refine then_exit ?_ | refine in_exit ?_ | refine then_ret ?_ | refine in_ret ?_ | refine s_nil ?_ | refine in_other (by decide) ?_)
         | refine w_exit ?_
         | refine w_ret ?_
         | (with_reducible refine s_none ?_)
         | ((with_reducible refine g_id ?_); refine x_guard (h := ?_))
         | (with_reducible first | refine gx_tt ?_ | refine gx_ff ?_ | refine x_tf (h := ?_) | refine x_ft (h := ?_) | refine x_u (h := ?_) | refine x_assign (h := ?_) | refine x_box (h := ?_) | refine x_alloc (h := ?_) | refine x_store0 (h := ?_) | refine x_append0 (T := 47) (h := ?_) | refine x_append (T := 47) (h := ?_) | refine x_store (h := ?_))
         | ((with_reducible refine o_id 33 rfl ?_); refine x_callh (hB := (by first | ((repeat' (first | exact .nil | refine .cons ?_ ?_ | exact .refl _ | exact bw_ints (by simp [fx]; first | done | rfl) (by first | (simp [fx]; done) | (simp [fx]; omega) | omega) | exact bw_list (by simp [fx]; first | done | rfl) (by first | (simp [fx]; done) | (simp [fx]; omega) | omega) (by first | (simp; done) | fail) | exact bw_sc (n := .s 14) (p := p) (k := k) ⟨by simp [hc1], fun j k hj hk => by simp [hc2 j k hj hk]⟩ hh hk)); done) | fail)) (hF := missing_fn _ p hp i k hk hi0) (h := ?_))
         | (with_reducible refine x_q (h := ?_))
         | (with_reducible refine gx_s (fun ht => ?_) (fun ht => ?_))
         | refine x_condt (h1 := ?_) | refine x_condf (h1 := ?_)
         | (refine w_sch (id := 8) (.q 0 <| .q 1 <| .q 2 <| .q 3 <| .q 5 <| .q 6 <| .q 7 <| .q 8 <| .q 9 <| .q 10 <| .l 4 [10, 9, 8, 7, 6, 5, 2, 1, 0] <| .l 11 [9, 8, 7, 6, 5, 2, 1, 0] <| .q 12 <| .q 13 <| .l 14 [12] <| .done) mixed (by kernel_rfl) (by kernel_rfl) fun K hK => ?_)
         | (refine w_sch (id := 12) (.q 0 <| .l 1 [] <| .q 2 <| .q 3 <| .q 4 <| .q 6 <| .l 5 [6, 2] <| .l 7 [2] <| .l 8 [2] <| .q 9 <| .q 10 <| .done) mixed (by kernel_rfl) (by kernel_rfl) fun K hK => ?_)
         | ((with_reducible refine a_end hK ?_); clear hK K)
         | ((with_reducible refine a_id ?_); first | refine xa_q (h := ?_) | refine xa_qt (h := ?_) | refine xa_qf (h := ?_))
         | ((with_reducible refine a_id ?_); refine xa_gq (h1 := fun ht => ?_) (h2 := fun ht => ?_))
         | refine a_l rfl ?_ | refine a_l2 ?_ ?_ | (with_reducible refine And.intro ?_ ?_) | exact st_nil | refine xa_st (h2 := ?_)
         | refine x_if (h1 := fun ht => ?_) (h2 := fun ht => ?_)
         | fail)
        all_goals try clear fx
        · have hno : fullOk p = false := fullP_long hk (by simp at ht ⊢; omega)
          simp only [hno]
          refine e_ret [(.c (.s 2) 0 0, root)] (.one rfl) (by simp [h2]; rfl) ?_
          simp
        · have hft : fullTo p (i + 1) = setBody (fullTo p i) i (explicitL p i k ++ k.body) := by simp only [fullTo, hk]
          refine ⟨p.length - (i + 1), by omega, i + 1, rfl, by omega, by simp [h1], by simp [hp1], by simp [h2], by simp [hp2], by simp [hp2'], by simp [h4], by simp [hp4], by simp [h14], ⟨by simp [hc1], fun j k hj hk => by simp [hc2 j k hj hk]⟩, by simp [h15], by simp; exact wrp (by omega) (by omega), ?_⟩
          rw [hft]
          refine ⟨?_, fun j r hj => ?_, fun j r hj => ?_⟩
          · simp [hset]
          all_goals
            have hl : j < (fullTo p i).length := by
              have := (List.getElem?_eq_some_iff.1 hj).1
              rwa [setBody_len] at this
            obtain ⟨q, hq⟩ : ∃ q, (fullTo p i)[j]? = some q := ⟨_, List.getElem?_eq_getElem hl⟩
            rw [setBody_get hq] at hj
            obtain rfl := Option.some.inj hj
            by_cases hij : i = j
          · subst hij
            simp [ho2 i q hq]
          · simp [ho2 j q hq, hij, show ¬ j = i from fun e => hij e.symm]
          · subst hij
            simp
          · simp [ho3 j q hq, hij, show ¬ j = i from fun e => hij e.symm]
    · have hge : i = p.length := by
        have : ¬ i < p.length := by simpa using hf
        omega
      subst hge
      clear hf hi
      have hfs := fullP_sml hs hsh
      have hfo : fullOk p = (progOk (fullP p) && decide (ownersOf (fullP p) = ownersOf p)) := by
        simp only [fullOk, hpo, Bool.true_and]
        congr 1
        simp only [decide_eq_decide]
        exact eq_comm
      cases hpf : progOk (fullP p) with
      | false =>
        have hno : fullOk p = false := by rw [hfo, hpf]; rfl
        all_goals have fx := And.intro h1 <| And.intro hp1 <| And.intro h4 <| And.intro hp4 <| And.intro h2 <| And.intro hp2 <| And.intro hp2' <| hpf
        repeat' (first
         | refine w_seq ?_ | refine w_block ?_ | refine w_skip ?_ | refine w_reg fun K hK => ?_
         | ((with_reducible refine s_end hK ?_); clear hK K)
         | (with_reducible first | refine then_normal ?_ | refine in_normal ?_ | refine then_exit ?_ | refine in_exit ?_ | refine then_ret ?_ | refine in_ret ?_ | refine s_nil ?_ | refine in_other (by decide) ?_)
         | refine w_exit ?_
         | refine w_ret ?_
         | (with_reducible refine s_none ?_)
         | ((with_reducible refine g_id ?_); refine x_guard (h := ?_))
         | (with_reducible first | refine gx_tt ?_ | refine gx_ff ?_ | refine x_tf (h := ?_) | refine x_ft (h := ?_) | refine x_u (h := ?_) | refine x_assign (h := ?_) | refine x_box (h := ?_) | refine x_alloc (h := ?_) | refine x_store0 (h := ?_) | refine x_append0 (T := 47) (h := ?_) | refine x_append (T := 47) (h := ?_) | refine x_store (h := ?_))
         | ((with_reducible refine o_id 30 rfl ?_); refine x_call (hB := (by first | ((repeat' (first | exact .nil | refine .cons ?_ ?_ | exact .refl _ | exact bw_ints (by simp [fx]; first | done | rfl) (by first | (simp [fx]; done) | (simp [fx]; omega) | omega) | exact bw_list (by simp [fx]; first | done | rfl) (by first | (simp [fx]; done) | (simp [fx]; omega) | omega) (by first | (simp; done) | fail) | exact bw_agg1 (bw_prog (p := fullP p) ⟨by simp [ho1, fullP], fun j r hj => by simp [ho2 j r hj], fun j r hj => by simp [ho3 j r hj]⟩ (by simp [fullP])))); done) | fail)) (hF := impl_ValidProgram_fn _ (fullP p) hfs) (h := ?_))
         | (with_reducible refine x_q (h := ?_))
         | (with_reducible refine gx_s (fun ht => ?_) (fun ht => ?_))
         | refine x_condt (h1 := ?_) | refine x_condf (h1 := ?_)
         | (refine w_sch (id := 8) (.q 0 <| .q 1 <| .q 2 <| .q 3 <| .q 5 <| .q 6 <| .q 7 <| .q 8 <| .q 9 <| .q 10 <| .l 4 [10, 9, 8, 7, 6, 5, 2, 1, 0] <| .l 11 [9, 8, 7, 6, 5, 2, 1, 0] <| .q 12 <| .q 13 <| .l 14 [12] <| .done) mixed (by kernel_rfl) (by kernel_rfl) fun K hK => ?_)
         | (refine w_sch (id := 12) (.q 0 <| .l 1 [] <| .q 2 <| .q 3 <| .q 4 <| .q 6 <| .l 5 [6, 2] <| .l 7 [2] <| .l 8 [2] <| .q 9 <| .q 10 <| .done) mixed (by kernel_rfl) (by kernel_rfl) fun K hK => ?_)
         | ((with_reducible refine a_end hK ?_); clear hK K)
         | ((with_reducible refine a_id ?_); first | refine xa_q (h := ?_) | refine xa_qt (h := ?_) | refine xa_qf (h := ?_))
         | ((with_reducible refine a_id ?_); refine xa_gq (h1 := fun ht => ?_) (h2 := fun ht => ?_))
         | refine a_l rfl ?_ | refine a_l2 ?_ ?_ | (with_reducible refine And.intro ?_ ?_) | exact st_nil | refine xa_st (h2 := ?_)
         | fail)
        all_goals try clear fx
        all_goals
          simp only [hno]
          refine e_ret [(.c (.s 2) 0 0, root)] (.one rfl) (by simp [h2]; rfl) ?_
          simp
      | true =>
        rw [hpf, Bool.true_and] at hfo
        have hpq : ShapeP (fullP p) := ShapeP.of hfs (by
          simp only [progOk, Bool.and_eq_true] at hpf
          exact hpf.1)
        all_goals have fx := And.intro h1 <| And.intro hp1 <| And.intro h4 <| And.intro hp4 <| And.intro h2 <| And.intro hp2 <| And.intro hp2' <| hpf
        repeat' (first
         | refine w_seq ?_ | refine w_block ?_ | refine w_skip ?_ | refine w_reg fun K hK => ?_
         | ((with_reducible refine s_end hK ?_); clear hK K)
         | (with_reducible first | refine then_normal ?_ | refine in_normal ?_ | refine then_exit ?_ | refine in_exit ?_ | refine then_ret ?_ | refine in_ret ?_ | refine s_nil ?_ | refine in_other (by decide) ?_)
         | refine w_exit ?_
         | refine w_ret ?_
         | (with_reducible refine s_none ?_)
         | ((with_reducible refine g_id ?_); refine x_guard (h := ?_))
         | (with_reducible first | refine gx_tt ?_ | refine gx_ff ?_ | refine x_tf (h := ?_) | refine x_ft (h := ?_) | refine x_u (h := ?_) | refine x_assign (h := ?_) | refine x_box (h := ?_) | refine x_alloc (h := ?_) | refine x_store0 (h := ?_) | refine x_append0 (T := 47) (h := ?_) | refine x_append (T := 47) (h := ?_) | refine x_store (h := ?_))
         | ((with_reducible refine o_id 30 rfl ?_); refine x_call (hB := (by first | ((repeat' (first | exact .nil | refine .cons ?_ ?_ | exact .refl _ | exact bw_ints (by simp [fx]; first | done | rfl) (by first | (simp [fx]; done) | (simp [fx]; omega) | omega) | exact bw_list (by simp [fx]; first | done | rfl) (by first | (simp [fx]; done) | (simp [fx]; omega) | omega) (by first | (simp; done) | fail) | exact bw_agg1 (bw_prog (p := fullP p) ⟨by simp [ho1, fullP], fun j r hj => by simp [ho2 j r hj], fun j r hj => by simp [ho3 j r hj]⟩ (by simp [fullP])))); done) | fail)) (hF := impl_ValidProgram_fn _ (fullP p) hfs) (h := ?_))
         | ((with_reducible refine o_id 34 rfl ?_); refine x_callg (hB := (by first | ((repeat' (first | exact .nil | refine .cons ?_ ?_ | exact .refl _ | exact bw_ints (by simp [fx]; first | done | rfl) (by first | (simp [fx]; done) | (simp [fx]; omega) | omega) | exact bw_list (by simp [fx]; first | done | rfl) (by first | (simp [fx]; done) | (simp [fx]; omega) | omega) (by first | (simp; done) | fail) | exact bw_agg1 (bw_prog (p := fullP p) ⟨by simp [ho1, fullP], fun j r hj => by simp [ho2 j r hj], fun j r hj => by simp [ho3 j r hj]⟩ (by simp [fullP])))); done) | fail)) (hF := impl_ownersOf_fn _ (fullP p) hpq) (h := ?_))
         | (with_reducible refine x_q (h := ?_))
         | (with_reducible refine gx_s (fun ht => ?_) (fun ht => ?_))
         | refine x_condt (h1 := ?_) | refine x_condf (h1 := ?_)
         | (refine w_sch (id := 8) (.q 0 <| .q 1 <| .q 2 <| .q 3 <| .q 5 <| .q 6 <| .q 7 <| .q 8 <| .q 9 <| .q 10 <| .l 4 [10, 9, 8, 7, 6, 5, 2, 1, 0] <| .l 11 [9, 8, 7, 6, 5, 2, 1, 0] <| .q 12 <| .q 13 <| .l 14 [12] <| .done) mixed (by kernel_rfl) (by kernel_rfl) fun K hK => ?_)
         | (refine w_sch (id := 12) (.q 0 <| .l 1 [] <| .q 2 <| .q 3 <| .q 4 <| .q 6 <| .l 5 [6, 2] <| .l 7 [2] <| .l 8 [2] <| .q 9 <| .q 10 <| .done) mixed (by kernel_rfl) (by kernel_rfl) fun K hK => ?_)
         | ((with_reducible refine a_end hK ?_); clear hK K)
         | ((with_reducible refine a_id ?_); first | refine xa_q (h := ?_) | refine xa_qt (h := ?_) | refine xa_qf (h := ?_))
         | ((with_reducible refine a_id ?_); refine xa_gq (h1 := fun ht => ?_) (h2 := fun ht => ?_))
         | refine a_l rfl ?_ | refine a_l2 ?_ ?_ | (with_reducible refine And.intro ?_ ?_) | exact st_nil | refine xa_st (h2 := ?_)
         | fail)
        all_goals try clear fx
        rintro y H1 ⟨rfl, hT1⟩
        obtain ⟨t11, t12⟩ := hT1.hcln
        refine ⟨by simp, ?_⟩
        all_goals have fx := And.intro h1 <| And.intro hp1 <| And.intro h4 <| And.intro hp4 <| And.intro h2 <| And.intro hp2 <| And.intro hp2' <| hpf
        repeat' (first
         | refine w_seq ?_ | refine w_block ?_ | refine w_skip ?_ | refine w_reg fun K hK => ?_
         | ((with_reducible refine s_end hK ?_); clear hK K)
         | (with_reducible first | refine then_normal ?_ | refine in_normal ?_ | refine then_exit ?_ | refine in_exit ?_ | refine then_ret ?_ | refine in_ret ?_ | refine s_nil ?_ | refine in_other (by decide) ?_)
         | refine w_exit ?_
         | refine w_ret ?_
         | (with_reducible refine s_none ?_)
         | ((with_reducible refine g_id ?_); refine x_guard (h := ?_))
         | (with_reducible first | refine gx_tt ?_ | refine gx_ff ?_ | refine x_tf (h := ?_) | refine x_ft (h := ?_) | refine x_u (h := ?_) | refine x_assign (h := ?_) | refine x_box (h := ?_) | refine x_alloc (h := ?_) | refine x_store0 (h := ?_) | refine x_append0 (T := 47) (h := ?_) | refine x_append (T := 47) (h := ?_) | refine x_store (h := ?_))
         | ((with_reducible refine o_id 34 rfl ?_); refine x_callg (hF := impl_ownersOf_fn _ p hp) (h := ?_))
         | (with_reducible refine x_q (h := ?_))
         | (with_reducible refine gx_s (fun ht => ?_) (fun ht => ?_))
         | refine x_condt (h1 := ?_) | refine x_condf (h1 := ?_)
         | (refine w_sch (id := 8) (.q 0 <| .q 1 <| .q 2 <| .q 3 <| .q 5 <| .q 6 <| .q 7 <| .q 8 <| .q 9 <| .q 10 <| .l 4 [10, 9, 8, 7, 6, 5, 2, 1, 0] <| .l 11 [9, 8, 7, 6, 5, 2, 1, 0] <| .q 12 <| .q 13 <| .l 14 [12] <| .done) mixed (by kernel_rfl) (by kernel_rfl) fun K hK => ?_)
         | (refine w_sch (id := 12) (.q 0 <| .l 1 [] <| .q 2 <| .q 3 <| .q 4 <| .q 6 <| .l 5 [6, 2] <| .l 7 [2] <| .l 8 [2] <| .q 9 <| .q 10 <| .done) mixed (by kernel_rfl) (by kernel_rfl) fun K hK => ?_)
         | ((with_reducible refine a_end hK ?_); clear hK K)
         | ((with_reducible refine a_id ?_); first | refine xa_q (h := ?_) | refine xa_qt (h := ?_) | refine xa_qf (h := ?_))
         | ((with_reducible refine a_id ?_); refine xa_gq (h1 := fun ht => ?_) (h2 := fun ht => ?_))
         | refine a_l rfl ?_ | refine a_l2 ?_ ?_ | (with_reducible refine And.intro ?_ ?_) | exact st_nil | refine xa_st (h2 := ?_)
         | fail)
        all_goals try clear fx
        rintro y H2 ⟨rfl, hT2⟩
        obtain ⟨t21, t22⟩ := hT2.hcln
        refine ⟨by simp, ?_⟩
        have hl1 : (ownersOf (fullP p)).length ≤ 1048576 := by simp [ownersOf, fullP]; omega
        have hl2 : (ownersOf p).length ≤ 1048576 := by simp [ownersOf]; omega
        have hr : ∀ q : Prg, ∀ r ∈ ownersOf q, r.length ≤ 1048576 := fun q r hr => by
          obtain ⟨j, hj⟩ := List.getElem?_of_mem hr
          rw [ownersOf_row hj]
          decide
        all_goals have fx := And.intro h1 <| And.intro hp1 <| And.intro h4 <| And.intro hp4 <| And.intro h2 <| And.intro hp2 <| And.intro hp2' <| hpf
        repeat' (first
         | refine w_seq ?_ | refine w_block ?_ | refine w_skip ?_ | refine w_reg fun K hK => ?_
         | ((with_reducible refine s_end hK ?_); clear hK K)
         | (with_reducible first | refine then_normal ?_ | refine in_normal ?_ | refine then_exit ?_ | refine in_exit ?_ | refine then_ret ?_ | refine in_ret ?_ | refine s_nil ?_ | refine in_other (by decide) ?_)
         | refine w_exit ?_
         | refine w_ret ?_
         | (with_reducible refine s_none ?_)
         | ((with_reducible refine g_id ?_); refine x_guard (h := ?_))
         | (with_reducible first | refine gx_tt ?_ | refine gx_ff ?_ | refine x_tf (h := ?_) | refine x_ft (h := ?_) | refine x_u (h := ?_) | refine x_assign (h := ?_) | refine x_box (h := ?_) | refine x_alloc (h := ?_) | refine x_store0 (h := ?_) | refine x_append0 (T := 47) (h := ?_) | refine x_append (T := 47) (h := ?_) | refine x_store (h := ?_))
         | ((with_reducible refine o_id 35 rfl ?_); refine x_call (hB := (by first | ((repeat' (first | exact .nil | refine .cons ?_ ?_ | exact .refl _ | exact bw_ints (by simp [fx]; first | done | rfl) (by first | (simp [fx]; done) | (simp [fx]; omega) | omega) | exact bw_list (by simp [fx]; first | done | rfl) (by first | (simp [fx]; done) | (simp [fx]; omega) | omega) (by first | (simp; done) | fail) | exact bw_tab (by simp [t11]; first | done | rfl) (fun j r hj => by simp [t12 j r hj]) (by simp [ownersOf]) | exact bw_tab (by simp [t21]; first | done | rfl) (fun j r hj => by simp [t22 j r hj]) (by simp [ownersOf]))); done) | fail)) (hF := gridEqual_fn _ _ _ hl1 hl2 (hr _) (hr _)) (h := ?_))
         | (with_reducible refine x_q (h := ?_))
         | (with_reducible refine gx_s (fun ht => ?_) (fun ht => ?_))
         | refine x_condt (h1 := ?_) | refine x_condf (h1 := ?_)
         | (refine w_sch (id := 8) (.q 0 <| .q 1 <| .q 2 <| .q 3 <| .q 5 <| .q 6 <| .q 7 <| .q 8 <| .q 9 <| .q 10 <| .l 4 [10, 9, 8, 7, 6, 5, 2, 1, 0] <| .l 11 [9, 8, 7, 6, 5, 2, 1, 0] <| .q 12 <| .q 13 <| .l 14 [12] <| .done) mixed (by kernel_rfl) (by kernel_rfl) fun K hK => ?_)
         | (refine w_sch (id := 12) (.q 0 <| .l 1 [] <| .q 2 <| .q 3 <| .q 4 <| .q 6 <| .l 5 [6, 2] <| .l 7 [2] <| .l 8 [2] <| .q 9 <| .q 10 <| .done) mixed (by kernel_rfl) (by kernel_rfl) fun K hK => ?_)
         | ((with_reducible refine a_end hK ?_); clear hK K)
         | ((with_reducible refine a_id ?_); first | refine xa_q (h := ?_) | refine xa_qt (h := ?_) | refine xa_qf (h := ?_))
         | ((with_reducible refine a_id ?_); refine xa_gq (h1 := fun ht => ?_) (h2 := fun ht => ?_))
         | refine a_l rfl ?_ | refine a_l2 ?_ ?_ | (with_reducible refine And.intro ?_ ?_) | exact st_nil | refine xa_st (h2 := ?_)
         | refine x_if (h1 := fun ht => ?_) (h2 := fun ht => ?_)
         | fail)
        all_goals try clear fx
        · have hno : fullOk p = false := by rw [hfo]; simpa using ht
          simp only [hno]
          refine e_ret [(.c (.s 2) 0 0, root)] (.one rfl) (by simp [h2]; rfl) ?_
          simp
        · have hyes : fullOk p = true := by rw [hfo]; simpa using ht
          simp only [hyes, if_true]
          refine e_ret [(.c (.s 4) 0 0, root)] (.one rfl) (by simp [h2, fullP]; rfl) ⟨by simp, ⟨?_, fun j r hj => ?_, fun j r hj => ?_⟩⟩
          · simp [ho1, fullP, pRows_tr (n := .c (.s 4) 0 0) (m := root) (f := finf noD [(.c (.s 4) 0 0, root)]) (p := fullTo p p.length) (by simp)]
          · simp [ho2 j r hj]
          · simp [ho3 j r hj]
end Go.Proofs.Ytopgafhjmbfaoaa
end
