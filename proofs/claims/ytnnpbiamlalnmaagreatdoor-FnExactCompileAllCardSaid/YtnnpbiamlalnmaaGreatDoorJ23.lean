/-
  Own texts, joined by mkclaim.py: Lb, Lc, Ld.
-/
import Derived.Test.YtnnpbiamlalnmaaGreatDoorJ22
import Derived.Test.YtnnpbiamlalnmaaGreatDoorJ10
set_option linter.unusedSimpArgs false
set_option linter.unusedVariables false
set_option maxRecDepth 100000
set_option maxHeartbeats 4000000

section
namespace Go.Proofs.YtnnpbiamlalnmaaGreatDoor
open Go Go.Hm Go.Proofs
abbrev qsLb0 : Sch := .q 0 <| .q 1 <| .q 2 <| .q 3 <| .q 4 <| .q 5 <| .q 6 <| .q 7 <| .q 8 <| .done
abbrev qsLb1 : Sch := .q 0 <| .q 1 <| .q 2 <| .q 3 <| .q 4 <| .q 5 <| .q 6 <| .q 7 <| .l 8 [6, 5, 4, 2, 1, 0] <| .q 9 <| .done
theorem eqIntS_fn (gl) (xs ys : List Int) (hx : xs.length ≤ 1048576) (hy : ys.length ≤ 1048576) : FnOk Tryz.prog gl 28 [isl xs, isl ys] (fun _ z _ => z = bv (decide (xs = ys))) := by
  refine FnOk.of_sem Tryz.func28 rfl (by kernel_rfl) (rs := [.tmp 4]) rfl Tryz.ntmps28 (Nat.le_of_ble_eq_true rfl) fun C w g root => ?_
  by_cases hl : xs.length = ys.length
  case neg =>
    have h1 : ((xs.length : Int) == ys.length) = false := by simp; omega
    all_goals have fx := And.intro h1 <| @bne_def
    repeat' (first
     | refine w_seq ?_ | refine w_block ?_ | refine w_skip ?_ | refine w_reg fun K hK => ?_
     | ((with_reducible refine s_end hK ?_); clear hK K)
     | (with_reducible first | refine then_normal ?_ | refine in_normal ?_ | refine then_exit ?_ | refine in_exit ?_ | refine then_ret ?_ | refine in_ret ?_ | refine s_nil ?_ | refine in_other (by decide) ?_)
     | refine w_exit ?_
     | refine w_ret ?_
     | (with_reducible first | refine s_none ?_ | refine x_assign (h := ?_))
     | (with_reducible refine x_q (h := ?_))
     | refine x_condt (h1 := ?_) | refine x_condf (h1 := ?_)
     | (refine wSc (id := 6) qsLb0 mixed fun K hK => ?_)
     | ((with_reducible refine a_end hK ?_); clear hK K)
     | ((with_reducible refine a_id ?_); first | refine xa_q (h := ?_) | refine xa_qt (h := ?_) | refine xa_qf (h := ?_) | refine xa_qu (h := ?_))
     | ((with_reducible refine a_id ?_); refine xa_gq (h1 := fun ht => ?_) (h2 := fun ht => ?_))
     | refine a_l rfl ?_ | refine a_l2 ?_ ?_ | (with_reducible refine And.intro ?_ ?_) | exact st_nil | refine xa_st (h2 := ?_)
     | fail)
    all_goals try clear fx
    refine e_ret [] .nil (by simp; rfl) ?_
    have : ¬ xs = ys := fun e => hl (by rw [e])
    simp [this]
  all_goals have fx := And.intro hl <| @bne_def
  repeat' (first
   | refine w_seq ?_ | refine w_block ?_ | refine w_skip ?_ | refine w_reg fun K hK => ?_
   | ((with_reducible refine s_end hK ?_); clear hK K)
   | (with_reducible first | refine then_normal ?_ | refine in_normal ?_ | refine then_exit ?_ | refine in_exit ?_ | refine then_ret ?_ | refine in_ret ?_ | refine s_nil ?_ | refine in_other (by decide) ?_)
   | refine w_exit ?_
   | refine w_ret ?_
   | (with_reducible first | refine s_none ?_ | refine x_assign (h := ?_))
   | (with_reducible refine x_q (h := ?_))
   | refine x_condt (h1 := ?_) | refine x_condf (h1 := ?_)
   | (refine wSc (id := 6) qsLb0 mixed fun K hK => ?_)
   | ((with_reducible refine a_end hK ?_); clear hK K)
   | ((with_reducible refine a_id ?_); first | refine xa_q (h := ?_) | refine xa_qt (h := ?_) | refine xa_qf (h := ?_) | refine xa_qu (h := ?_))
   | ((with_reducible refine a_id ?_); refine xa_gq (h1 := fun ht => ?_) (h2 := fun ht => ?_))
   | refine a_l rfl ?_ | refine a_l2 ?_ ?_ | (with_reducible refine And.intro ?_ ?_) | exact st_nil | refine xa_st (h2 := ?_)
   | fail)
  all_goals try clear fx
  refine w_loop (fun n st => ∃ i : Nat, n = xs.length - i ∧ i ≤ xs.length ∧ st.tm 0 = isl xs ∧ st.tm 1 = isl ys ∧ st.tm 5 = iv i ∧ xs.take i = ys.take i) xs.length ?_ ?_
  · exact ⟨0, by simp⟩
  rintro n st - - ⟨i, rfl, hi, h0, h1, h5, heq⟩
  all_goals have fx := And.intro h0 <| h5
  repeat' (first
   | refine w_seq ?_ | refine w_block ?_ | refine w_skip ?_ | refine w_reg fun K hK => ?_
   | ((with_reducible refine s_end hK ?_); clear hK K)
   | (with_reducible first | refine then_normal ?_ | refine in_normal ?_ | refine then_exit ?_ | refine in_exit ?_ | refine then_ret ?_ | refine in_ret ?_ | refine s_nil ?_ | refine in_other (by decide) ?_)
   | refine w_exit ?_
   | refine w_ret ?_
   | (with_reducible first | refine s_none ?_ | refine x_assign (h := ?_))
   | (with_reducible refine x_q (h := ?_))
   | refine x_condt (h1 := ?_) | refine x_condf (h1 := ?_)
   | (refine wSc (id := 6) qsLb0 mixed fun K hK => ?_)
   | ((with_reducible refine a_end hK ?_); clear hK K)
   | ((with_reducible refine a_id ?_); first | refine xa_q (h := ?_) | refine xa_qt (h := ?_) | refine xa_qf (h := ?_) | refine xa_qu (h := ?_))
   | ((with_reducible refine a_id ?_); refine xa_gq (h1 := fun ht => ?_) (h2 := fun ht => ?_))
   | refine a_l rfl ?_ | refine a_l2 ?_ ?_ | (with_reducible refine And.intro ?_ ?_) | exact st_nil | refine xa_st (h2 := ?_)
   | fail)
  all_goals try clear fx
  refine w_if (by simp []; first | done | rfl | exact (Bool.not_not _).symm) (fun ht => ?_) (fun hf => ?_)
  · have hlt : i < xs.length := by simpa using ht
    obtain ⟨x, hxi⟩ : ∃ x, xs[i]? = some x := ⟨_, gE (by omega)⟩
    obtain ⟨y, hyi⟩ : ∃ y, ys[i]? = some y := ⟨_, gE (by omega)⟩
    clear ht
    all_goals have fx := And.intro h0 <| And.intro h1 <| And.intro h5 <| And.intro hxi <| And.intro hyi <| @bne_def
    repeat' (first
     | refine w_seq ?_ | refine w_block ?_ | refine w_skip ?_ | refine w_reg fun K hK => ?_
     | ((with_reducible refine s_end hK ?_); clear hK K)
     | (with_reducible first | refine then_normal ?_ | refine in_normal ?_ | refine then_exit ?_ | refine in_exit ?_ | refine then_ret ?_ | refine in_ret ?_ | refine s_nil ?_ | refine in_other (by decide) ?_)
     | refine w_exit ?_
     | refine w_ret ?_
     | (with_reducible first | refine s_none ?_ | refine x_assign (h := ?_))
     | (with_reducible refine x_q (h := ?_))
     | refine x_condt (h1 := ?_) | refine x_condf (h1 := ?_)
     | (refine wSc (id := 6) qsLb0 mixed fun K hK => ?_)
     | ((with_reducible refine a_end hK ?_); clear hK K)
     | ((with_reducible refine a_id ?_); first | refine xa_q (h := ?_) | refine xa_qt (h := ?_) | refine xa_qf (h := ?_) | refine xa_qu (h := ?_))
     | ((with_reducible refine a_id ?_); refine xa_gq (h1 := fun ht => ?_) (h2 := fun ht => ?_))
     | refine a_l rfl ?_ | refine a_l2 ?_ ?_ | (with_reducible refine And.intro ?_ ?_) | exact st_nil | refine xa_st (h2 := ?_)
     | refine x_if (h1 := fun ht => ?_) (h2 := fun ht => ?_)
     | fail)
    all_goals try clear fx
    all_goals first
      | (refine e_ret [] .nil (by simp; rfl) ?_
         have hne : ¬ xs = ys := fun e => by rw [e, hyi] at hxi; obtain rfl := Option.some.inj hxi; simp at ht
         simp [hne])
      | (have hxy : x = y := by simpa using ht
         refine ⟨xs.length - (i + 1), by omega, i + 1, rfl, by omega, by simp [h0], by simp [h1], by simp; exact wrp (by omega) (by omega), ?_⟩
         rw [List.take_add_one, List.take_add_one, heq, hxi, hyi, hxy])
  · have hge : i = xs.length := by
      have : ¬ i < xs.length := by simpa using hf
      omega
    have : xs = ys := by rw [hge, List.take_length, hl, List.take_length] at heq; exact heq
    all_goals have fx := fx0
    repeat' (first
     | refine w_seq ?_ | refine w_block ?_ | refine w_skip ?_ | refine w_reg fun K hK => ?_
     | ((with_reducible refine s_end hK ?_); clear hK K)
     | (with_reducible first | refine then_normal ?_ | refine in_normal ?_ | refine then_exit ?_ | refine in_exit ?_ | refine then_ret ?_ | refine in_ret ?_ | refine s_nil ?_ | refine in_other (by decide) ?_)
     | refine w_exit ?_
     | refine w_ret ?_
     | (with_reducible first | refine s_none ?_ | refine x_assign (h := ?_))
     | (with_reducible refine x_q (h := ?_))
     | refine x_condt (h1 := ?_) | refine x_condf (h1 := ?_)
     | (refine wSc (id := 6) qsLb0 mixed fun K hK => ?_)
     | ((with_reducible refine a_end hK ?_); clear hK K)
     | ((with_reducible refine a_id ?_); first | refine xa_q (h := ?_) | refine xa_qt (h := ?_) | refine xa_qf (h := ?_) | refine xa_qu (h := ?_))
     | ((with_reducible refine a_id ?_); refine xa_gq (h1 := fun ht => ?_) (h2 := fun ht => ?_))
     | refine a_l rfl ?_ | refine a_l2 ?_ ?_ | (with_reducible refine And.intro ?_ ?_) | exact st_nil | refine xa_st (h2 := ?_)
     | fail)
    all_goals try clear fx
    refine e_ret [] .nil (by simp []; rfl) (by simp [this])
theorem eqStmt_fn (gl) (s t : Stm) : FnOk Tryz.prog gl 103 [s.av, t.av] (fun _ z _ => z = bv (decide (s = t))) := by
  obtain ⟨a, b, c, d⟩ := s
  obtain ⟨a', b', c', d'⟩ := t
  refine FnOk.of_sem Tryz.func103 rfl (by kernel_rfl) (rs := [.tmp 4]) rfl Tryz.ntmps103 (Nat.le_of_ble_eq_true rfl) fun C w g root => ?_
  all_goals have fx :=  @bne_def
  repeat' (first
   | refine w_seq ?_ | refine w_skip ?_ | refine w_reg fun K hK => ?_
   | ((with_reducible refine s_end hK ?_); clear hK K)
   | (with_reducible first | refine then_normal ?_ | refine then_ret ?_)
   | refine w_ret ?_
   | (with_reducible first | refine s_none ?_ | refine x_assign (h := ?_) | refine x_box (h := ?_))
   | (with_reducible refine x_q (h := ?_))
   | refine x_condt (h1 := ?_) | refine x_condf (h1 := ?_)
   | refine x_if (h1 := fun ht => ?_) (h2 := fun ht => ?_)
   | fail)
  all_goals try clear fx
  all_goals refine e_ret [] .nil (by simp; rfl) ?_
  all_goals simp_all
theorem eqStmtS_fn (gl) (xs ys : List Stm) (hx : xs.length ≤ 1048576) (hy : ys.length ≤ 1048576) : FnOk Tryz.prog gl 89 [ssl xs, ssl ys] (fun _ z _ => z = bv (decide (xs = ys))) := by
  refine FnOk.of_sem Tryz.func89 rfl (by kernel_rfl) (rs := [.tmp 4]) rfl Tryz.ntmps89 (Nat.le_of_ble_eq_true rfl) fun C w g root => ?_
  by_cases hl : xs.length = ys.length
  case neg =>
    have h1 : ((xs.length : Int) == ys.length) = false := by simp; omega
    all_goals have fx := And.intro h1 <| @bne_def
    repeat' (first
     | refine w_seq ?_ | refine w_block ?_ | refine w_skip ?_ | refine w_reg fun K hK => ?_
     | ((with_reducible refine s_end hK ?_); clear hK K)
     | (with_reducible first | refine then_normal ?_ | refine in_normal ?_ | refine then_exit ?_ | refine in_exit ?_ | refine then_ret ?_ | refine in_ret ?_ | refine s_nil ?_ | refine in_other (by decide) ?_)
     | refine w_exit ?_
     | refine w_ret ?_
     | (with_reducible first | refine s_none ?_ | refine x_assign (h := ?_))
     | (with_reducible refine x_q (h := ?_))
     | refine x_condt (h1 := ?_) | refine x_condf (h1 := ?_)
     | (refine wSc (id := 6) qsLb1 mixed fun K hK => ?_)
     | ((with_reducible refine a_end hK ?_); clear hK K)
     | ((with_reducible refine a_id ?_); first | refine xa_q (h := ?_) | refine xa_qt (h := ?_) | refine xa_qf (h := ?_) | refine xa_qu (h := ?_))
     | ((with_reducible refine a_id ?_); refine xa_gq (h1 := fun ht => ?_) (h2 := fun ht => ?_))
     | refine a_l rfl ?_ | refine a_l2 ?_ ?_ | (with_reducible refine And.intro ?_ ?_) | exact st_nil | refine xa_st (h2 := ?_)
     | fail)
    all_goals try clear fx
    refine e_ret [] .nil (by simp; rfl) ?_
    have : ¬ xs = ys := fun e => hl (by rw [e])
    simp [this]
  all_goals have fx := And.intro hl <| @bne_def
  repeat' (first
   | refine w_seq ?_ | refine w_block ?_ | refine w_skip ?_ | refine w_reg fun K hK => ?_
   | ((with_reducible refine s_end hK ?_); clear hK K)
   | (with_reducible first | refine then_normal ?_ | refine in_normal ?_ | refine then_exit ?_ | refine in_exit ?_ | refine then_ret ?_ | refine in_ret ?_ | refine s_nil ?_ | refine in_other (by decide) ?_)
   | refine w_exit ?_
   | refine w_ret ?_
   | (with_reducible first | refine s_none ?_ | refine x_assign (h := ?_))
   | (with_reducible refine x_q (h := ?_))
   | refine x_condt (h1 := ?_) | refine x_condf (h1 := ?_)
   | (refine wSc (id := 6) qsLb1 mixed fun K hK => ?_)
   | ((with_reducible refine a_end hK ?_); clear hK K)
   | ((with_reducible refine a_id ?_); first | refine xa_q (h := ?_) | refine xa_qt (h := ?_) | refine xa_qf (h := ?_) | refine xa_qu (h := ?_))
   | ((with_reducible refine a_id ?_); refine xa_gq (h1 := fun ht => ?_) (h2 := fun ht => ?_))
   | refine a_l rfl ?_ | refine a_l2 ?_ ?_ | (with_reducible refine And.intro ?_ ?_) | exact st_nil | refine xa_st (h2 := ?_)
   | fail)
  all_goals try clear fx
  refine w_loop (fun n st => ∃ i : Nat, n = xs.length - i ∧ i ≤ xs.length ∧ st.tm 0 = ssl xs ∧ st.tm 1 = ssl ys ∧ st.tm 5 = iv i ∧ xs.take i = ys.take i) xs.length ?_ ?_
  · exact ⟨0, by simp⟩
  rintro n st - - ⟨i, rfl, hi, h0, h1, h5, heq⟩
  all_goals have fx := And.intro h0 <| h5
  repeat' (first
   | refine w_seq ?_ | refine w_block ?_ | refine w_skip ?_ | refine w_reg fun K hK => ?_
   | ((with_reducible refine s_end hK ?_); clear hK K)
   | (with_reducible first | refine then_normal ?_ | refine in_normal ?_ | refine then_exit ?_ | refine in_exit ?_ | refine then_ret ?_ | refine in_ret ?_ | refine s_nil ?_ | refine in_other (by decide) ?_)
   | refine w_exit ?_
   | refine w_ret ?_
   | (with_reducible first | refine s_none ?_ | refine x_assign (h := ?_))
   | (with_reducible refine x_q (h := ?_))
   | refine x_condt (h1 := ?_) | refine x_condf (h1 := ?_)
   | (refine wSc (id := 6) qsLb1 mixed fun K hK => ?_)
   | ((with_reducible refine a_end hK ?_); clear hK K)
   | ((with_reducible refine a_id ?_); first | refine xa_q (h := ?_) | refine xa_qt (h := ?_) | refine xa_qf (h := ?_) | refine xa_qu (h := ?_))
   | ((with_reducible refine a_id ?_); refine xa_gq (h1 := fun ht => ?_) (h2 := fun ht => ?_))
   | refine a_l rfl ?_ | refine a_l2 ?_ ?_ | (with_reducible refine And.intro ?_ ?_) | exact st_nil | refine xa_st (h2 := ?_)
   | fail)
  all_goals try clear fx
  refine w_if (by simp []; first | done | rfl | exact (Bool.not_not _).symm) (fun ht => ?_) (fun hf => ?_)
  · have hlt : i < xs.length := by simpa using ht
    obtain ⟨x, hxi⟩ : ∃ x, xs[i]? = some x := ⟨_, gE (by omega)⟩
    obtain ⟨y, hyi⟩ : ∃ y, ys[i]? = some y := ⟨_, gE (by omega)⟩
    clear ht
    all_goals have fx := And.intro h0 <| And.intro h1 <| And.intro h5 <| And.intro hxi <| hyi
    repeat' (first
     | refine w_seq ?_ | refine w_block ?_ | refine w_skip ?_ | refine w_reg fun K hK => ?_
     | ((with_reducible refine s_end hK ?_); clear hK K)
     | (with_reducible first | refine then_normal ?_ | refine in_normal ?_ | refine then_exit ?_ | refine in_exit ?_ | refine then_ret ?_ | refine in_ret ?_ | refine s_nil ?_ | refine in_other (by decide) ?_)
     | refine w_exit ?_
     | refine w_ret ?_
     | (with_reducible first | refine s_none ?_ | refine x_assign (h := ?_))
     | ((with_reducible refine o_id 103 rfl ?_); refine x_call (hF := eqStmt_fn _ x y) (h := ?_))
     | (with_reducible refine x_q (h := ?_))
     | refine x_condt (h1 := ?_) | refine x_condf (h1 := ?_)
     | (refine wSc (id := 6) qsLb1 mixed fun K hK => ?_)
     | ((with_reducible refine a_end hK ?_); clear hK K)
     | ((with_reducible refine a_id ?_); first | refine xa_q (h := ?_) | refine xa_qt (h := ?_) | refine xa_qf (h := ?_) | refine xa_qu (h := ?_))
     | ((with_reducible refine a_id ?_); refine xa_gq (h1 := fun ht => ?_) (h2 := fun ht => ?_))
     | refine a_l rfl ?_ | refine a_l2 ?_ ?_ | (with_reducible refine And.intro ?_ ?_) | exact st_nil | refine xa_st (h2 := ?_)
     | refine x_if (h1 := fun ht => ?_) (h2 := fun ht => ?_)
     | fail)
    all_goals try clear fx
    all_goals first
      | (refine e_ret [] .nil (by simp; rfl) ?_
         have hne : ¬ xs = ys := fun e => by rw [e, hyi] at hxi; obtain rfl := Option.some.inj hxi; simp at ht
         simp [hne])
      | (have hxy : x = y := by simpa using ht
         refine ⟨xs.length - (i + 1), by omega, i + 1, rfl, by omega, by simp [h0], by simp [h1], by simp; exact wrp (by omega) (by omega), ?_⟩
         rw [List.take_add_one, List.take_add_one, heq, hxi, hyi, hxy])
  · have hge : i = xs.length := by
      have : ¬ i < xs.length := by simpa using hf
      omega
    have : xs = ys := by rw [hge, List.take_length, hl, List.take_length] at heq; exact heq
    all_goals have fx := fx0
    repeat' (first
     | refine w_seq ?_ | refine w_block ?_ | refine w_skip ?_ | refine w_reg fun K hK => ?_
     | ((with_reducible refine s_end hK ?_); clear hK K)
     | (with_reducible first | refine then_normal ?_ | refine in_normal ?_ | refine then_exit ?_ | refine in_exit ?_ | refine then_ret ?_ | refine in_ret ?_ | refine s_nil ?_ | refine in_other (by decide) ?_)
     | refine w_exit ?_
     | refine w_ret ?_
     | (with_reducible first | refine s_none ?_ | refine x_assign (h := ?_))
     | (with_reducible refine x_q (h := ?_))
     | refine x_condt (h1 := ?_) | refine x_condf (h1 := ?_)
     | (refine wSc (id := 6) qsLb1 mixed fun K hK => ?_)
     | ((with_reducible refine a_end hK ?_); clear hK K)
     | ((with_reducible refine a_id ?_); first | refine xa_q (h := ?_) | refine xa_qt (h := ?_) | refine xa_qf (h := ?_) | refine xa_qu (h := ?_))
     | ((with_reducible refine a_id ?_); refine xa_gq (h1 := fun ht => ?_) (h2 := fun ht => ?_))
     | refine a_l rfl ?_ | refine a_l2 ?_ ?_ | (with_reducible refine And.intro ?_ ?_) | exact st_nil | refine xa_st (h2 := ?_)
     | fail)
    all_goals try clear fx
    refine e_ret [] .nil (by simp []; rfl) (by simp [this])
theorem eqBlock_fn (gl) (k l : Blk) (hk : BSm k) (hl : BSm l) : FnOk Tryz.prog gl 60 [k.av, l.av] (fun _ z _ => z = bv (decide (k = l))) := by
  obtain ⟨a, b, c, d⟩ := k
  obtain ⟨a', b', c', d'⟩ := l
  have h1 := eqIntS_fn gl c c' hk.params hl.params
  have h2 := eqStmtS_fn gl d d' hk.body hl.body
  refine FnOk.of_sem Tryz.func60 rfl (by kernel_rfl) (rs := [.tmp 4]) rfl Tryz.ntmps60 (Nat.le_of_ble_eq_true rfl) fun C w g root => ?_
  all_goals have fx :=  @bne_def
  repeat' (first
   | refine w_seq ?_ | refine w_skip ?_ | refine w_reg fun K hK => ?_
   | ((with_reducible refine s_end hK ?_); clear hK K)
   | (with_reducible first | refine then_normal ?_ | refine then_ret ?_)
   | refine w_ret ?_
   | (with_reducible first | refine s_none ?_ | refine x_assign (h := ?_) | refine x_box (h := ?_))
   | ((with_reducible refine o_id 28 rfl ?_); refine x_call (hF := h1) (h := ?_))
   | ((with_reducible refine o_id 89 rfl ?_); refine x_call (hF := h2) (h := ?_))
   | (with_reducible refine x_q (h := ?_))
   | refine x_condt (h1 := ?_) | refine x_condf (h1 := ?_)
   | refine x_if (h1 := fun ht => ?_) (h2 := fun ht => ?_)
   | fail)
  all_goals try clear fx
  all_goals refine e_ret [] .nil (by simp; rfl) ?_
  all_goals simp_all
theorem eqBlockS_fn (gl) (xs ys : Prg) (hx : Sml xs) (hy : Sml ys) : FnOk Tryz.prog gl 30 [ksl xs, ksl ys] (fun _ z _ => z = bv (decide (xs = ys))) := by
  have hxl := hx.len
  have hyl := hy.len
  refine FnOk.of_sem Tryz.func30 rfl (by kernel_rfl) (rs := [.tmp 4]) rfl Tryz.ntmps30 (Nat.le_of_ble_eq_true rfl) fun C w g root => ?_
  by_cases hl : xs.length = ys.length
  case neg =>
    have h1 : ((xs.length : Int) == ys.length) = false := by simp; omega
    all_goals have fx := And.intro h1 <| @bne_def
    repeat' (first
     | refine w_seq ?_ | refine w_block ?_ | refine w_skip ?_ | refine w_reg fun K hK => ?_
     | ((with_reducible refine s_end hK ?_); clear hK K)
     | (with_reducible first | refine then_normal ?_ | refine in_normal ?_ | refine then_exit ?_ | refine in_exit ?_ | refine then_ret ?_ | refine in_ret ?_ | refine s_nil ?_ | refine in_other (by decide) ?_)
     | refine w_exit ?_
     | refine w_ret ?_
     | (with_reducible first | refine s_none ?_ | refine x_assign (h := ?_))
     | (with_reducible refine x_q (h := ?_))
     | refine x_condt (h1 := ?_) | refine x_condf (h1 := ?_)
     | (refine wSc (id := 6) qsLb1 mixed fun K hK => ?_)
     | ((with_reducible refine a_end hK ?_); clear hK K)
     | ((with_reducible refine a_id ?_); first | refine xa_q (h := ?_) | refine xa_qt (h := ?_) | refine xa_qf (h := ?_) | refine xa_qu (h := ?_))
     | ((with_reducible refine a_id ?_); refine xa_gq (h1 := fun ht => ?_) (h2 := fun ht => ?_))
     | refine a_l rfl ?_ | refine a_l2 ?_ ?_ | (with_reducible refine And.intro ?_ ?_) | exact st_nil | refine xa_st (h2 := ?_)
     | fail)
    all_goals try clear fx
    refine e_ret [] .nil (by simp; rfl) ?_
    have : ¬ xs = ys := fun e => hl (by rw [e])
    simp [this]
  all_goals have fx := And.intro hl <| @bne_def
  repeat' (first
   | refine w_seq ?_ | refine w_block ?_ | refine w_skip ?_ | refine w_reg fun K hK => ?_
   | ((with_reducible refine s_end hK ?_); clear hK K)
   | (with_reducible first | refine then_normal ?_ | refine in_normal ?_ | refine then_exit ?_ | refine in_exit ?_ | refine then_ret ?_ | refine in_ret ?_ | refine s_nil ?_ | refine in_other (by decide) ?_)
   | refine w_exit ?_
   | refine w_ret ?_
   | (with_reducible first | refine s_none ?_ | refine x_assign (h := ?_))
   | (with_reducible refine x_q (h := ?_))
   | refine x_condt (h1 := ?_) | refine x_condf (h1 := ?_)
   | (refine wSc (id := 6) qsLb1 mixed fun K hK => ?_)
   | ((with_reducible refine a_end hK ?_); clear hK K)
   | ((with_reducible refine a_id ?_); first | refine xa_q (h := ?_) | refine xa_qt (h := ?_) | refine xa_qf (h := ?_) | refine xa_qu (h := ?_))
   | ((with_reducible refine a_id ?_); refine xa_gq (h1 := fun ht => ?_) (h2 := fun ht => ?_))
   | refine a_l rfl ?_ | refine a_l2 ?_ ?_ | (with_reducible refine And.intro ?_ ?_) | exact st_nil | refine xa_st (h2 := ?_)
   | fail)
  all_goals try clear fx
  refine w_loop (fun n st => ∃ i : Nat, n = xs.length - i ∧ i ≤ xs.length ∧ st.tm 0 = ksl xs ∧ st.tm 1 = ksl ys ∧ st.tm 5 = iv i ∧ xs.take i = ys.take i) xs.length ?_ ?_
  · exact ⟨0, by simp⟩
  rintro n st - - ⟨i, rfl, hi, h0, h1, h5, heq⟩
  all_goals have fx := And.intro h0 <| h5
  repeat' (first
   | refine w_seq ?_ | refine w_block ?_ | refine w_skip ?_ | refine w_reg fun K hK => ?_
   | ((with_reducible refine s_end hK ?_); clear hK K)
   | (with_reducible first | refine then_normal ?_ | refine in_normal ?_ | refine then_exit ?_ | refine in_exit ?_ | refine then_ret ?_ | refine in_ret ?_ | refine s_nil ?_ | refine in_other (by decide) ?_)
   | refine w_exit ?_
   | refine w_ret ?_
   | (with_reducible first | refine s_none ?_ | refine x_assign (h := ?_))
   | (with_reducible refine x_q (h := ?_))
   | refine x_condt (h1 := ?_) | refine x_condf (h1 := ?_)
   | (refine wSc (id := 6) qsLb1 mixed fun K hK => ?_)
   | ((with_reducible refine a_end hK ?_); clear hK K)
   | ((with_reducible refine a_id ?_); first | refine xa_q (h := ?_) | refine xa_qt (h := ?_) | refine xa_qf (h := ?_) | refine xa_qu (h := ?_))
   | ((with_reducible refine a_id ?_); refine xa_gq (h1 := fun ht => ?_) (h2 := fun ht => ?_))
   | refine a_l rfl ?_ | refine a_l2 ?_ ?_ | (with_reducible refine And.intro ?_ ?_) | exact st_nil | refine xa_st (h2 := ?_)
   | fail)
  all_goals try clear fx
  refine w_if (by simp []; first | done | rfl | exact (Bool.not_not _).symm) (fun ht => ?_) (fun hf => ?_)
  · have hlt : i < xs.length := by simpa using ht
    obtain ⟨x, hxi⟩ : ∃ x, xs[i]? = some x := ⟨_, gE (by omega)⟩
    obtain ⟨y, hyi⟩ : ∃ y, ys[i]? = some y := ⟨_, gE (by omega)⟩
    clear ht
    all_goals have fx := And.intro h0 <| And.intro h1 <| And.intro h5 <| And.intro hxi <| hyi
    repeat' (first
     | refine w_seq ?_ | refine w_block ?_ | refine w_skip ?_ | refine w_reg fun K hK => ?_
     | ((with_reducible refine s_end hK ?_); clear hK K)
     | (with_reducible first | refine then_normal ?_ | refine in_normal ?_ | refine then_exit ?_ | refine in_exit ?_ | refine then_ret ?_ | refine in_ret ?_ | refine s_nil ?_ | refine in_other (by decide) ?_)
     | refine w_exit ?_
     | refine w_ret ?_
     | (with_reducible first | refine s_none ?_ | refine x_assign (h := ?_))
     | ((with_reducible refine o_id 60 rfl ?_); refine x_call (hF := eqBlock_fn _ x y (hx.bsm hxi) (hy.bsm hyi)) (h := ?_))
     | (with_reducible refine x_q (h := ?_))
     | refine x_condt (h1 := ?_) | refine x_condf (h1 := ?_)
     | (refine wSc (id := 6) qsLb1 mixed fun K hK => ?_)
     | ((with_reducible refine a_end hK ?_); clear hK K)
     | ((with_reducible refine a_id ?_); first | refine xa_q (h := ?_) | refine xa_qt (h := ?_) | refine xa_qf (h := ?_) | refine xa_qu (h := ?_))
     | ((with_reducible refine a_id ?_); refine xa_gq (h1 := fun ht => ?_) (h2 := fun ht => ?_))
     | refine a_l rfl ?_ | refine a_l2 ?_ ?_ | (with_reducible refine And.intro ?_ ?_) | exact st_nil | refine xa_st (h2 := ?_)
     | refine x_if (h1 := fun ht => ?_) (h2 := fun ht => ?_)
     | fail)
    all_goals try clear fx
    all_goals first
      | (refine e_ret [] .nil (by simp; rfl) ?_
         have hne : ¬ xs = ys := fun e => by rw [e, hyi] at hxi; obtain rfl := Option.some.inj hxi; simp at ht
         simp [hne])
      | (have hxy : x = y := by simpa using ht
         refine ⟨xs.length - (i + 1), by omega, i + 1, rfl, by omega, by simp [h0], by simp [h1], by simp; exact wrp (by omega) (by omega), ?_⟩
         rw [List.take_add_one, List.take_add_one, heq, hxi, hyi, hxy])
  · have hge : i = xs.length := by
      have : ¬ i < xs.length := by simpa using hf
      omega
    have : xs = ys := by rw [hge, List.take_length, hl, List.take_length] at heq; exact heq
    all_goals have fx := fx0
    repeat' (first
     | refine w_seq ?_ | refine w_block ?_ | refine w_skip ?_ | refine w_reg fun K hK => ?_
     | ((with_reducible refine s_end hK ?_); clear hK K)
     | (with_reducible first | refine then_normal ?_ | refine in_normal ?_ | refine then_exit ?_ | refine in_exit ?_ | refine then_ret ?_ | refine in_ret ?_ | refine s_nil ?_ | refine in_other (by decide) ?_)
     | refine w_exit ?_
     | refine w_ret ?_
     | (with_reducible first | refine s_none ?_ | refine x_assign (h := ?_))
     | (with_reducible refine x_q (h := ?_))
     | refine x_condt (h1 := ?_) | refine x_condf (h1 := ?_)
     | (refine wSc (id := 6) qsLb1 mixed fun K hK => ?_)
     | ((with_reducible refine a_end hK ?_); clear hK K)
     | ((with_reducible refine a_id ?_); first | refine xa_q (h := ?_) | refine xa_qt (h := ?_) | refine xa_qf (h := ?_) | refine xa_qu (h := ?_))
     | ((with_reducible refine a_id ?_); refine xa_gq (h1 := fun ht => ?_) (h2 := fun ht => ?_))
     | refine a_l rfl ?_ | refine a_l2 ?_ ?_ | (with_reducible refine And.intro ?_ ?_) | exact st_nil | refine xa_st (h2 := ?_)
     | fail)
    all_goals try clear fx
    refine e_ret [] .nil (by simp []; rfl) (by simp [this])
theorem eqProgram_fn (gl) (xs ys : Prg) (hx : Sml xs) (hy : Sml ys) : FnOk Tryz.prog gl 10 [pav xs, pav ys] (fun _ z _ => z = bv (decide (xs = ys))) := by
  refine FnOk.of_sem Tryz.func10 rfl (by kernel_rfl) (rs := [.tmp 4]) rfl Tryz.ntmps10 (Nat.le_of_ble_eq_true rfl) fun C w g root => ?_
  all_goals have fx := fx0
  repeat' (first
   | refine w_seq ?_ | refine w_skip ?_ | refine w_reg fun K hK => ?_
   | ((with_reducible refine s_end hK ?_); clear hK K)
   | (with_reducible first | refine then_normal ?_ | refine then_ret ?_)
   | refine w_ret ?_
   | (with_reducible first | refine s_none ?_ | refine x_assign (h := ?_) | refine x_box (h := ?_))
   | ((with_reducible refine o_id 30 rfl ?_); refine x_call (hF := eqBlockS_fn _ xs ys hx hy) (h := ?_))
   | (with_reducible refine x_q (h := ?_))
   | refine x_condt (h1 := ?_) | refine x_condf (h1 := ?_)
   | refine x_if (h1 := fun ht => ?_) (h2 := fun ht => ?_)
   | fail)
  all_goals try clear fx
  all_goals refine e_ret [] .nil (by simp; rfl) ?_
  all_goals simp_all
theorem markIntS_fn (gl) (H : Nm → Option AO) (xs : List Int) (c : Int) (hH : H (.u 1 0 0) = some (.row 1 (irows xs))) (hc : 0 ≤ c ∧ c ≤ 1152921504606846976) (hx : xs.length ≤ 1048576) :
    FnE Tryz.prog gl 32 (Nm.under (.u 1 0 0)) [.hs (.u 1 0 0) 1 0 xs.length, iv c] H (fun _ y H' => y = iv (c + xs.length) ∧ H' (.u 1 0 0) = some (.row 1 (irows (markI xs.length c)))) noE := by
  refine FnE.of_sem Tryz.func32 rfl (by kernel_rfl) (rs := [.tmp 4]) rfl Tryz.ntmps32 (Nat.le_of_ble_eq_true rfl) (fun _ => under_usroot rfl) fun C w g root hroot => ?_
  all_goals have fx := fx0
  repeat' (first
   | refine w_seq ?_ | refine w_block ?_ | refine w_skip ?_ | refine w_reg fun K hK => ?_
   | ((with_reducible refine s_end hK ?_); clear hK K)
   | (with_reducible first | refine then_normal ?_ | refine in_normal ?_ | refine then_exit ?_ | refine in_exit ?_ | refine then_ret ?_ | refine in_ret ?_ | refine in_other (by decide) ?_)
   | refine w_exit ?_
   | refine w_ret ?_
   | (with_reducible first | refine s_none ?_ | refine x_assign (h := ?_) | refine x_store0 (h := ?_))
   | (with_reducible refine x_q (h := ?_))
   | refine x_condt (h1 := ?_) | refine x_condf (h1 := ?_)
   | fail)
  all_goals try clear fx
  refine w_loop (fun n st => ∃ i : Nat, n = xs.length - i ∧ i ≤ xs.length ∧ st.tm 0 = .hs (.u 1 0 0) 1 0 xs.length ∧ st.tm 1 = iv (c + i) ∧ st.hp (.u 1 0 0) = some (.row 1 (irows (markI i c ++ xs.drop i))) ∧ st.tm 5 = iv i) xs.length ?_ ?_
  · exact ⟨0, by simp, by simp, by simp, by simp, by simp [hH, markI], by simp⟩
  rintro n st - - ⟨i, rfl, hi, h0, h1, hp0, h5⟩
  all_goals have fx := And.intro h0 <| h5
  repeat' (first
   | refine w_seq ?_ | refine w_block ?_ | refine w_skip ?_ | refine w_reg fun K hK => ?_
   | ((with_reducible refine s_end hK ?_); clear hK K)
   | (with_reducible first | refine then_normal ?_ | refine in_normal ?_ | refine then_exit ?_ | refine in_exit ?_ | refine then_ret ?_ | refine in_ret ?_ | refine in_other (by decide) ?_)
   | refine w_exit ?_
   | refine w_ret ?_
   | (with_reducible first | refine s_none ?_ | refine x_assign (h := ?_) | refine x_store0 (h := ?_))
   | (with_reducible refine x_q (h := ?_))
   | refine x_condt (h1 := ?_) | refine x_condf (h1 := ?_)
   | fail)
  all_goals try clear fx
  refine w_if (by simp []; first | done | rfl | exact (Bool.not_not _).symm) (fun ht => ?_) (fun hf => ?_)
  · have hlt : i < xs.length := by simpa using ht
    have hset := markI_set (c := c) hlt
    have hll : (markI i c ++ xs.drop i).length = xs.length := by simp; omega
    clear ht
    all_goals have fx := And.intro h0 <| And.intro h1 <| And.intro hp0 <| And.intro h5 <| And.intro hlt <| hll
    repeat' (first
     | refine w_seq ?_ | refine w_block ?_ | refine w_skip ?_ | refine w_reg fun K hK => ?_
     | ((with_reducible refine s_end hK ?_); clear hK K)
     | (with_reducible first | refine then_normal ?_ | refine in_normal ?_ | refine then_exit ?_ | refine in_exit ?_ | refine then_ret ?_ | refine in_ret ?_ | refine in_other (by decide) ?_)
     | refine w_exit ?_
     | refine w_ret ?_
     | (with_reducible first | refine s_none ?_ | refine x_assign (h := ?_) | refine x_store0 (h := ?_))
     | (with_reducible refine x_q (h := ?_))
     | refine x_condt (h1 := ?_) | refine x_condf (h1 := ?_)
     | fail)
    all_goals try clear fx
    refine ⟨xs.length - (i + 1), by omega, i + 1, rfl, by omega, by simp [h0], ?_, by simp [← hset], by simp; exact wrp (by omega) (by omega)⟩
    simp
    rw [wrp (by omega) (by omega)]
    omega
  · have hge : i = xs.length := by
      have : ¬ i < xs.length := by simpa using hf
      omega
    subst hge
    rw [List.drop_length, List.append_nil] at hp0
    all_goals have fx :=  h1
    repeat' (first
     | refine w_seq ?_ | refine w_block ?_ | refine w_skip ?_ | refine w_reg fun K hK => ?_
     | ((with_reducible refine s_end hK ?_); clear hK K)
     | (with_reducible first | refine then_normal ?_ | refine in_normal ?_ | refine then_exit ?_ | refine in_exit ?_ | refine then_ret ?_ | refine in_ret ?_ | refine in_other (by decide) ?_)
     | refine w_exit ?_
     | refine w_ret ?_
     | (with_reducible first | refine s_none ?_ | refine x_assign (h := ?_) | refine x_store0 (h := ?_))
     | (with_reducible refine x_q (h := ?_))
     | refine x_condt (h1 := ?_) | refine x_condf (h1 := ?_)
     | fail)
    all_goals try clear fx
    refine e_ret [] .nil (by simp; rfl) ⟨by simp, by simp [hp0]⟩
theorem markStmtS_fn (gl) (H : Nm → Option AO) (xs : List Stm) (c : Int) (hH : H (.u 1 0 0) = some (.row 4 (srows xs))) (hc : 0 ≤ c ∧ c ≤ 1152921504606846976) (hx : xs.length ≤ 1048576) :
    FnE Tryz.prog gl 61 (Nm.under (.u 1 0 0)) [.hs (.u 1 0 0) 4 0 xs.length, iv c] H (fun _ y H' => y = iv (c + 4 * xs.length) ∧ H' (.u 1 0 0) = some (.row 4 (srows (markS xs.length c)))) noE := by
  refine FnE.of_sem Tryz.func61 rfl (by kernel_rfl) (rs := [.tmp 4]) rfl Tryz.ntmps61 (Nat.le_of_ble_eq_true rfl) (fun _ => under_usroot rfl) fun C w g root hroot => ?_
  all_goals have fx := fx0
  repeat' (first
   | refine w_seq ?_ | refine w_block ?_ | refine w_skip ?_ | refine w_reg fun K hK => ?_
   | ((with_reducible refine s_end hK ?_); clear hK K)
   | (with_reducible first | refine then_normal ?_ | refine in_normal ?_ | refine then_exit ?_ | refine in_exit ?_ | refine then_ret ?_ | refine in_ret ?_ | refine in_other (by decide) ?_)
   | refine w_exit ?_
   | refine w_ret ?_
   | (with_reducible first | refine s_none ?_ | refine x_assign (h := ?_) | refine x_store0 (h := ?_))
   | (with_reducible refine x_q (h := ?_))
   | refine x_condt (h1 := ?_) | refine x_condf (h1 := ?_)
   | fail)
  all_goals try clear fx
  refine w_loop (fun n st => ∃ i : Nat, n = xs.length - i ∧ i ≤ xs.length ∧ st.tm 0 = .hs (.u 1 0 0) 4 0 xs.length ∧ st.tm 1 = iv (c + 4 * i) ∧ st.hp (.u 1 0 0) = some (.row 4 (srows (markS i c ++ xs.drop i))) ∧ st.tm 5 = iv i) xs.length ?_ ?_
  · exact ⟨0, by simp, by simp, by simp, by simp, by simp [hH, markS], by simp⟩
  rintro n st - - ⟨i, rfl, hi, h0, h1, hp0, h5⟩
  all_goals have fx := And.intro h0 <| h5
  repeat' (first
   | refine w_seq ?_ | refine w_block ?_ | refine w_skip ?_ | refine w_reg fun K hK => ?_
   | ((with_reducible refine s_end hK ?_); clear hK K)
   | (with_reducible first | refine then_normal ?_ | refine in_normal ?_ | refine then_exit ?_ | refine in_exit ?_ | refine then_ret ?_ | refine in_ret ?_ | refine in_other (by decide) ?_)
   | refine w_exit ?_
   | refine w_ret ?_
   | (with_reducible first | refine s_none ?_ | refine x_assign (h := ?_) | refine x_store0 (h := ?_))
   | (with_reducible refine x_q (h := ?_))
   | refine x_condt (h1 := ?_) | refine x_condf (h1 := ?_)
   | fail)
  all_goals try clear fx
  refine w_if (by simp []; first | done | rfl | exact (Bool.not_not _).symm) (fun ht => ?_) (fun hf => ?_)
  · have hlt : i < xs.length := by simpa using ht
    have hset := markS_set (c := c) hlt
    have hll : (markS i c ++ xs.drop i).length = xs.length := by simp; omega
    have hs4 := srows_set4 (L := markS i c ++ xs.drop i) (i := i) (a := c + 4 * i) (b := c + 4 * i + 1) (d := c + 4 * i + 2) (e := c + 4 * i + 3) (by omega)
    rw [hset] at hs4
    obtain ⟨v0, hv0⟩ : ∃ v, v = c + 4 * (i : Int) := ⟨_, rfl⟩
    rw [← hv0] at h1 hs4
    obtain ⟨v1, hv1⟩ : ∃ v, v = v0 + 1 := ⟨_, rfl⟩
    obtain ⟨v2, hv2⟩ : ∃ v, v = v1 + 1 := ⟨_, rfl⟩
    obtain ⟨v3, hv3⟩ : ∃ v, v = v2 + 1 := ⟨_, rfl⟩
    have hw1 : IntKind.i64.wrap (v0 + 1) = v1 := by rw [hv1]; exact wrp (by omega) (by omega)
    have hw2 : IntKind.i64.wrap (v1 + 1) = v2 := by rw [hv2]; exact wrp (by omega) (by omega)
    have hw3 : IntKind.i64.wrap (v2 + 1) = v3 := by rw [hv3]; exact wrp (by omega) (by omega)
    have hw4 : IntKind.i64.wrap (v3 + 1) = v3 + 1 := wrp (by omega) (by omega)
    rw [← hv1, show v0 + 2 = v2 by omega, show v0 + 3 = v3 by omega] at hs4
    generalize markS i c ++ xs.drop i = L at hp0 hll hs4
    clear ht hset
    all_goals have fx := And.intro h0 <| And.intro h1 <| And.intro hp0 <| And.intro h5 <| And.intro hlt <| And.intro hll <| And.intro hw1 <| And.intro hw2 <| hw3
    repeat' (first
     | refine w_seq ?_ | refine w_block ?_ | refine w_skip ?_ | refine w_reg fun K hK => ?_
     | ((with_reducible refine s_end hK ?_); clear hK K)
     | (with_reducible first | refine then_normal ?_ | refine in_normal ?_ | refine then_exit ?_ | refine in_exit ?_ | refine then_ret ?_ | refine in_ret ?_ | refine in_other (by decide) ?_)
     | refine w_exit ?_
     | refine w_ret ?_
     | (with_reducible first | refine s_none ?_ | refine x_assign (h := ?_) | refine x_store0 (h := ?_))
     | (with_reducible refine x_q (h := ?_))
     | refine x_condt (h1 := ?_) | refine x_condf (h1 := ?_)
     | fail)
    all_goals try clear fx
    refine ⟨xs.length - (i + 1), by omega, i + 1, rfl, by omega, by simp [h0], ?_, by simp [hw1, hw2, hw3, hs4], by simp; exact wrp (by omega) (by omega)⟩
    simp [hw1, hw2, hw3, hw4]
    omega
  · have hge : i = xs.length := by
      have : ¬ i < xs.length := by simpa using hf
      omega
    subst hge
    rw [List.drop_length, List.append_nil] at hp0
    all_goals have fx :=  h1
    repeat' (first
     | refine w_seq ?_ | refine w_block ?_ | refine w_skip ?_ | refine w_reg fun K hK => ?_
     | ((with_reducible refine s_end hK ?_); clear hK K)
     | (with_reducible first | refine then_normal ?_ | refine in_normal ?_ | refine then_exit ?_ | refine in_exit ?_ | refine then_ret ?_ | refine in_ret ?_ | refine in_other (by decide) ?_)
     | refine w_exit ?_
     | refine w_ret ?_
     | (with_reducible first | refine s_none ?_ | refine x_assign (h := ?_) | refine x_store0 (h := ?_))
     | (with_reducible refine x_q (h := ?_))
     | refine x_condt (h1 := ?_) | refine x_condf (h1 := ?_)
     | fail)
    all_goals try clear fx
    refine e_ret [] .nil (by simp; rfl) ⟨by simp, by simp [hp0]⟩
theorem markBlockS_fn (gl) (H : Nm → Option AO) (p : Prg) (c : Int) (hs : Sml p) (hO : OwnP H (.u 0 0 0) p) (hV : H (.u 1 0 0) = none) (hc : 0 ≤ c ∧ c ≤ 1024) :
    FnE Tryz.prog gl 31 (Nm.under (.u 0 0 0)) [.hs (.u 0 0 0) 4 0 p.length, iv c] H (fun _ y H' => y = iv (c + cnt p) ∧ OwnP H' (.u 0 0 0) (markP p c)) noE := by
  have hpl := hs.len
  obtain ⟨ha1, ha2, ha3⟩ := hO
  refine FnE.of_sem Tryz.func31 rfl (by kernel_rfl) (rs := [.tmp 4]) rfl Tryz.ntmps31 (Nat.le_of_ble_eq_true rfl) (fun _ => under_usroot rfl) fun C w g root hroot => ?_
  all_goals have fx := fx0
  repeat' (first
   | refine w_seq ?_ | refine w_block ?_ | refine w_skip ?_ | refine w_reg fun K hK => ?_
   | ((with_reducible refine s_end hK ?_); clear hK K)
   | (with_reducible first | refine then_normal ?_ | refine in_normal ?_ | refine then_exit ?_ | refine in_exit ?_ | refine then_ret ?_ | refine in_ret ?_ | refine in_other (by decide) ?_)
   | refine w_exit ?_
   | refine w_ret ?_
   | (with_reducible first | refine s_none ?_ | refine x_assign (h := ?_) | refine x_store0 (h := ?_))
   | (with_reducible refine x_q (h := ?_))
   | refine x_condt (h1 := ?_) | refine x_condf (h1 := ?_)
   | fail)
  all_goals try clear fx
  refine w_loop (fun n st => ∃ i : Nat, n = p.length - i ∧ i ≤ p.length ∧ st.tm 0 = .hs (.u 0 0 0) 4 0 p.length ∧ st.tm 1 = iv (c + cntTo p i) ∧ OwnP st.hp (.u 0 0 0) (markTo p c i) ∧ st.tm 5 = iv i) p.length ?_ ?_
  · refine ⟨0, by simp, by simp, by simp, by simp [cntTo], ?_, by simp⟩
    rw [markTo_zero]
    exact ⟨by simp [ha1], fun j k hk => by simp [ha2 j k hk], fun j k hk => by simp [ha3 j k hk]⟩
  rintro n st - - ⟨i, rfl, hi, h0, h1, ⟨ho1, ho2, ho3⟩, h5⟩
  all_goals have fx := And.intro h0 <| h5
  repeat' (first
   | refine w_seq ?_ | refine w_block ?_ | refine w_skip ?_ | refine w_reg fun K hK => ?_
   | ((with_reducible refine s_end hK ?_); clear hK K)
   | (with_reducible first | refine then_normal ?_ | refine in_normal ?_ | refine then_exit ?_ | refine in_exit ?_ | refine then_ret ?_ | refine in_ret ?_ | refine in_other (by decide) ?_)
   | refine w_exit ?_
   | refine w_ret ?_
   | (with_reducible first | refine s_none ?_ | refine x_assign (h := ?_) | refine x_store0 (h := ?_))
   | (with_reducible refine x_q (h := ?_))
   | refine x_condt (h1 := ?_) | refine x_condf (h1 := ?_)
   | fail)
  all_goals try clear fx
  refine w_if (by simp []; first | done | rfl | exact (Bool.not_not _).symm) (fun ht => ?_) (fun hf => ?_)
  · have hlt : i < p.length := by simpa using ht
    obtain ⟨k, hk⟩ : ∃ k, p[i]? = some k := ⟨_, gE hlt⟩
    obtain ⟨hkp, hkb⟩ := hs.bsm hk
    have hcl := cntTo_le hs i
    have hcg := cntTo_get hk
    have hmg := markTo_get (c := c) (i := i) hk
    rw [if_neg (Nat.lt_irrefl i)] at hmg
    have hp2 := ho2 i k hmg
    have hp3 := ho3 i k hmg
    have hKP := pRows_setKP (n := .u 0 0 0) (q := markTo p c i) (i := i) (a := c + cntTo p i) (b := c + cntTo p i + 1)
    have hmk := pRows_mark (n := .u 0 0 0) (c := c) hk
    rw [hmk] at hKP
    have hng := markTo_get (c := c) (i := i + 1) hk
    rw [if_pos (Nat.lt_succ_self i)] at hng
    obtain ⟨_, hnge⟩ := gS hng
    obtain ⟨v0, hv0⟩ : ∃ v, v = c + (cntTo p i : Int) := ⟨_, rfl⟩
    rw [← hv0] at h1 hKP
    obtain ⟨v1, hv1⟩ : ∃ v, v = v0 + 1 := ⟨_, rfl⟩
    obtain ⟨v2, hv2⟩ : ∃ v, v = v1 + 1 := ⟨_, rfl⟩
    rw [← hv1] at hKP
    have hw1 : IntKind.i64.wrap (v0 + 1) = v1 := by rw [hv1]; exact wrp (by omega) (by omega)
    have hw2 : IntKind.i64.wrap (v1 + 1) = v2 := by rw [hv2]; exact wrp (by omega) (by omega)
    have hml : (markTo p c i).length = p.length := by simp
    have hml' : (markTo p c (i + 1)).length = p.length := by simp
    have hmp : (markBlk k (c + cntTo p i)).params.length = k.params.length := by simp [markBlk]
    have hmb : (markBlk k (c + cntTo p i)).body.length = k.body.length := by simp [markBlk]
    clear ht
    all_goals have fx := And.intro h0 <| And.intro h1 <| And.intro ho1 <| And.intro h5 <| And.intro hlt <| And.intro hw1 <| And.intro hw2 <| And.intro hKP <| And.intro hml <| And.intro hml' <| And.intro hng <| And.intro hnge <| And.intro hmp <| hmb
    repeat' (first
     | refine w_seq ?_ | refine w_block ?_ | refine w_skip ?_ | refine w_reg fun K hK => ?_
     | ((with_reducible refine s_end hK ?_); clear hK K)
     | (with_reducible first | refine then_normal ?_ | refine in_normal ?_ | refine then_exit ?_ | refine in_exit ?_ | refine then_ret ?_ | refine in_ret ?_ | refine in_other (by decide) ?_)
     | refine w_exit ?_
     | refine w_ret ?_
     | (with_reducible first | refine s_none ?_ | refine x_assign (h := ?_) | refine x_store0 (h := ?_))
     | (with_reducible refine x_q (h := ?_))
     | refine x_condt (h1 := ?_) | refine x_condf (h1 := ?_)
     | fail)
    all_goals try clear fx
    have hx1 : (ctx0 Tryz.prog C w g H Tryz.f31.ntmps gl).ext (.u 1 0 0) = false := by simp [ctx0, hV]
    have fx := And.intro h0 <| And.intro h1 <| And.intro h5 <| And.intro hw2 hmp
    refine x_mutc (.c (.u 0 0 0) i 2) (.u 1 0 0) (hext := hx1) (hs := by simp [hp2]) (hF := markIntS_fn _ _ k.params v2 (by simp [hp2]) (by omega) hkp) (h := ?_)
    rintro y H1 ⟨rfl, hy1⟩
    clear fx
    all_goals have fx := And.intro h0 <| And.intro h1 <| And.intro ho1 <| And.intro h5 <| And.intro hlt <| And.intro hw1 <| And.intro hw2 <| And.intro hKP <| And.intro hml <| And.intro hml' <| And.intro hng <| And.intro hnge <| And.intro hmp <| hmb
    repeat' (first
     | refine w_seq ?_ | refine w_block ?_ | refine w_skip ?_ | refine w_reg fun K hK => ?_
     | ((with_reducible refine s_end hK ?_); clear hK K)
     | (with_reducible first | refine then_normal ?_ | refine in_normal ?_ | refine then_exit ?_ | refine in_exit ?_ | refine then_ret ?_ | refine in_ret ?_ | refine in_other (by decide) ?_)
     | refine w_exit ?_
     | refine w_ret ?_
     | (with_reducible first | refine s_none ?_ | refine x_assign (h := ?_) | refine x_store0 (h := ?_))
     | (with_reducible refine x_q (h := ?_))
     | refine x_condt (h1 := ?_) | refine x_condf (h1 := ?_)
     | fail)
    all_goals try clear fx
    have fx := And.intro h0 <| And.intro h1 <| And.intro h5 <| And.intro hw2 <| And.intro hmp hmb
    refine x_mutc (.c (.u 0 0 0) i 3) (.u 1 0 0) (hext := hx1) (hs := by simp [hp3]) (hF := markStmtS_fn _ _ k.body (v2 + k.params.length) (by simp [hp3]) (by omega) hkb) (h := ?_)
    rintro y H2 ⟨rfl, hy2⟩
    clear fx
    all_goals have fx := And.intro h0 <| And.intro h1 <| h5
    repeat' (first
     | refine w_seq ?_ | refine w_block ?_ | refine w_skip ?_ | refine w_reg fun K hK => ?_
     | ((with_reducible refine s_end hK ?_); clear hK K)
     | (with_reducible first | refine then_normal ?_ | refine in_normal ?_ | refine then_exit ?_ | refine in_exit ?_ | refine then_ret ?_ | refine in_ret ?_ | refine in_other (by decide) ?_)
     | refine w_exit ?_
     | refine w_ret ?_
     | (with_reducible first | refine s_none ?_ | refine x_assign (h := ?_) | refine x_store0 (h := ?_))
     | (with_reducible refine x_q (h := ?_))
     | refine x_condt (h1 := ?_) | refine x_condf (h1 := ?_)
     | fail)
    all_goals try clear fx
    have hcb : (cntB k : Int) = 2 + k.params.length + 4 * k.body.length := by simp only [cntB]; omega
    refine ⟨p.length - (i + 1), by omega, i + 1, rfl, by omega, by simp [h0], ?_, ⟨?_, fun j r hj => ?_, fun j r hj => ?_⟩, by simp [h5]; exact wrp (by omega) (by omega)⟩
    · simp
      rw [hcg]
      omega
    · simp [ho1, hw1, hw2, hKP]
    · obtain ⟨q, hq, rfl⟩ := markTo_params hj
      by_cases hji : j = i
      · subst hji
        rw [hk] at hq
        obtain rfl := Option.some.inj hq
        rw [if_pos (Nat.lt_succ_self j)]
        have : v2 = c + cntTo p j + 2 := by omega
        simp [markBlk, hy1, this]
      · have hjo := ho2 j _ (markTo_get (c := c) (i := i) hq)
        by_cases hlj : j < i
        · rw [if_pos hlj] at hjo
          rw [if_pos (by omega)]
          simp [hjo, hji]
        · rw [if_neg hlj] at hjo
          rw [if_neg (by omega)]
          simp [hjo, hji]
    · obtain ⟨q, hq, rfl⟩ := markTo_params hj
      by_cases hji : j = i
      · subst hji
        rw [hk] at hq
        obtain rfl := Option.some.inj hq
        rw [if_pos (Nat.lt_succ_self j)]
        have : v2 = c + cntTo p j + 2 := by omega
        simp [markBlk, hy2, this]
      · have hjo := ho3 j _ (markTo_get (c := c) (i := i) hq)
        by_cases hlj : j < i
        · rw [if_pos hlj] at hjo
          rw [if_pos (by omega)]
          simp [hjo, hji]
        · rw [if_neg hlj] at hjo
          rw [if_neg (by omega)]
          simp [hjo, hji]
  · have hge : i = p.length := by
      have : ¬ i < p.length := by simpa using hf
      omega
    subst hge
    all_goals have fx :=  h1
    repeat' (first
     | refine w_seq ?_ | refine w_block ?_ | refine w_skip ?_ | refine w_reg fun K hK => ?_
     | ((with_reducible refine s_end hK ?_); clear hK K)
     | (with_reducible first | refine then_normal ?_ | refine in_normal ?_ | refine then_exit ?_ | refine in_exit ?_ | refine then_ret ?_ | refine in_ret ?_ | refine in_other (by decide) ?_)
     | refine w_exit ?_
     | refine w_ret ?_
     | (with_reducible first | refine s_none ?_ | refine x_assign (h := ?_) | refine x_store0 (h := ?_))
     | (with_reducible refine x_q (h := ?_))
     | refine x_condt (h1 := ?_) | refine x_condf (h1 := ?_)
     | fail)
    all_goals try clear fx
    refine e_ret [] .nil (by simp; rfl) ⟨by simp [cnt], ⟨?_, fun j r hj => ?_, fun j r hj => ?_⟩⟩
    · simp [ho1, markP, pRows_tr (n := .u 0 0 0) (m := .u 0 0 0) (f := finf (Nm.under (.u 0 0 0)) []) (p := markTo p c p.length) (by simp)]
    · have := ho2 j r hj
      simp [this]
    · have := ho3 j r hj
      simp [this]
theorem markProgram_fn (gl) (H : Nm → Option AO) (p : Prg) (c : Int) (hs : Sml p) (hO : OwnP H (.u 0 0 0) p) (hV : H (.u 1 0 0) = none) (hc : 0 ≤ c ∧ c ≤ 1024) :
    FnE Tryz.prog gl 11 (Nm.under (.u 0 0 0)) [.agg [.hs (.u 0 0 0) 4 0 p.length], iv c] H (fun _ y H' => y = iv (c + cnt p) ∧ OwnP H' (.u 0 0 0) (markP p c)) noE := by
  obtain ⟨ha1, ha2, ha3⟩ := hO
  refine FnE.of_sem Tryz.func11 rfl (by kernel_rfl) (rs := [.tmp 4]) rfl Tryz.ntmps11 (Nat.le_of_ble_eq_true rfl) (fun _ => under_usroot rfl) fun C w g root hroot => ?_
  all_goals have fx := fx0
  repeat' (first
   | refine w_seq ?_ | refine w_reg fun K hK => ?_
   | ((with_reducible refine s_end hK ?_); clear hK K)
   | (with_reducible first | refine then_normal ?_ | refine then_ret ?_)
   | refine w_ret ?_
   | (with_reducible first | refine s_none ?_ | refine x_assign (h := ?_) | refine x_box (h := ?_))
   | (with_reducible refine x_q (h := ?_))
   | fail)
  all_goals try clear fx
  have fx := fx0
  refine x_mut (.u 0 0 0) rfl (fun _ => by simp [ha1]) (hF := markBlockS_fn _ _ p c hs ⟨by simp [ha1], fun j r hj => by simp [ha2 j r hj], fun j r hj => by simp [ha3 j r hj]⟩ (by simp) hc) (h := ?_)
  rintro y H' ⟨rfl, ⟨ho1, ho2, ho3⟩⟩
  clear fx
  all_goals have fx := fx0
  repeat' (first
   | refine w_seq ?_ | refine w_reg fun K hK => ?_
   | ((with_reducible refine s_end hK ?_); clear hK K)
   | (with_reducible first | refine then_normal ?_ | refine then_ret ?_)
   | refine w_ret ?_
   | (with_reducible first | refine s_none ?_ | refine x_assign (h := ?_) | refine x_box (h := ?_))
   | (with_reducible refine x_q (h := ?_))
   | fail)
  all_goals try clear fx
  refine e_ret [] .nil (by simp; rfl) ⟨by simp, ⟨?_, fun j r hj => ?_, fun j r hj => ?_⟩⟩
  · simp [ho1, pRows_tr (n := .u 0 0 0) (m := .u 0 0 0) (f := finf (Nm.under (.u 0 0 0)) []) (p := markP p c) (by simp)]
  · simp [ho2 j r hj]
  · simp [ho3 j r hj]
theorem heldIntS_fn (gl) (m : Nat) (c : Int) (hc : 0 ≤ c ∧ c ≤ 1152921504606846976) (hm : m ≤ 1048576) : FnOk Tryz.prog gl 34 [isl (markI m c), iv c] (fun _ y _ => y = iv (c + m)) := by
  have hml : (markI m c).length = m := markI_len
  refine FnOk.of_sem Tryz.func34 rfl (by kernel_rfl) (rs := [.tmp 4]) rfl Tryz.ntmps34 (Nat.le_of_ble_eq_true rfl) fun C w g root => ?_
  all_goals have fx := fx0
  repeat' (first
   | refine w_seq ?_ | refine w_block ?_ | refine w_skip ?_ | refine w_reg fun K hK => ?_
   | ((with_reducible refine s_end hK ?_); clear hK K)
   | (with_reducible first | refine then_normal ?_ | refine in_normal ?_ | refine then_exit ?_ | refine in_exit ?_ | refine then_ret ?_ | refine in_ret ?_ | refine in_other (by decide) ?_)
   | refine w_exit ?_
   | refine w_ret ?_
   | (with_reducible first | refine s_none ?_ | refine x_assign (h := ?_))
   | (with_reducible refine x_q (h := ?_))
   | refine x_condt (h1 := ?_) | refine x_condf (h1 := ?_)
   | fail)
  all_goals try clear fx
  refine w_loop (fun n st => ∃ i : Nat, n = m - i ∧ i ≤ m ∧ st.tm 0 = isl (markI m c) ∧ st.tm 1 = iv (c + i) ∧ st.tm 5 = iv i) m ⟨0, by simp⟩ ?_
  rintro n st - - ⟨i, rfl, hi, h0, h1, h5⟩
  all_goals have fx := And.intro h0 <| h5
  repeat' (first
   | refine w_seq ?_ | refine w_block ?_ | refine w_skip ?_ | refine w_reg fun K hK => ?_
   | ((with_reducible refine s_end hK ?_); clear hK K)
   | (with_reducible first | refine then_normal ?_ | refine in_normal ?_ | refine then_exit ?_ | refine in_exit ?_ | refine then_ret ?_ | refine in_ret ?_ | refine in_other (by decide) ?_)
   | refine w_exit ?_
   | refine w_ret ?_
   | (with_reducible first | refine s_none ?_ | refine x_assign (h := ?_))
   | (with_reducible refine x_q (h := ?_))
   | refine x_condt (h1 := ?_) | refine x_condf (h1 := ?_)
   | fail)
  all_goals try clear fx
  refine w_if (by simp []; first | done | rfl | exact (Bool.not_not _).symm) (fun ht => ?_) (fun hf => ?_)
  · have hlt : i < m := by simpa using ht
    have hg : (markI m c)[i]? = some (c + i) := by simp [markI, hlt]
    clear ht
    all_goals have fx := And.intro h0 <| And.intro h1 <| And.intro h5 <| And.intro hg <| @bne_def
    repeat' (first
     | refine w_seq ?_ | refine w_block ?_ | refine w_skip ?_ | refine w_reg fun K hK => ?_
     | ((with_reducible refine s_end hK ?_); clear hK K)
     | (with_reducible first | refine then_normal ?_ | refine in_normal ?_ | refine then_exit ?_ | refine in_exit ?_ | refine then_ret ?_ | refine in_ret ?_ | refine in_other (by decide) ?_)
     | refine w_exit ?_
     | refine w_ret ?_
     | (with_reducible first | refine s_none ?_ | refine x_assign (h := ?_))
     | (with_reducible refine x_q (h := ?_))
     | refine x_condt (h1 := ?_) | refine x_condf (h1 := ?_)
     | fail)
    all_goals try clear fx
    refine ⟨m - (i + 1), by omega, i + 1, rfl, by omega, by simp [h0], ?_, by simp; exact wrp (by omega) (by omega)⟩
    simp
    rw [wrp (by omega) (by omega)]
    omega
  · have hge : i = m := by
      have : ¬ i < m := by simpa using hf
      omega
    subst hge
    all_goals have fx :=  h1
    repeat' (first
     | refine w_seq ?_ | refine w_block ?_ | refine w_skip ?_ | refine w_reg fun K hK => ?_
     | ((with_reducible refine s_end hK ?_); clear hK K)
     | (with_reducible first | refine then_normal ?_ | refine in_normal ?_ | refine then_exit ?_ | refine in_exit ?_ | refine then_ret ?_ | refine in_ret ?_ | refine in_other (by decide) ?_)
     | refine w_exit ?_
     | refine w_ret ?_
     | (with_reducible first | refine s_none ?_ | refine x_assign (h := ?_))
     | (with_reducible refine x_q (h := ?_))
     | refine x_condt (h1 := ?_) | refine x_condf (h1 := ?_)
     | fail)
    all_goals try clear fx
    refine e_ret [] .nil (by simp; rfl) (by simp)
end Go.Proofs.YtnnpbiamlalnmaaGreatDoor
end
