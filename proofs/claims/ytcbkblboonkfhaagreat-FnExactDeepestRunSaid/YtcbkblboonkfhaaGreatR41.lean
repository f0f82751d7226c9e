/-
  Own texts, joined by mkclaim.py: Lb, Lc, Ld, Vx, Lr.
-/
import Derived.Test.YtcbkblboonkfhaaGreatR40
import Derived.Test.YtcbkblboonkfhaaGreatR11
import Derived.Test.YtcbkblboonkfhaaGreatR39
import Derived.Test.YtcbkblboonkfhaaGreatR19
import Derived.Test.YtcbkblboonkfhaaGreatR12
import Derived.WalkKit
import Derived.ProofKit
import Derived.OpenShut
set_option linter.unusedSimpArgs false
set_option linter.unusedVariables false

section
set_option maxRecDepth 100000
set_option maxHeartbeats 1000000
set_option linter.unusedSimpArgs false
namespace Go.Proofs.YtcbkblboonkfhaaGreat
open Go Go.Hm Go.Proofs
theorem eqIntS_fn (gl) (xs ys : List Int) (hx : xs.length ≤ 1048576) (hy : ys.length ≤ 1048576) : FnOk Tryz.prog gl 141 [isl xs, isl ys] (fun _ z _ => z = bv (decide (xs = ys))) := by
  refine FnOk.of_sem Tryz.func141 rfl (by kernel_rfl) (rs := [.tmp 4]) rfl Tryz.ntmps141 (Nat.le_of_ble_eq_true rfl) fun C w g root => ?_
  by_cases hl : xs.length = ys.length
  case neg =>
    have h1 : ((xs.length : Int) == ys.length) = false := by simp; omega
    all_goals have fx := And.intro h1 <| @bne_def
    repeat' (first
     | refine w_seq ?_ | refine w_block ?_ | refine w_skip ?_ | refine w_reg fun K hK => ?_
     | ((with_reducible refine s_end hK ?_); clear hK K)
     | (with_reducible first | refine then_normal ?_ | refine in_normal ?_ | refine then_exit ?_ | refine in_exit ?_ | refine then_ret ?_ | refine in_ret ?_ | refine s_nil ?_ | refine in_other (by decide) ?_)
     | refine w_exit ?_
     | refine w_ret ?_
     | (with_reducible first | refine s_none ?_ | refine x_assign (h := ?_))
     | (with_reducible refine x_q (h := ?_))
     | refine x_condt (h1 := ?_) | refine x_condf (h1 := ?_)
     | (refine w_sch (id := 6) (.q 0 <| .q 1 <| .q 2 <| .q 3 <| .q 4 <| .q 5 <| .q 6 <| .q 7 <| .q 8 <| .done) mixed (by kernel_rfl) (by kernel_rfl) fun K hK => ?_)
     | ((with_reducible refine a_end hK ?_); clear hK K)
     | ((with_reducible refine a_id ?_); first | refine xa_q (h := ?_) | refine xa_qt (h := ?_) | refine xa_qf (h := ?_) | refine xa_qu (h := ?_))
     | ((with_reducible refine a_id ?_); refine xa_gq (h1 := fun ht => ?_) (h2 := fun ht => ?_))
     | refine a_l rfl ?_ | refine a_l2 ?_ ?_ | (with_reducible refine And.intro ?_ ?_) | exact st_nil | refine xa_st (h2 := ?_)
     | fail)
    all_goals try clear fx
    refine e_ret [] .nil (by simp; rfl) ?_
    have : ¬ xs = ys := fun e => hl (by rw [e])
    simp [this]
  all_goals have fx := And.intro hl <| @bne_def
  repeat' (first
   | refine w_seq ?_ | refine w_block ?_ | refine w_skip ?_ | refine w_reg fun K hK => ?_
   | ((with_reducible refine s_end hK ?_); clear hK K)
   | (with_reducible first | refine then_normal ?_ | refine in_normal ?_ | refine then_exit ?_ | refine in_exit ?_ | refine then_ret ?_ | refine in_ret ?_ | refine s_nil ?_ | refine in_other (by decide) ?_)
   | refine w_exit ?_
   | refine w_ret ?_
   | (with_reducible first | refine s_none ?_ | refine x_assign (h := ?_))
   | (with_reducible refine x_q (h := ?_))
   | refine x_condt (h1 := ?_) | refine x_condf (h1 := ?_)
   | (refine w_sch (id := 6) (.q 0 <| .q 1 <| .q 2 <| .q 3 <| .q 4 <| .q 5 <| .q 6 <| .q 7 <| .q 8 <| .done) mixed (by kernel_rfl) (by kernel_rfl) fun K hK => ?_)
   | ((with_reducible refine a_end hK ?_); clear hK K)
   | ((with_reducible refine a_id ?_); first | refine xa_q (h := ?_) | refine xa_qt (h := ?_) | refine xa_qf (h := ?_) | refine xa_qu (h := ?_))
   | ((with_reducible refine a_id ?_); refine xa_gq (h1 := fun ht => ?_) (h2 := fun ht => ?_))
   | refine a_l rfl ?_ | refine a_l2 ?_ ?_ | (with_reducible refine And.intro ?_ ?_) | exact st_nil | refine xa_st (h2 := ?_)
   | fail)
  all_goals try clear fx
  refine w_loop (fun n st => ∃ i : Nat, n = xs.length - i ∧ i ≤ xs.length ∧ st.tm 0 = isl xs ∧ st.tm 1 = isl ys ∧ st.tm 5 = iv i ∧ xs.take i = ys.take i) xs.length ?_ ?_
  · exact ⟨0, by simp⟩
  rintro n st - - ⟨i, rfl, hi, h0, h1, h5, heq⟩
  all_goals have fx := And.intro h0 <| h5
  repeat' (first
   | refine w_seq ?_ | refine w_block ?_ | refine w_skip ?_ | refine w_reg fun K hK => ?_
   | ((with_reducible refine s_end hK ?_); clear hK K)
   | (with_reducible first | refine then_normal ?_ | refine in_normal ?_ | refine then_exit ?_ | refine in_exit ?_ | refine then_ret ?_ | refine in_ret ?_ | refine s_nil ?_ | refine in_other (by decide) ?_)
   | refine w_exit ?_
   | refine w_ret ?_
   | (with_reducible first | refine s_none ?_ | refine x_assign (h := ?_))
   | (with_reducible refine x_q (h := ?_))
   | refine x_condt (h1 := ?_) | refine x_condf (h1 := ?_)
   | (refine w_sch (id := 6) (.q 0 <| .q 1 <| .q 2 <| .q 3 <| .q 4 <| .q 5 <| .q 6 <| .q 7 <| .q 8 <| .done) mixed (by kernel_rfl) (by kernel_rfl) fun K hK => ?_)
   | ((with_reducible refine a_end hK ?_); clear hK K)
   | ((with_reducible refine a_id ?_); first | refine xa_q (h := ?_) | refine xa_qt (h := ?_) | refine xa_qf (h := ?_) | refine xa_qu (h := ?_))
   | ((with_reducible refine a_id ?_); refine xa_gq (h1 := fun ht => ?_) (h2 := fun ht => ?_))
   | refine a_l rfl ?_ | refine a_l2 ?_ ?_ | (with_reducible refine And.intro ?_ ?_) | exact st_nil | refine xa_st (h2 := ?_)
   | fail)
  all_goals try clear fx
  refine w_if (by simp []; first | done | rfl | exact (Bool.not_not _).symm) (fun ht => ?_) (fun hf => ?_)
  · have hlt : i < xs.length := by simpa using ht
    obtain ⟨x, hxi⟩ : ∃ x, xs[i]? = some x := ⟨_, List.getElem?_eq_getElem (by omega)⟩
    obtain ⟨y, hyi⟩ : ∃ y, ys[i]? = some y := ⟨_, List.getElem?_eq_getElem (by omega)⟩
    clear ht
    all_goals have fx := And.intro h0 <| And.intro h1 <| And.intro h5 <| And.intro hxi <| And.intro hyi <| @bne_def
    repeat' (first
     | refine w_seq ?_ | refine w_block ?_ | refine w_skip ?_ | refine w_reg fun K hK => ?_
     | ((with_reducible refine s_end hK ?_); clear hK K)
     | (with_reducible first | refine then_normal ?_ | refine in_normal ?_ | refine then_exit ?_ | refine in_exit ?_ | refine then_ret ?_ | refine in_ret ?_ | refine s_nil ?_ | refine in_other (by decide) ?_)
     | refine w_exit ?_
     | refine w_ret ?_
     | (with_reducible first | refine s_none ?_ | refine x_assign (h := ?_))
     | (with_reducible refine x_q (h := ?_))
     | refine x_condt (h1 := ?_) | refine x_condf (h1 := ?_)
     | (refine w_sch (id := 6) (.q 0 <| .q 1 <| .q 2 <| .q 3 <| .q 4 <| .q 5 <| .q 6 <| .q 7 <| .q 8 <| .done) mixed (by kernel_rfl) (by kernel_rfl) fun K hK => ?_)
     | ((with_reducible refine a_end hK ?_); clear hK K)
     | ((with_reducible refine a_id ?_); first | refine xa_q (h := ?_) | refine xa_qt (h := ?_) | refine xa_qf (h := ?_) | refine xa_qu (h := ?_))
     | ((with_reducible refine a_id ?_); refine xa_gq (h1 := fun ht => ?_) (h2 := fun ht => ?_))
     | refine a_l rfl ?_ | refine a_l2 ?_ ?_ | (with_reducible refine And.intro ?_ ?_) | exact st_nil | refine xa_st (h2 := ?_)
     | refine x_if (h1 := fun ht => ?_) (h2 := fun ht => ?_)
     | fail)
    all_goals try clear fx
    all_goals first
      | (refine e_ret [] .nil (by simp; rfl) ?_
         have hne : ¬ xs = ys := fun e => by rw [e, hyi] at hxi; obtain rfl := Option.some.inj hxi; simp at ht
         simp [hne])
      | (have hxy : x = y := by simpa using ht
         refine ⟨xs.length - (i + 1), by omega, i + 1, rfl, by omega, by simp [h0], by simp [h1], by simp; exact wrp (by omega) (by omega), ?_⟩
         rw [List.take_add_one, List.take_add_one, heq, hxi, hyi, hxy])
  · have hge : i = xs.length := by
      have : ¬ i < xs.length := by simpa using hf
      omega
    have : xs = ys := by rw [hge, List.take_length, hl, List.take_length] at heq; exact heq
    all_goals have fx := fx0
    repeat' (first
     | refine w_seq ?_ | refine w_block ?_ | refine w_skip ?_ | refine w_reg fun K hK => ?_
     | ((with_reducible refine s_end hK ?_); clear hK K)
     | (with_reducible first | refine then_normal ?_ | refine in_normal ?_ | refine then_exit ?_ | refine in_exit ?_ | refine then_ret ?_ | refine in_ret ?_ | refine s_nil ?_ | refine in_other (by decide) ?_)
     | refine w_exit ?_
     | refine w_ret ?_
     | (with_reducible first | refine s_none ?_ | refine x_assign (h := ?_))
     | (with_reducible refine x_q (h := ?_))
     | refine x_condt (h1 := ?_) | refine x_condf (h1 := ?_)
     | (refine w_sch (id := 6) (.q 0 <| .q 1 <| .q 2 <| .q 3 <| .q 4 <| .q 5 <| .q 6 <| .q 7 <| .q 8 <| .done) mixed (by kernel_rfl) (by kernel_rfl) fun K hK => ?_)
     | ((with_reducible refine a_end hK ?_); clear hK K)
     | ((with_reducible refine a_id ?_); first | refine xa_q (h := ?_) | refine xa_qt (h := ?_) | refine xa_qf (h := ?_) | refine xa_qu (h := ?_))
     | ((with_reducible refine a_id ?_); refine xa_gq (h1 := fun ht => ?_) (h2 := fun ht => ?_))
     | refine a_l rfl ?_ | refine a_l2 ?_ ?_ | (with_reducible refine And.intro ?_ ?_) | exact st_nil | refine xa_st (h2 := ?_)
     | fail)
    all_goals try clear fx
    refine e_ret [] .nil (by simp []; rfl) (by simp [this])
theorem eqStmt_fn (gl) (s t : Stm) : FnOk Tryz.prog gl 184 [s.av, t.av] (fun _ z _ => z = bv (decide (s = t))) := by
  obtain ⟨a, b, c, d⟩ := s
  obtain ⟨a', b', c', d'⟩ := t
  refine FnOk.of_sem Tryz.func184 rfl (by kernel_rfl) (rs := [.tmp 4]) rfl Tryz.ntmps184 (Nat.le_of_ble_eq_true rfl) fun C w g root => ?_
  all_goals have fx :=  @bne_def
  repeat' (first
   | refine w_seq ?_ | refine w_skip ?_ | refine w_reg fun K hK => ?_
   | ((with_reducible refine s_end hK ?_); clear hK K)
   | (with_reducible first | refine then_normal ?_ | refine then_ret ?_)
   | refine w_ret ?_
   | (with_reducible first | refine s_none ?_ | refine x_assign (h := ?_) | refine x_box (h := ?_))
   | (with_reducible refine x_q (h := ?_))
   | refine x_condt (h1 := ?_) | refine x_condf (h1 := ?_)
   | refine x_if (h1 := fun ht => ?_) (h2 := fun ht => ?_)
   | fail)
  all_goals try clear fx
  all_goals refine e_ret [] .nil (by simp; rfl) ?_
  all_goals simp_all
theorem eqStmtS_fn (gl) (xs ys : List Stm) (hx : xs.length ≤ 1048576) (hy : ys.length ≤ 1048576) : FnOk Tryz.prog gl 155 [ssl xs, ssl ys] (fun _ z _ => z = bv (decide (xs = ys))) := by
  refine FnOk.of_sem Tryz.func155 rfl (by kernel_rfl) (rs := [.tmp 4]) rfl Tryz.ntmps155 (Nat.le_of_ble_eq_true rfl) fun C w g root => ?_
  by_cases hl : xs.length = ys.length
  case neg =>
    have h1 : ((xs.length : Int) == ys.length) = false := by simp; omega
    all_goals have fx := And.intro h1 <| @bne_def
    repeat' (first
     | refine w_seq ?_ | refine w_block ?_ | refine w_skip ?_ | refine w_reg fun K hK => ?_
     | ((with_reducible refine s_end hK ?_); clear hK K)
     | (with_reducible first | refine then_normal ?_ | refine in_normal ?_ | refine then_exit ?_ | refine in_exit ?_ | refine then_ret ?_ | refine in_ret ?_ | refine s_nil ?_ | refine in_other (by decide) ?_)
     | refine w_exit ?_
     | refine w_ret ?_
     | (with_reducible first | refine s_none ?_ | refine x_assign (h := ?_))
     | (with_reducible refine x_q (h := ?_))
     | refine x_condt (h1 := ?_) | refine x_condf (h1 := ?_)
     | (refine w_sch (id := 6) (.q 0 <| .q 1 <| .q 2 <| .q 3 <| .q 4 <| .q 5 <| .q 6 <| .q 7 <| .l 8 [6, 5, 4, 2, 1, 0] <| .q 9 <| .done) mixed (by kernel_rfl) (by kernel_rfl) fun K hK => ?_)
     | ((with_reducible refine a_end hK ?_); clear hK K)
     | ((with_reducible refine a_id ?_); first | refine xa_q (h := ?_) | refine xa_qt (h := ?_) | refine xa_qf (h := ?_) | refine xa_qu (h := ?_))
     | ((with_reducible refine a_id ?_); refine xa_gq (h1 := fun ht => ?_) (h2 := fun ht => ?_))
     | refine a_l rfl ?_ | refine a_l2 ?_ ?_ | (with_reducible refine And.intro ?_ ?_) | exact st_nil | refine xa_st (h2 := ?_)
     | fail)
    all_goals try clear fx
    refine e_ret [] .nil (by simp; rfl) ?_
    have : ¬ xs = ys := fun e => hl (by rw [e])
    simp [this]
  all_goals have fx := And.intro hl <| @bne_def
  repeat' (first
   | refine w_seq ?_ | refine w_block ?_ | refine w_skip ?_ | refine w_reg fun K hK => ?_
   | ((with_reducible refine s_end hK ?_); clear hK K)
   | (with_reducible first | refine then_normal ?_ | refine in_normal ?_ | refine then_exit ?_ | refine in_exit ?_ | refine then_ret ?_ | refine in_ret ?_ | refine s_nil ?_ | refine in_other (by decide) ?_)
   | refine w_exit ?_
   | refine w_ret ?_
   | (with_reducible first | refine s_none ?_ | refine x_assign (h := ?_))
   | (with_reducible refine x_q (h := ?_))
   | refine x_condt (h1 := ?_) | refine x_condf (h1 := ?_)
   | (refine w_sch (id := 6) (.q 0 <| .q 1 <| .q 2 <| .q 3 <| .q 4 <| .q 5 <| .q 6 <| .q 7 <| .l 8 [6, 5, 4, 2, 1, 0] <| .q 9 <| .done) mixed (by kernel_rfl) (by kernel_rfl) fun K hK => ?_)
   | ((with_reducible refine a_end hK ?_); clear hK K)
   | ((with_reducible refine a_id ?_); first | refine xa_q (h := ?_) | refine xa_qt (h := ?_) | refine xa_qf (h := ?_) | refine xa_qu (h := ?_))
   | ((with_reducible refine a_id ?_); refine xa_gq (h1 := fun ht => ?_) (h2 := fun ht => ?_))
   | refine a_l rfl ?_ | refine a_l2 ?_ ?_ | (with_reducible refine And.intro ?_ ?_) | exact st_nil | refine xa_st (h2 := ?_)
   | fail)
  all_goals try clear fx
  refine w_loop (fun n st => ∃ i : Nat, n = xs.length - i ∧ i ≤ xs.length ∧ st.tm 0 = ssl xs ∧ st.tm 1 = ssl ys ∧ st.tm 5 = iv i ∧ xs.take i = ys.take i) xs.length ?_ ?_
  · exact ⟨0, by simp⟩
  rintro n st - - ⟨i, rfl, hi, h0, h1, h5, heq⟩
  all_goals have fx := And.intro h0 <| h5
  repeat' (first
   | refine w_seq ?_ | refine w_block ?_ | refine w_skip ?_ | refine w_reg fun K hK => ?_
   | ((with_reducible refine s_end hK ?_); clear hK K)
   | (with_reducible first | refine then_normal ?_ | refine in_normal ?_ | refine then_exit ?_ | refine in_exit ?_ | refine then_ret ?_ | refine in_ret ?_ | refine s_nil ?_ | refine in_other (by decide) ?_)
   | refine w_exit ?_
   | refine w_ret ?_
   | (with_reducible first | refine s_none ?_ | refine x_assign (h := ?_))
   | (with_reducible refine x_q (h := ?_))
   | refine x_condt (h1 := ?_) | refine x_condf (h1 := ?_)
   | (refine w_sch (id := 6) (.q 0 <| .q 1 <| .q 2 <| .q 3 <| .q 4 <| .q 5 <| .q 6 <| .q 7 <| .l 8 [6, 5, 4, 2, 1, 0] <| .q 9 <| .done) mixed (by kernel_rfl) (by kernel_rfl) fun K hK => ?_)
   | ((with_reducible refine a_end hK ?_); clear hK K)
   | ((with_reducible refine a_id ?_); first | refine xa_q (h := ?_) | refine xa_qt (h := ?_) | refine xa_qf (h := ?_) | refine xa_qu (h := ?_))
   | ((with_reducible refine a_id ?_); refine xa_gq (h1 := fun ht => ?_) (h2 := fun ht => ?_))
   | refine a_l rfl ?_ | refine a_l2 ?_ ?_ | (with_reducible refine And.intro ?_ ?_) | exact st_nil | refine xa_st (h2 := ?_)
   | fail)
  all_goals try clear fx
  refine w_if (by simp []; first | done | rfl | exact (Bool.not_not _).symm) (fun ht => ?_) (fun hf => ?_)
  · have hlt : i < xs.length := by simpa using ht
    obtain ⟨x, hxi⟩ : ∃ x, xs[i]? = some x := ⟨_, List.getElem?_eq_getElem (by omega)⟩
    obtain ⟨y, hyi⟩ : ∃ y, ys[i]? = some y := ⟨_, List.getElem?_eq_getElem (by omega)⟩
    clear ht
    all_goals have fx := And.intro h0 <| And.intro h1 <| And.intro h5 <| And.intro hxi <| hyi
    repeat' (first
     | refine w_seq ?_ | refine w_block ?_ | refine w_skip ?_ | refine w_reg fun K hK => ?_
     | ((with_reducible refine s_end hK ?_); clear hK K)
     | (with_reducible first | refine then_normal ?_ | refine in_normal ?_ | refine then_exit ?_ | refine in_exit ?_ | refine then_ret ?_ | refine in_ret ?_ | refine s_nil ?_ | refine in_other (by decide) ?_)
     | refine w_exit ?_
     | refine w_ret ?_
     | (with_reducible first | refine s_none ?_ | refine x_assign (h := ?_))
     | ((with_reducible refine o_id 184 rfl ?_); refine x_call (hF := eqStmt_fn _ x y) (h := ?_))
     | (with_reducible refine x_q (h := ?_))
     | refine x_condt (h1 := ?_) | refine x_condf (h1 := ?_)
     | (refine w_sch (id := 6) (.q 0 <| .q 1 <| .q 2 <| .q 3 <| .q 4 <| .q 5 <| .q 6 <| .q 7 <| .l 8 [6, 5, 4, 2, 1, 0] <| .q 9 <| .done) mixed (by kernel_rfl) (by kernel_rfl) fun K hK => ?_)
     | ((with_reducible refine a_end hK ?_); clear hK K)
     | ((with_reducible refine a_id ?_); first | refine xa_q (h := ?_) | refine xa_qt (h := ?_) | refine xa_qf (h := ?_) | refine xa_qu (h := ?_))
     | ((with_reducible refine a_id ?_); refine xa_gq (h1 := fun ht => ?_) (h2 := fun ht => ?_))
     | refine a_l rfl ?_ | refine a_l2 ?_ ?_ | (with_reducible refine And.intro ?_ ?_) | exact st_nil | refine xa_st (h2 := ?_)
     | refine x_if (h1 := fun ht => ?_) (h2 := fun ht => ?_)
     | fail)
    all_goals try clear fx
    all_goals first
      | (refine e_ret [] .nil (by simp; rfl) ?_
         have hne : ¬ xs = ys := fun e => by rw [e, hyi] at hxi; obtain rfl := Option.some.inj hxi; simp at ht
         simp [hne])
      | (have hxy : x = y := by simpa using ht
         refine ⟨xs.length - (i + 1), by omega, i + 1, rfl, by omega, by simp [h0], by simp [h1], by simp; exact wrp (by omega) (by omega), ?_⟩
         rw [List.take_add_one, List.take_add_one, heq, hxi, hyi, hxy])
  · have hge : i = xs.length := by
      have : ¬ i < xs.length := by simpa using hf
      omega
    have : xs = ys := by rw [hge, List.take_length, hl, List.take_length] at heq; exact heq
    all_goals have fx := fx0
    repeat' (first
     | refine w_seq ?_ | refine w_block ?_ | refine w_skip ?_ | refine w_reg fun K hK => ?_
     | ((with_reducible refine s_end hK ?_); clear hK K)
     | (with_reducible first | refine then_normal ?_ | refine in_normal ?_ | refine then_exit ?_ | refine in_exit ?_ | refine then_ret ?_ | refine in_ret ?_ | refine s_nil ?_ | refine in_other (by decide) ?_)
     | refine w_exit ?_
     | refine w_ret ?_
     | (with_reducible first | refine s_none ?_ | refine x_assign (h := ?_))
     | (with_reducible refine x_q (h := ?_))
     | refine x_condt (h1 := ?_) | refine x_condf (h1 := ?_)
     | (refine w_sch (id := 6) (.q 0 <| .q 1 <| .q 2 <| .q 3 <| .q 4 <| .q 5 <| .q 6 <| .q 7 <| .l 8 [6, 5, 4, 2, 1, 0] <| .q 9 <| .done) mixed (by kernel_rfl) (by kernel_rfl) fun K hK => ?_)
     | ((with_reducible refine a_end hK ?_); clear hK K)
     | ((with_reducible refine a_id ?_); first | refine xa_q (h := ?_) | refine xa_qt (h := ?_) | refine xa_qf (h := ?_) | refine xa_qu (h := ?_))
     | ((with_reducible refine a_id ?_); refine xa_gq (h1 := fun ht => ?_) (h2 := fun ht => ?_))
     | refine a_l rfl ?_ | refine a_l2 ?_ ?_ | (with_reducible refine And.intro ?_ ?_) | exact st_nil | refine xa_st (h2 := ?_)
     | fail)
    all_goals try clear fx
    refine e_ret [] .nil (by simp []; rfl) (by simp [this])
theorem eqBlock_fn (gl) (k l : Blk) (hk : BSm k) (hl : BSm l) : FnOk Tryz.prog gl 106 [k.av, l.av] (fun _ z _ => z = bv (decide (k = l))) := by
  obtain ⟨a, b, c, d⟩ := k
  obtain ⟨a', b', c', d'⟩ := l
  have h1 := eqIntS_fn gl c c' hk.params hl.params
  have h2 := eqStmtS_fn gl d d' hk.body hl.body
  refine FnOk.of_sem Tryz.func106 rfl (by kernel_rfl) (rs := [.tmp 4]) rfl Tryz.ntmps106 (Nat.le_of_ble_eq_true rfl) fun C w g root => ?_
  all_goals have fx :=  @bne_def
  repeat' (first
   | refine w_seq ?_ | refine w_skip ?_ | refine w_reg fun K hK => ?_
   | ((with_reducible refine s_end hK ?_); clear hK K)
   | (with_reducible first | refine then_normal ?_ | refine then_ret ?_)
   | refine w_ret ?_
   | (with_reducible first | refine s_none ?_ | refine x_assign (h := ?_) | refine x_box (h := ?_))
   | ((with_reducible refine o_id 141 rfl ?_); refine x_call (hF := h1) (h := ?_))
   | ((with_reducible refine o_id 155 rfl ?_); refine x_call (hF := h2) (h := ?_))
   | (with_reducible refine x_q (h := ?_))
   | refine x_condt (h1 := ?_) | refine x_condf (h1 := ?_)
   | refine x_if (h1 := fun ht => ?_) (h2 := fun ht => ?_)
   | fail)
  all_goals try clear fx
  all_goals refine e_ret [] .nil (by simp; rfl) ?_
  all_goals simp_all
theorem eqBlockS_fn (gl) (xs ys : Prg) (hx : Sml xs) (hy : Sml ys) : FnOk Tryz.prog gl 55 [ksl xs, ksl ys] (fun _ z _ => z = bv (decide (xs = ys))) := by
  have hxl := hx.len
  have hyl := hy.len
  refine FnOk.of_sem Tryz.func55 rfl (by kernel_rfl) (rs := [.tmp 4]) rfl Tryz.ntmps55 (Nat.le_of_ble_eq_true rfl) fun C w g root => ?_
  by_cases hl : xs.length = ys.length
  case neg =>
    have h1 : ((xs.length : Int) == ys.length) = false := by simp; omega
    all_goals have fx := And.intro h1 <| @bne_def
    repeat' (first
     | refine w_seq ?_ | refine w_block ?_ | refine w_skip ?_ | refine w_reg fun K hK => ?_
     | ((with_reducible refine s_end hK ?_); clear hK K)
     | (with_reducible first | refine then_normal ?_ | refine in_normal ?_ | refine then_exit ?_ | refine in_exit ?_ | refine then_ret ?_ | refine in_ret ?_ | refine s_nil ?_ | refine in_other (by decide) ?_)
     | refine w_exit ?_
     | refine w_ret ?_
     | (with_reducible first | refine s_none ?_ | refine x_assign (h := ?_))
     | (with_reducible refine x_q (h := ?_))
     | refine x_condt (h1 := ?_) | refine x_condf (h1 := ?_)
     | (refine w_sch (id := 6) (.q 0 <| .q 1 <| .q 2 <| .q 3 <| .q 4 <| .q 5 <| .q 6 <| .q 7 <| .l 8 [6, 5, 4, 2, 1, 0] <| .q 9 <| .done) mixed (by kernel_rfl) (by kernel_rfl) fun K hK => ?_)
     | ((with_reducible refine a_end hK ?_); clear hK K)
     | ((with_reducible refine a_id ?_); first | refine xa_q (h := ?_) | refine xa_qt (h := ?_) | refine xa_qf (h := ?_) | refine xa_qu (h := ?_))
     | ((with_reducible refine a_id ?_); refine xa_gq (h1 := fun ht => ?_) (h2 := fun ht => ?_))
     | refine a_l rfl ?_ | refine a_l2 ?_ ?_ | (with_reducible refine And.intro ?_ ?_) | exact st_nil | refine xa_st (h2 := ?_)
     | fail)
    all_goals try clear fx
    refine e_ret [] .nil (by simp; rfl) ?_
    have : ¬ xs = ys := fun e => hl (by rw [e])
    simp [this]
  all_goals have fx := And.intro hl <| @bne_def
  repeat' (first
   | refine w_seq ?_ | refine w_block ?_ | refine w_skip ?_ | refine w_reg fun K hK => ?_
   | ((with_reducible refine s_end hK ?_); clear hK K)
   | (with_reducible first | refine then_normal ?_ | refine in_normal ?_ | refine then_exit ?_ | refine in_exit ?_ | refine then_ret ?_ | refine in_ret ?_ | refine s_nil ?_ | refine in_other (by decide) ?_)
   | refine w_exit ?_
   | refine w_ret ?_
   | (with_reducible first | refine s_none ?_ | refine x_assign (h := ?_))
   | (with_reducible refine x_q (h := ?_))
   | refine x_condt (h1 := ?_) | refine x_condf (h1 := ?_)
   | (refine w_sch (id := 6) (.q 0 <| .q 1 <| .q 2 <| .q 3 <| .q 4 <| .q 5 <| .q 6 <| .q 7 <| .l 8 [6, 5, 4, 2, 1, 0] <| .q 9 <| .done) mixed (by kernel_rfl) (by kernel_rfl) fun K hK => ?_)
   | ((with_reducible refine a_end hK ?_); clear hK K)
   | ((with_reducible refine a_id ?_); first | refine xa_q (h := ?_) | refine xa_qt (h := ?_) | refine xa_qf (h := ?_) | refine xa_qu (h := ?_))
   | ((with_reducible refine a_id ?_); refine xa_gq (h1 := fun ht => ?_) (h2 := fun ht => ?_))
   | refine a_l rfl ?_ | refine a_l2 ?_ ?_ | (with_reducible refine And.intro ?_ ?_) | exact st_nil | refine xa_st (h2 := ?_)
   | fail)
  all_goals try clear fx
  refine w_loop (fun n st => ∃ i : Nat, n = xs.length - i ∧ i ≤ xs.length ∧ st.tm 0 = ksl xs ∧ st.tm 1 = ksl ys ∧ st.tm 5 = iv i ∧ xs.take i = ys.take i) xs.length ?_ ?_
  · exact ⟨0, by simp⟩
  rintro n st - - ⟨i, rfl, hi, h0, h1, h5, heq⟩
  all_goals have fx := And.intro h0 <| h5
  repeat' (first
   | refine w_seq ?_ | refine w_block ?_ | refine w_skip ?_ | refine w_reg fun K hK => ?_
   | ((with_reducible refine s_end hK ?_); clear hK K)
   | (with_reducible first | refine then_normal ?_ | refine in_normal ?_ | refine then_exit ?_ | refine in_exit ?_ | refine then_ret ?_ | refine in_ret ?_ | refine s_nil ?_ | refine in_other (by decide) ?_)
   | refine w_exit ?_
   | refine w_ret ?_
   | (with_reducible first | refine s_none ?_ | refine x_assign (h := ?_))
   | (with_reducible refine x_q (h := ?_))
   | refine x_condt (h1 := ?_) | refine x_condf (h1 := ?_)
   | (refine w_sch (id := 6) (.q 0 <| .q 1 <| .q 2 <| .q 3 <| .q 4 <| .q 5 <| .q 6 <| .q 7 <| .l 8 [6, 5, 4, 2, 1, 0] <| .q 9 <| .done) mixed (by kernel_rfl) (by kernel_rfl) fun K hK => ?_)
   | ((with_reducible refine a_end hK ?_); clear hK K)
   | ((with_reducible refine a_id ?_); first | refine xa_q (h := ?_) | refine xa_qt (h := ?_) | refine xa_qf (h := ?_) | refine xa_qu (h := ?_))
   | ((with_reducible refine a_id ?_); refine xa_gq (h1 := fun ht => ?_) (h2 := fun ht => ?_))
   | refine a_l rfl ?_ | refine a_l2 ?_ ?_ | (with_reducible refine And.intro ?_ ?_) | exact st_nil | refine xa_st (h2 := ?_)
   | fail)
  all_goals try clear fx
  refine w_if (by simp []; first | done | rfl | exact (Bool.not_not _).symm) (fun ht => ?_) (fun hf => ?_)
  · have hlt : i < xs.length := by simpa using ht
    obtain ⟨x, hxi⟩ : ∃ x, xs[i]? = some x := ⟨_, List.getElem?_eq_getElem (by omega)⟩
    obtain ⟨y, hyi⟩ : ∃ y, ys[i]? = some y := ⟨_, List.getElem?_eq_getElem (by omega)⟩
    clear ht
    all_goals have fx := And.intro h0 <| And.intro h1 <| And.intro h5 <| And.intro hxi <| hyi
    repeat' (first
     | refine w_seq ?_ | refine w_block ?_ | refine w_skip ?_ | refine w_reg fun K hK => ?_
     | ((with_reducible refine s_end hK ?_); clear hK K)
     | (with_reducible first | refine then_normal ?_ | refine in_normal ?_ | refine then_exit ?_ | refine in_exit ?_ | refine then_ret ?_ | refine in_ret ?_ | refine s_nil ?_ | refine in_other (by decide) ?_)
     | refine w_exit ?_
     | refine w_ret ?_
     | (with_reducible first | refine s_none ?_ | refine x_assign (h := ?_))
     | ((with_reducible refine o_id 106 rfl ?_); refine x_call (hF := eqBlock_fn _ x y (hx.bsm hxi) (hy.bsm hyi)) (h := ?_))
     | (with_reducible refine x_q (h := ?_))
     | refine x_condt (h1 := ?_) | refine x_condf (h1 := ?_)
     | (refine w_sch (id := 6) (.q 0 <| .q 1 <| .q 2 <| .q 3 <| .q 4 <| .q 5 <| .q 6 <| .q 7 <| .l 8 [6, 5, 4, 2, 1, 0] <| .q 9 <| .done) mixed (by kernel_rfl) (by kernel_rfl) fun K hK => ?_)
     | ((with_reducible refine a_end hK ?_); clear hK K)
     | ((with_reducible refine a_id ?_); first | refine xa_q (h := ?_) | refine xa_qt (h := ?_) | refine xa_qf (h := ?_) | refine xa_qu (h := ?_))
     | ((with_reducible refine a_id ?_); refine xa_gq (h1 := fun ht => ?_) (h2 := fun ht => ?_))
     | refine a_l rfl ?_ | refine a_l2 ?_ ?_ | (with_reducible refine And.intro ?_ ?_) | exact st_nil | refine xa_st (h2 := ?_)
     | refine x_if (h1 := fun ht => ?_) (h2 := fun ht => ?_)
     | fail)
    all_goals try clear fx
    all_goals first
      | (refine e_ret [] .nil (by simp; rfl) ?_
         have hne : ¬ xs = ys := fun e => by rw [e, hyi] at hxi; obtain rfl := Option.some.inj hxi; simp at ht
         simp [hne])
      | (have hxy : x = y := by simpa using ht
         refine ⟨xs.length - (i + 1), by omega, i + 1, rfl, by omega, by simp [h0], by simp [h1], by simp; exact wrp (by omega) (by omega), ?_⟩
         rw [List.take_add_one, List.take_add_one, heq, hxi, hyi, hxy])
  · have hge : i = xs.length := by
      have : ¬ i < xs.length := by simpa using hf
      omega
    have : xs = ys := by rw [hge, List.take_length, hl, List.take_length] at heq; exact heq
    all_goals have fx := fx0
    repeat' (first
     | refine w_seq ?_ | refine w_block ?_ | refine w_skip ?_ | refine w_reg fun K hK => ?_
     | ((with_reducible refine s_end hK ?_); clear hK K)
     | (with_reducible first | refine then_normal ?_ | refine in_normal ?_ | refine then_exit ?_ | refine in_exit ?_ | refine then_ret ?_ | refine in_ret ?_ | refine s_nil ?_ | refine in_other (by decide) ?_)
     | refine w_exit ?_
     | refine w_ret ?_
     | (with_reducible first | refine s_none ?_ | refine x_assign (h := ?_))
     | (with_reducible refine x_q (h := ?_))
     | refine x_condt (h1 := ?_) | refine x_condf (h1 := ?_)
     | (refine w_sch (id := 6) (.q 0 <| .q 1 <| .q 2 <| .q 3 <| .q 4 <| .q 5 <| .q 6 <| .q 7 <| .l 8 [6, 5, 4, 2, 1, 0] <| .q 9 <| .done) mixed (by kernel_rfl) (by kernel_rfl) fun K hK => ?_)
     | ((with_reducible refine a_end hK ?_); clear hK K)
     | ((with_reducible refine a_id ?_); first | refine xa_q (h := ?_) | refine xa_qt (h := ?_) | refine xa_qf (h := ?_) | refine xa_qu (h := ?_))
     | ((with_reducible refine a_id ?_); refine xa_gq (h1 := fun ht => ?_) (h2 := fun ht => ?_))
     | refine a_l rfl ?_ | refine a_l2 ?_ ?_ | (with_reducible refine And.intro ?_ ?_) | exact st_nil | refine xa_st (h2 := ?_)
     | fail)
    all_goals try clear fx
    refine e_ret [] .nil (by simp []; rfl) (by simp [this])
theorem eqProgram_fn (gl) (xs ys : Prg) (hx : Sml xs) (hy : Sml ys) : FnOk Tryz.prog gl 14 [pav xs, pav ys] (fun _ z _ => z = bv (decide (xs = ys))) := by
  refine FnOk.of_sem Tryz.func14 rfl (by kernel_rfl) (rs := [.tmp 4]) rfl Tryz.ntmps14 (Nat.le_of_ble_eq_true rfl) fun C w g root => ?_
  all_goals have fx := fx0
  repeat' (first
   | refine w_seq ?_ | refine w_skip ?_ | refine w_reg fun K hK => ?_
   | ((with_reducible refine s_end hK ?_); clear hK K)
   | (with_reducible first | refine then_normal ?_ | refine then_ret ?_)
   | refine w_ret ?_
   | (with_reducible first | refine s_none ?_ | refine x_assign (h := ?_) | refine x_box (h := ?_))
   | ((with_reducible refine o_id 55 rfl ?_); refine x_call (hF := eqBlockS_fn _ xs ys hx hy) (h := ?_))
   | (with_reducible refine x_q (h := ?_))
   | refine x_condt (h1 := ?_) | refine x_condf (h1 := ?_)
   | refine x_if (h1 := fun ht => ?_) (h2 := fun ht => ?_)
   | fail)
  all_goals try clear fx
  all_goals refine e_ret [] .nil (by simp; rfl) ?_
  all_goals simp_all
end Go.Proofs.YtcbkblboonkfhaaGreat
end

section
set_option maxRecDepth 100000
set_option maxHeartbeats 1000000
set_option linter.unusedSimpArgs false
namespace Go.Proofs.YtcbkblboonkfhaaGreat
open Go Go.Hm Go.Proofs
end Go.Proofs.YtcbkblboonkfhaaGreat
end

section
set_option maxRecDepth 100000
set_option maxHeartbeats 1000000
set_option linter.unusedSimpArgs false
namespace Go.Proofs.YtcbkblboonkfhaaGreat
open Go Go.Hm Go.Proofs
end Go.Proofs.YtcbkblboonkfhaaGreat
end

section
set_option maxRecDepth 100000
set_option maxHeartbeats 4000000
set_option linter.unusedSimpArgs false
namespace Go.Proofs.YtcbkblboonkfhaaGreat
open Go Go.Hm Go.Proofs
theorem FnExactDeepestRun_fn (gl : Nat → Option (List AV)) (p : Prg) (b : Int) (hb : Big p) : FnOk Tryz.prog gl 3 [pav p, iv b] (fun _ y _ => y = bv true) := by
  refine FnOk.of_sem Tryz.func3 rfl (by kernel_rfl) (rs := [.tmp 4]) rfl Tryz.ntmps3 (Nat.le_of_ble_eq_true rfl) fun C w g root => ?_
  by_cases ht : tot p ≤ 1048576
  case neg =>
    have fx :=  ht
    have c1 := szProgram_fn gl p hb
    refine k_run ?_
    repeat ((first | refine w_sch (id := 10) (.q 0 <| .q 1 <| .l 2 [0] <| .l 3 [] <| .q 4 <| .done) mixed (by kernel_rfl) (by kernel_rfl) ?_); refine k_rund ?_; refine k_run ?_)
    clear fx c1
    refine e_ret [] .nil (by simp; rfl) (by simp)
  have hs := tot_sml ht
  have hge : ¬ 1048576 - (tot p : Int) < 0 := by omega
  have hsa := spec_DeepestRun_fn gl p b hs
  have hia := impl_DeepestRun_fn gl p b hs
  generalize deepG p b = v at hsa hia
  have fx := And.intro ht <| hge
  have c1 := szProgram_fn gl p hb
  have e1 := toProgram_fn gl p hs
  refine k_run ?_
  repeat ((first | refine w_sch (id := 10) (.q 0 <| .q 1 <| .l 2 [0] <| .l 3 [] <| .q 4 <| .done) mixed (by kernel_rfl) (by kernel_rfl) ?_); refine k_rund ?_; refine k_run ?_)
  clear fx c1 e1
  rintro K hK y H1 ⟨rfl, hO⟩
  obtain ⟨ho1, ho2, ho3⟩ := hO.hcln
  refine ⟨by simp, ?_⟩
  have fx := And.intro ht <| hge
  have c1 := hsa
  refine k_run ?_
  repeat ((first | refine w_sch (id := 10) (.q 0 <| .q 1 <| .l 2 [0] <| .l 3 [] <| .q 4 <| .done) mixed (by kernel_rfl) (by kernel_rfl) ?_); refine k_rund ?_; refine k_run ?_)
  clear fx c1
  intro K hK
  refine o_abs (fun st => st.tm 1 = iv b ∧ st.tm 2 = .pt (.s 2) 0 ∧ st.hp (.s 2) = some (.row 1 [[ksl p]]) ∧ st.tm 6 = iv v ∧ st.tm 18 = pav p) ⟨by simp, by simp, by simp, by simp, by simp⟩ ?_
  clear hO ho1 ho2 ho3
  rintro st ⟨h1, h3, hp3, h6, h21⟩
  have fx := And.intro h1 <| And.intro h3 <| And.intro hp3 <| And.intro h6 <| h21
  have e1 := toProgram_fn gl p hs
  refine k_run ?_
  repeat ((first | refine w_sch (id := 10) (.q 0 <| .q 1 <| .l 2 [0] <| .l 3 [] <| .q 4 <| .done) mixed (by kernel_rfl) (by kernel_rfl) ?_); refine k_rund ?_; refine k_run ?_)
  clear fx e1
  rintro y H2 ⟨rfl, hO⟩
  obtain ⟨b1, b2, b3⟩ := hO.hcln
  refine ⟨by simp, ?_⟩
  have fx := And.intro h1 <| And.intro h3 <| And.intro hp3 <| And.intro h6 <| And.intro b1 <| @bne_def
  have c1 := hia
  have e1 := toProgram_fn gl p hs
  refine k_run ?_
  repeat ((first | refine w_sch (id := 10) (.q 0 <| .q 1 <| .l 2 [0] <| .l 3 [] <| .q 4 <| .done) mixed (by kernel_rfl) (by kernel_rfl) ?_); refine k_rund ?_; refine k_run ?_)
  clear fx c1 e1
  rintro K hK y H3 ⟨rfl, hO3⟩
  obtain ⟨ho1, ho2, ho3⟩ := hO3.hcln
  refine ⟨by simp, ?_⟩
  have fx := And.intro h1 <| And.intro h3 <| And.intro hp3 <| And.intro b1 <| ho1
  have c1 := eqProgram_fn gl p p hs hs
  refine k_run ?_
  repeat ((first | refine w_sch (id := 10) (.q 0 <| .q 1 <| .l 2 [0] <| .l 3 [] <| .q 4 <| .done) mixed (by kernel_rfl) (by kernel_rfl) ?_); refine k_rund ?_; refine k_run ?_)
  clear fx c1
  refine e_ret [] .nil (by simp; rfl) (by simp)
end Go.Proofs.YtcbkblboonkfhaaGreat
end

section
namespace Go.Proofs.YtcbkblboonkfhaaGreat
open Go.ChangeShapes Go.WideShapes Go.ChangeAt Go.RowKit Go.Deep Go.Hm
theorem law_u3 : Tryz.prog.underlying 3 = some (.int .i64) := by kernel_rfl
theorem law_c3 : Tryz.prog.cellsOf 3 = 1 := by kernel_rfl
theorem law_b3 : Tryz.prog.bytesOf 3 = 8 := by kernel_rfl
theorem law_u145 : Tryz.prog.underlying 214 = some (.struct #[{ name := "Kind", type := 3, offset := 0, embedded := false, tag := "", pkgPath := "", byteOffset := 0 }, { name := "To", type := 3, offset := 1, embedded := false, tag := "", pkgPath := "", byteOffset := 8 }, { name := "A", type := 3, offset := 2, embedded := false, tag := "", pkgPath := "", byteOffset := 16 }, { name := "B", type := 3, offset := 3, embedded := false, tag := "", pkgPath := "", byteOffset := 24 }]) := by kernel_rfl
theorem law_o145 : oneCellFields Tryz.prog #[{ name := "Kind", type := 3, offset := 0, embedded := false, tag := "", pkgPath := "", byteOffset := 0 }, { name := "To", type := 3, offset := 1, embedded := false, tag := "", pkgPath := "", byteOffset := 8 }, { name := "A", type := 3, offset := 2, embedded := false, tag := "", pkgPath := "", byteOffset := 16 }, { name := "B", type := 3, offset := 3, embedded := false, tag := "", pkgPath := "", byteOffset := 24 }] = true := by kernel_rfl
theorem law_c145 : Tryz.prog.cellsOf 214 = 4 := by kernel_rfl
theorem law_b145 : Tryz.prog.bytesOf 214 = 32 := by kernel_rfl
theorem law_u90 : Tryz.prog.underlying 131 = some (.struct #[{ name := "Kind", type := 3, offset := 0, embedded := false, tag := "", pkgPath := "", byteOffset := 0 }, { name := "Parent", type := 3, offset := 1, embedded := false, tag := "", pkgPath := "", byteOffset := 8 }, { name := "Params", type := 41, offset := 2, embedded := false, tag := "", pkgPath := "", byteOffset := 16 }, { name := "Body", type := 129, offset := 3, embedded := false, tag := "", pkgPath := "", byteOffset := 40 }]) := by kernel_rfl
theorem law_o90 : oneCellFields Tryz.prog #[{ name := "Kind", type := 3, offset := 0, embedded := false, tag := "", pkgPath := "", byteOffset := 0 }, { name := "Parent", type := 3, offset := 1, embedded := false, tag := "", pkgPath := "", byteOffset := 8 }, { name := "Params", type := 41, offset := 2, embedded := false, tag := "", pkgPath := "", byteOffset := 16 }, { name := "Body", type := 129, offset := 3, embedded := false, tag := "", pkgPath := "", byteOffset := 40 }] = true := by kernel_rfl
theorem law_c90 : Tryz.prog.cellsOf 131 = 4 := by kernel_rfl
theorem law_b90 : Tryz.prog.bytesOf 131 = 64 := by kernel_rfl
theorem law_u24 : Tryz.prog.underlying 24 = some (.struct #[{ name := "Blocks", type := 22, offset := 0, embedded := false, tag := "", pkgPath := "", byteOffset := 0 }]) := by kernel_rfl
theorem law_o24 : oneCellFields Tryz.prog #[{ name := "Blocks", type := 22, offset := 0, embedded := false, tag := "", pkgPath := "", byteOffset := 0 }] = true := by kernel_rfl
theorem law_c24 : Tryz.prog.cellsOf 24 = 1 := by kernel_rfl
theorem law_u41 : Tryz.prog.underlying 41 = some (.slice 3) := by kernel_rfl
theorem law_u88 : Tryz.prog.underlying 129 = some (.slice 214) := by kernel_rfl
theorem law_u22 : Tryz.prog.underlying 22 = some (.slice 131) := by kernel_rfl
set_option maxRecDepth 100000 in
theorem rd_program {H : Type} {enc : TypeId × Value → H} {w : World} {r : Reach} {b0 : Nat} {v : Value} {d : DataW H} {p : List MemPlace} (hv : Value.okWide Tryz.prog w r b0 24 v) (h : DataW.Trod enc Tryz.prog w 0 (fun _ => true) true 24 v d p)
    (hw : ∀ m ∈ d.weights Tryz.prog 24, m ≤ reachBytes) : ∃ x : Prg, Big x ∧ RV (g0 w) w v (pav x) := by
  refine rd_prog (P := Tryz.prog) (w := w) (tp := (24 : TypeId)) (v := v) (d := d) (p := p) (r := r) (q0 := b0) (enc := enc) law_u3 law_c3 (by rw [law_b3]; decide) law_u145 law_o145 law_c145 (by rw [law_b145]; decide) rfl rfl rfl rfl law_u41 law_u88 law_u90 law_o90 law_c90 (by rw [law_b90]; decide) rfl rfl rfl rfl law_u22 law_u24 law_o24 law_c24 rfl ?_ ?_ ?_
  · assumption
  · assumption
  · assumption
theorem law_own : ownKnob Tryz.prog.godebug = none := by kernel_rfl
theorem law_laid : laidOutB Tryz.prog = true := by kernel_rfl
theorem law_bool : Tryz.prog.underlying 4 = some .bool := by kernel_rfl
end Go.Proofs.YtcbkblboonkfhaaGreat
end
