/-
  Own texts, joined by mkclaim.py: Hn, La, Lb, Lc, Ld, Xb.
-/
import Derived.Test.YtmaoicgfcngciaaGreatDoorR26
import Derived.Test.YtmaoicgfcngciaaGreatDoorR10
import Derived.Test.YtmaoicgfcngciaaGreatDoorR12
import Derived.Test.YtmaoicgfcngciaaGreatDoorR11
import Derived.Test.YtmaoicgfcngciaaGreatDoorR24
set_option linter.unusedSimpArgs false
set_option linter.unusedVariables false
set_option maxRecDepth 100000
set_option maxHeartbeats 4000000

section
namespace Go.Proofs.YtmaoicgfcngciaaGreatDoor
open Go Go.Hm Go.Proofs
abbrev qsLb0 : Sch := .q 0 <| .q 1 <| .q 2 <| .q 3 <| .q 4 <| .q 5 <| .q 6 <| .q 7 <| .l 8 [6, 5, 4, 2, 1, 0] <| .q 9 <| .done
theorem eqIntS_fn (gl) (xs ys : List Int) (hx : xs.length ≤ 1048576) (hy : ys.length ≤ 1048576) : FnOk Tryz.prog gl 131 [isl xs, isl ys] (fun _ z _ => z = bv (decide (xs = ys))) := by
  refine FnOk.of_sem Tryz.func131 rfl (by kernel_rfl) (rs := [.tmp 4]) rfl Tryz.ntmps131 (Nat.le_of_ble_eq_true rfl) fun C w g root => ?_
  by_cases hl : xs.length = ys.length
  case neg =>
    have h1 : ((xs.length : Int) == ys.length) = false := by simp; omega
    all_goals have fx := And.intro h1 <| @bne_def
    repeat' (first
     | refine w_seq ?_ | refine w_reg fun K hK => ?_
     | ((with_reducible refine s_end hK ?_); clear hK K)
     | (with_reducible first | refine then_normal ?_ | refine then_ret ?_)
     | refine w_ret ?_
     | (with_reducible first | refine s_none ?_ | refine x_assign (h := ?_))
     | (with_reducible refine x_q (h := ?_))
     | refine x_condt (h1 := ?_)
     | fail)
    all_goals try clear fx
    refine e_ret [] .nil (by simp; rfl) ?_
    have : ¬ xs = ys := fun e => hl (by rw [e])
    simp [this]
  all_goals have fx := And.intro hl <| @bne_def
  repeat' (first
   | refine w_seq ?_ | refine w_block ?_ | refine w_skip ?_ | refine w_reg fun K hK => ?_
   | ((with_reducible refine s_end hK ?_); clear hK K)
   | (with_reducible first | refine then_normal ?_)
   | (with_reducible first | refine s_none ?_ | refine x_assign (h := ?_))
   | (with_reducible refine x_q (h := ?_))
   | refine x_condf (h1 := ?_)
   | fail)
  all_goals try clear fx
  refine w_loop (fun n st => ∃ i : Nat, n = xs.length - i ∧ i ≤ xs.length ∧ st.tm 0 = isl xs ∧ st.tm 1 = isl ys ∧ st.tm 5 = iv i ∧ xs.take i = ys.take i) xs.length ?_ ?_
  · exact ⟨0, by simp⟩
  rintro n st - - ⟨i, rfl, hi, h0, h1, h5, heq⟩
  all_goals have fx := And.intro h0 <| h5
  repeat' (first
   | refine w_seq ?_ | refine w_reg fun K hK => ?_
   | ((with_reducible refine s_end hK ?_); clear hK K)
   | (with_reducible first | refine then_normal ?_)
   | (with_reducible first | refine s_none ?_)
   | (with_reducible refine x_q (h := ?_))
   | fail)
  all_goals try clear fx
  refine w_if (by simp []; first | done | rfl | exact (Bool.not_not _).symm) (fun ht => ?_) (fun hf => ?_)
  · have hlt : i < xs.length := by simpa using ht
    obtain ⟨x, hxi⟩ : ∃ x, xs[i]? = some x := ⟨_, gE (by omega)⟩
    obtain ⟨y, hyi⟩ : ∃ y, ys[i]? = some y := ⟨_, gE (by omega)⟩
    clear ht
    all_goals have fx := And.intro h0 <| And.intro h1 <| And.intro h5 <| And.intro hxi <| And.intro hyi <| @bne_def
    repeat' (first
     | refine w_seq ?_ | refine w_block ?_ | refine w_skip ?_ | refine w_reg fun K hK => ?_
     | ((with_reducible refine s_end hK ?_); clear hK K)
     | (with_reducible first | refine then_normal ?_ | refine then_ret ?_ | refine in_ret ?_)
     | refine w_ret ?_
     | (with_reducible first | refine s_none ?_ | refine x_assign (h := ?_))
     | (with_reducible refine x_q (h := ?_))
     | (refine wSc (id := 6) (.q 0 <| .q 1 <| .q 2 <| .q 3 <| .q 4 <| .q 5 <| .q 6 <| .q 7 <| .q 8 <| .done) mixed fun K hK => ?_)
     | ((with_reducible refine a_end hK ?_); clear hK K)
     | ((with_reducible refine a_id ?_); first | refine xa_q (h := ?_))
     | refine x_if (h1 := fun ht => ?_) (h2 := fun ht => ?_)
     | fail)
    all_goals try clear fx
    all_goals first
      | (refine e_ret [] .nil (by simp; rfl) ?_
         have hne : ¬ xs = ys := fun e => by rw [e, hyi] at hxi; obtain rfl := Option.some.inj hxi; simp at ht
         simp [hne])
      | (have hxy : x = y := by simpa using ht
         refine ⟨xs.length - (i + 1), by omega, i + 1, rfl, by omega, by simp [h0], by simp [h1], by simp; exact wrp (by omega) (by omega), ?_⟩
         rw [List.take_add_one, List.take_add_one, heq, hxi, hyi, hxy])
  · have hge : i = xs.length := by
      have : ¬ i < xs.length := by simpa using hf
      omega
    have : xs = ys := by rw [hge, List.take_length, hl, List.take_length] at heq; exact heq
    all_goals have fx := fx0
    repeat' (first
     | refine w_seq ?_ | refine w_reg fun K hK => ?_
     | ((with_reducible refine s_end hK ?_); clear hK K)
     | (with_reducible first | refine then_normal ?_)
     | refine w_exit ?_
     | refine w_ret ?_
     | (with_reducible first | refine s_none ?_ | refine x_assign (h := ?_))
     | fail)
    all_goals try clear fx
    refine e_ret [] .nil (by simp []; rfl) (by simp [this])
theorem eqStmt_fn (gl) (s t : Stm) : FnOk Tryz.prog gl 171 [s.av, t.av] (fun _ z _ => z = bv (decide (s = t))) := by
  obtain ⟨a, b, c, d⟩ := s
  obtain ⟨a', b', c', d'⟩ := t
  refine FnOk.of_sem Tryz.func171 rfl (by kernel_rfl) (rs := [.tmp 4]) rfl Tryz.ntmps171 (Nat.le_of_ble_eq_true rfl) fun C w g root => ?_
  all_goals have fx :=  @bne_def
  repeat' (first
   | refine w_seq ?_ | refine w_skip ?_ | refine w_reg fun K hK => ?_
   | ((with_reducible refine s_end hK ?_); clear hK K)
   | (with_reducible first | refine then_normal ?_ | refine then_ret ?_)
   | refine w_ret ?_
   | (with_reducible first | refine s_none ?_ | refine x_assign (h := ?_) | refine x_box (h := ?_))
   | (with_reducible refine x_q (h := ?_))
   | refine x_if (h1 := fun ht => ?_) (h2 := fun ht => ?_)
   | fail)
  all_goals try clear fx
  all_goals refine e_ret [] .nil (by simp; rfl) ?_
  all_goals simp_all
theorem eqStmtS_fn (gl) (xs ys : List Stm) (hx : xs.length ≤ 1048576) (hy : ys.length ≤ 1048576) : FnOk Tryz.prog gl 132 [ssl xs, ssl ys] (fun _ z _ => z = bv (decide (xs = ys))) := by
  refine FnOk.of_sem Tryz.func132 rfl (by kernel_rfl) (rs := [.tmp 4]) rfl Tryz.ntmps132 (Nat.le_of_ble_eq_true rfl) fun C w g root => ?_
  by_cases hl : xs.length = ys.length
  case neg =>
    have h1 : ((xs.length : Int) == ys.length) = false := by simp; omega
    all_goals have fx := And.intro h1 <| @bne_def
    repeat' (first
     | refine w_seq ?_ | refine w_reg fun K hK => ?_
     | ((with_reducible refine s_end hK ?_); clear hK K)
     | (with_reducible first | refine then_normal ?_ | refine then_ret ?_)
     | refine w_ret ?_
     | (with_reducible first | refine s_none ?_ | refine x_assign (h := ?_))
     | (with_reducible refine x_q (h := ?_))
     | refine x_condt (h1 := ?_)
     | fail)
    all_goals try clear fx
    refine e_ret [] .nil (by simp; rfl) ?_
    have : ¬ xs = ys := fun e => hl (by rw [e])
    simp [this]
  all_goals have fx := And.intro hl <| @bne_def
  repeat' (first
   | refine w_seq ?_ | refine w_block ?_ | refine w_skip ?_ | refine w_reg fun K hK => ?_
   | ((with_reducible refine s_end hK ?_); clear hK K)
   | (with_reducible first | refine then_normal ?_)
   | (with_reducible first | refine s_none ?_ | refine x_assign (h := ?_))
   | (with_reducible refine x_q (h := ?_))
   | refine x_condf (h1 := ?_)
   | fail)
  all_goals try clear fx
  refine w_loop (fun n st => ∃ i : Nat, n = xs.length - i ∧ i ≤ xs.length ∧ st.tm 0 = ssl xs ∧ st.tm 1 = ssl ys ∧ st.tm 5 = iv i ∧ xs.take i = ys.take i) xs.length ?_ ?_
  · exact ⟨0, by simp⟩
  rintro n st - - ⟨i, rfl, hi, h0, h1, h5, heq⟩
  all_goals have fx := And.intro h0 <| h5
  repeat' (first
   | refine w_seq ?_ | refine w_reg fun K hK => ?_
   | ((with_reducible refine s_end hK ?_); clear hK K)
   | (with_reducible first | refine then_normal ?_)
   | (with_reducible first | refine s_none ?_)
   | (with_reducible refine x_q (h := ?_))
   | fail)
  all_goals try clear fx
  refine w_if (by simp []; first | done | rfl | exact (Bool.not_not _).symm) (fun ht => ?_) (fun hf => ?_)
  · have hlt : i < xs.length := by simpa using ht
    obtain ⟨x, hxi⟩ : ∃ x, xs[i]? = some x := ⟨_, gE (by omega)⟩
    obtain ⟨y, hyi⟩ : ∃ y, ys[i]? = some y := ⟨_, gE (by omega)⟩
    clear ht
    all_goals have fx := And.intro h0 <| And.intro h1 <| And.intro h5 <| And.intro hxi <| hyi
    repeat' (first
     | refine w_seq ?_ | refine w_block ?_ | refine w_skip ?_ | refine w_reg fun K hK => ?_
     | ((with_reducible refine s_end hK ?_); clear hK K)
     | (with_reducible first | refine then_normal ?_ | refine then_ret ?_ | refine in_ret ?_ | refine s_nil ?_)
     | refine w_ret ?_
     | (with_reducible first | refine s_none ?_ | refine x_assign (h := ?_))
     | ((with_reducible refine o_id 171 rfl ?_); refine x_call (hF := eqStmt_fn _ x y) (h := ?_))
     | (with_reducible refine x_q (h := ?_))
     | (refine wSc (id := 6) qsLb0 mixed fun K hK => ?_)
     | ((with_reducible refine a_end hK ?_); clear hK K)
     | ((with_reducible refine a_id ?_); first | refine xa_q (h := ?_))
     | refine a_l rfl ?_ | (with_reducible refine And.intro ?_ ?_) | exact st_nil | refine xa_st (h2 := ?_)
     | refine x_if (h1 := fun ht => ?_) (h2 := fun ht => ?_)
     | fail)
    all_goals try clear fx
    all_goals first
      | (refine e_ret [] .nil (by simp; rfl) ?_
         have hne : ¬ xs = ys := fun e => by rw [e, hyi] at hxi; obtain rfl := Option.some.inj hxi; simp at ht
         simp [hne])
      | (have hxy : x = y := by simpa using ht
         refine ⟨xs.length - (i + 1), by omega, i + 1, rfl, by omega, by simp [h0], by simp [h1], by simp; exact wrp (by omega) (by omega), ?_⟩
         rw [List.take_add_one, List.take_add_one, heq, hxi, hyi, hxy])
  · have hge : i = xs.length := by
      have : ¬ i < xs.length := by simpa using hf
      omega
    have : xs = ys := by rw [hge, List.take_length, hl, List.take_length] at heq; exact heq
    all_goals have fx := fx0
    repeat' (first
     | refine w_seq ?_ | refine w_reg fun K hK => ?_
     | ((with_reducible refine s_end hK ?_); clear hK K)
     | (with_reducible first | refine then_normal ?_)
     | refine w_exit ?_
     | refine w_ret ?_
     | (with_reducible first | refine s_none ?_ | refine x_assign (h := ?_))
     | fail)
    all_goals try clear fx
    refine e_ret [] .nil (by simp []; rfl) (by simp [this])
theorem eqBlock_fn (gl) (k l : Blk) (hk : BSm k) (hl : BSm l) : FnOk Tryz.prog gl 80 [k.av, l.av] (fun _ z _ => z = bv (decide (k = l))) := by
  obtain ⟨a, b, c, d⟩ := k
  obtain ⟨a', b', c', d'⟩ := l
  have h1 := eqIntS_fn gl c c' hk.params hl.params
  have h2 := eqStmtS_fn gl d d' hk.body hl.body
  refine FnOk.of_sem Tryz.func80 rfl (by kernel_rfl) (rs := [.tmp 4]) rfl Tryz.ntmps80 (Nat.le_of_ble_eq_true rfl) fun C w g root => ?_
  all_goals have fx :=  @bne_def
  repeat' (first
   | refine w_seq ?_ | refine w_skip ?_ | refine w_reg fun K hK => ?_
   | ((with_reducible refine s_end hK ?_); clear hK K)
   | (with_reducible first | refine then_normal ?_ | refine then_ret ?_)
   | refine w_ret ?_
   | (with_reducible first | refine s_none ?_ | refine x_assign (h := ?_) | refine x_box (h := ?_))
   | ((with_reducible refine o_id 131 rfl ?_); refine x_call (hF := h1) (h := ?_))
   | ((with_reducible refine o_id 132 rfl ?_); refine x_call (hF := h2) (h := ?_))
   | (with_reducible refine x_q (h := ?_))
   | refine x_if (h1 := fun ht => ?_) (h2 := fun ht => ?_)
   | fail)
  all_goals try clear fx
  all_goals refine e_ret [] .nil (by simp; rfl) ?_
  all_goals simp_all
theorem eqBlockS_fn (gl) (xs ys : Prg) (hx : Sml xs) (hy : Sml ys) : FnOk Tryz.prog gl 34 [ksl xs, ksl ys] (fun _ z _ => z = bv (decide (xs = ys))) := by
  have hxl := hx.len
  have hyl := hy.len
  refine FnOk.of_sem Tryz.func34 rfl (by kernel_rfl) (rs := [.tmp 4]) rfl Tryz.ntmps34 (Nat.le_of_ble_eq_true rfl) fun C w g root => ?_
  by_cases hl : xs.length = ys.length
  case neg =>
    have h1 : ((xs.length : Int) == ys.length) = false := by simp; omega
    all_goals have fx := And.intro h1 <| @bne_def
    repeat' (first
     | refine w_seq ?_ | refine w_reg fun K hK => ?_
     | ((with_reducible refine s_end hK ?_); clear hK K)
     | (with_reducible first | refine then_normal ?_ | refine then_ret ?_)
     | refine w_ret ?_
     | (with_reducible first | refine s_none ?_ | refine x_assign (h := ?_))
     | (with_reducible refine x_q (h := ?_))
     | refine x_condt (h1 := ?_)
     | fail)
    all_goals try clear fx
    refine e_ret [] .nil (by simp; rfl) ?_
    have : ¬ xs = ys := fun e => hl (by rw [e])
    simp [this]
  all_goals have fx := And.intro hl <| @bne_def
  repeat' (first
   | refine w_seq ?_ | refine w_block ?_ | refine w_skip ?_ | refine w_reg fun K hK => ?_
   | ((with_reducible refine s_end hK ?_); clear hK K)
   | (with_reducible first | refine then_normal ?_)
   | (with_reducible first | refine s_none ?_ | refine x_assign (h := ?_))
   | (with_reducible refine x_q (h := ?_))
   | refine x_condf (h1 := ?_)
   | fail)
  all_goals try clear fx
  refine w_loop (fun n st => ∃ i : Nat, n = xs.length - i ∧ i ≤ xs.length ∧ st.tm 0 = ksl xs ∧ st.tm 1 = ksl ys ∧ st.tm 5 = iv i ∧ xs.take i = ys.take i) xs.length ?_ ?_
  · exact ⟨0, by simp⟩
  rintro n st - - ⟨i, rfl, hi, h0, h1, h5, heq⟩
  all_goals have fx := And.intro h0 <| h5
  repeat' (first
   | refine w_seq ?_ | refine w_reg fun K hK => ?_
   | ((with_reducible refine s_end hK ?_); clear hK K)
   | (with_reducible first | refine then_normal ?_)
   | (with_reducible first | refine s_none ?_)
   | (with_reducible refine x_q (h := ?_))
   | fail)
  all_goals try clear fx
  refine w_if (by simp []; first | done | rfl | exact (Bool.not_not _).symm) (fun ht => ?_) (fun hf => ?_)
  · have hlt : i < xs.length := by simpa using ht
    obtain ⟨x, hxi⟩ : ∃ x, xs[i]? = some x := ⟨_, gE (by omega)⟩
    obtain ⟨y, hyi⟩ : ∃ y, ys[i]? = some y := ⟨_, gE (by omega)⟩
    clear ht
    all_goals have fx := And.intro h0 <| And.intro h1 <| And.intro h5 <| And.intro hxi <| hyi
    repeat' (first
     | refine w_seq ?_ | refine w_block ?_ | refine w_skip ?_ | refine w_reg fun K hK => ?_
     | ((with_reducible refine s_end hK ?_); clear hK K)
     | (with_reducible first | refine then_normal ?_ | refine then_ret ?_ | refine in_ret ?_ | refine s_nil ?_)
     | refine w_ret ?_
     | (with_reducible first | refine s_none ?_ | refine x_assign (h := ?_))
     | ((with_reducible refine o_id 80 rfl ?_); refine x_call (hF := eqBlock_fn _ x y (hx.bsm hxi) (hy.bsm hyi)) (h := ?_))
     | (with_reducible refine x_q (h := ?_))
     | (refine wSc (id := 6) qsLb0 mixed fun K hK => ?_)
     | ((with_reducible refine a_end hK ?_); clear hK K)
     | ((with_reducible refine a_id ?_); first | refine xa_q (h := ?_))
     | refine a_l rfl ?_ | (with_reducible refine And.intro ?_ ?_) | exact st_nil | refine xa_st (h2 := ?_)
     | refine x_if (h1 := fun ht => ?_) (h2 := fun ht => ?_)
     | fail)
    all_goals try clear fx
    all_goals first
      | (refine e_ret [] .nil (by simp; rfl) ?_
         have hne : ¬ xs = ys := fun e => by rw [e, hyi] at hxi; obtain rfl := Option.some.inj hxi; simp at ht
         simp [hne])
      | (have hxy : x = y := by simpa using ht
         refine ⟨xs.length - (i + 1), by omega, i + 1, rfl, by omega, by simp [h0], by simp [h1], by simp; exact wrp (by omega) (by omega), ?_⟩
         rw [List.take_add_one, List.take_add_one, heq, hxi, hyi, hxy])
  · have hge : i = xs.length := by
      have : ¬ i < xs.length := by simpa using hf
      omega
    have : xs = ys := by rw [hge, List.take_length, hl, List.take_length] at heq; exact heq
    all_goals have fx := fx0
    repeat' (first
     | refine w_seq ?_ | refine w_reg fun K hK => ?_
     | ((with_reducible refine s_end hK ?_); clear hK K)
     | (with_reducible first | refine then_normal ?_)
     | refine w_exit ?_
     | refine w_ret ?_
     | (with_reducible first | refine s_none ?_ | refine x_assign (h := ?_))
     | fail)
    all_goals try clear fx
    refine e_ret [] .nil (by simp []; rfl) (by simp [this])
theorem eqProgram_fn (gl) (xs ys : Prg) (hx : Sml xs) (hy : Sml ys) : FnOk Tryz.prog gl 11 [pav xs, pav ys] (fun _ z _ => z = bv (decide (xs = ys))) := by
  refine FnOk.of_sem Tryz.func11 rfl (by kernel_rfl) (rs := [.tmp 4]) rfl Tryz.ntmps11 (Nat.le_of_ble_eq_true rfl) fun C w g root => ?_
  all_goals have fx := fx0
  repeat' (first
   | refine w_seq ?_ | refine w_skip ?_ | refine w_reg fun K hK => ?_
   | ((with_reducible refine s_end hK ?_); clear hK K)
   | (with_reducible first | refine then_normal ?_ | refine then_ret ?_)
   | refine w_ret ?_
   | (with_reducible first | refine s_none ?_ | refine x_assign (h := ?_) | refine x_box (h := ?_))
   | ((with_reducible refine o_id 34 rfl ?_); refine x_call (hF := eqBlockS_fn _ xs ys hx hy) (h := ?_))
   | (with_reducible refine x_q (h := ?_))
   | refine x_if (h1 := fun ht => ?_) (h2 := fun ht => ?_)
   | fail)
  all_goals try clear fx
  all_goals refine e_ret [] .nil (by simp; rfl) ?_
  all_goals simp_all
theorem markIntS_fn (gl) (H : Nm → Option AO) (xs : List Int) (c : Int) (hH : H (.u 1 0 0) = some (.row 1 (irows xs))) (hc : 0 ≤ c ∧ c ≤ 1152921504606846976) (hx : xs.length ≤ 1048576) :
    FnE Tryz.prog gl 81 (Nm.under (.u 1 0 0)) [.hs (.u 1 0 0) 1 0 xs.length, iv c] H (fun _ y H' => y = iv (c + xs.length) ∧ H' (.u 1 0 0) = some (.row 1 (irows (markI xs.length c)))) noE := by
  refine FnE.of_sem Tryz.func81 rfl (by kernel_rfl) (rs := [.tmp 4]) rfl Tryz.ntmps81 (Nat.le_of_ble_eq_true rfl) (fun _ => under_usroot rfl) fun C w g root hroot => ?_
  all_goals have fx := fx0
  repeat' (first
   | refine w_seq ?_ | refine w_block ?_ | refine w_reg fun K hK => ?_
   | ((with_reducible refine s_end hK ?_); clear hK K)
   | (with_reducible first | refine s_none ?_ | refine x_assign (h := ?_))
   | fail)
  all_goals try clear fx
  refine w_loop (fun n st => ∃ i : Nat, n = xs.length - i ∧ i ≤ xs.length ∧ st.tm 0 = .hs (.u 1 0 0) 1 0 xs.length ∧ st.tm 1 = iv (c + i) ∧ st.hp (.u 1 0 0) = some (.row 1 (irows (markI i c ++ xs.drop i))) ∧ st.tm 5 = iv i) xs.length ?_ ?_
  · exact ⟨0, by simp, by simp, by simp, by simp, by simp [hH, markI], by simp⟩
  rintro n st - - ⟨i, rfl, hi, h0, h1, hp0, h5⟩
  all_goals have fx := And.intro h0 <| h5
  repeat' (first
   | refine w_seq ?_ | refine w_reg fun K hK => ?_
   | ((with_reducible refine s_end hK ?_); clear hK K)
   | (with_reducible first | refine then_normal ?_)
   | (with_reducible first | refine s_none ?_)
   | (with_reducible refine x_q (h := ?_))
   | fail)
  all_goals try clear fx
  refine w_if (by simp []; first | done | rfl | exact (Bool.not_not _).symm) (fun ht => ?_) (fun hf => ?_)
  · have hlt : i < xs.length := by simpa using ht
    have hset := markI_set (c := c) hlt
    have hll : (markI i c ++ xs.drop i).length = xs.length := by simp; omega
    clear ht
    all_goals have fx := And.intro h0 <| And.intro h1 <| And.intro hp0 <| And.intro h5 <| And.intro hlt <| hll
    repeat' (first
     | refine w_seq ?_ | refine w_block ?_ | refine w_skip ?_ | refine w_reg fun K hK => ?_
     | ((with_reducible refine s_end hK ?_); clear hK K)
     | (with_reducible first | refine then_normal ?_)
     | (with_reducible first | refine s_none ?_ | refine x_assign (h := ?_) | refine x_store0 (h := ?_))
     | (with_reducible refine x_q (h := ?_))
     | fail)
    all_goals try clear fx
    refine ⟨xs.length - (i + 1), by omega, i + 1, rfl, by omega, by simp [h0], ?_, by simp [← hset], by simp; exact wrp (by omega) (by omega)⟩
    simp
    rw [wrp (by omega) (by omega)]
    omega
  · have hge : i = xs.length := by
      have : ¬ i < xs.length := by simpa using hf
      omega
    subst hge
    rw [List.drop_length, List.append_nil] at hp0
    all_goals have fx :=  h1
    repeat' (first
     | refine w_seq ?_ | refine w_reg fun K hK => ?_
     | ((with_reducible refine s_end hK ?_); clear hK K)
     | (with_reducible first | refine then_normal ?_)
     | refine w_exit ?_
     | refine w_ret ?_
     | (with_reducible first | refine s_none ?_ | refine x_assign (h := ?_))
     | (with_reducible refine x_q (h := ?_))
     | fail)
    all_goals try clear fx
    refine e_ret [] .nil (by simp; rfl) ⟨by simp, by simp [hp0]⟩
theorem markStmtS_fn (gl) (H : Nm → Option AO) (xs : List Stm) (c : Int) (hH : H (.u 1 0 0) = some (.row 4 (srows xs))) (hc : 0 ≤ c ∧ c ≤ 1152921504606846976) (hx : xs.length ≤ 1048576) :
    FnE Tryz.prog gl 82 (Nm.under (.u 1 0 0)) [.hs (.u 1 0 0) 4 0 xs.length, iv c] H (fun _ y H' => y = iv (c + 4 * xs.length) ∧ H' (.u 1 0 0) = some (.row 4 (srows (markS xs.length c)))) noE := by
  refine FnE.of_sem Tryz.func82 rfl (by kernel_rfl) (rs := [.tmp 4]) rfl Tryz.ntmps82 (Nat.le_of_ble_eq_true rfl) (fun _ => under_usroot rfl) fun C w g root hroot => ?_
  all_goals have fx := fx0
  repeat' (first
   | refine w_seq ?_ | refine w_block ?_ | refine w_reg fun K hK => ?_
   | ((with_reducible refine s_end hK ?_); clear hK K)
   | (with_reducible first | refine s_none ?_ | refine x_assign (h := ?_))
   | fail)
  all_goals try clear fx
  refine w_loop (fun n st => ∃ i : Nat, n = xs.length - i ∧ i ≤ xs.length ∧ st.tm 0 = .hs (.u 1 0 0) 4 0 xs.length ∧ st.tm 1 = iv (c + 4 * i) ∧ st.hp (.u 1 0 0) = some (.row 4 (srows (markS i c ++ xs.drop i))) ∧ st.tm 5 = iv i) xs.length ?_ ?_
  · exact ⟨0, by simp, by simp, by simp, by simp, by simp [hH, markS], by simp⟩
  rintro n st - - ⟨i, rfl, hi, h0, h1, hp0, h5⟩
  all_goals have fx := And.intro h0 <| h5
  repeat' (first
   | refine w_seq ?_ | refine w_reg fun K hK => ?_
   | ((with_reducible refine s_end hK ?_); clear hK K)
   | (with_reducible first | refine then_normal ?_)
   | (with_reducible first | refine s_none ?_)
   | (with_reducible refine x_q (h := ?_))
   | fail)
  all_goals try clear fx
  refine w_if (by simp []; first | done | rfl | exact (Bool.not_not _).symm) (fun ht => ?_) (fun hf => ?_)
  · have hlt : i < xs.length := by simpa using ht
    have hset := markS_set (c := c) hlt
    have hll : (markS i c ++ xs.drop i).length = xs.length := by simp; omega
    have hs4 := srows_set4 (L := markS i c ++ xs.drop i) (i := i) (a := c + 4 * i) (b := c + 4 * i + 1) (d := c + 4 * i + 2) (e := c + 4 * i + 3) (by omega)
    rw [hset] at hs4
    obtain ⟨v0, hv0⟩ : ∃ v, v = c + 4 * (i : Int) := ⟨_, rfl⟩
    rw [← hv0] at h1 hs4
    obtain ⟨v1, hv1⟩ : ∃ v, v = v0 + 1 := ⟨_, rfl⟩
    obtain ⟨v2, hv2⟩ : ∃ v, v = v1 + 1 := ⟨_, rfl⟩
    obtain ⟨v3, hv3⟩ : ∃ v, v = v2 + 1 := ⟨_, rfl⟩
    have hw1 : IntKind.i64.wrap (v0 + 1) = v1 := by rw [hv1]; exact wrp (by omega) (by omega)
    have hw2 : IntKind.i64.wrap (v1 + 1) = v2 := by rw [hv2]; exact wrp (by omega) (by omega)
    have hw3 : IntKind.i64.wrap (v2 + 1) = v3 := by rw [hv3]; exact wrp (by omega) (by omega)
    have hw4 : IntKind.i64.wrap (v3 + 1) = v3 + 1 := wrp (by omega) (by omega)
    rw [← hv1, show v0 + 2 = v2 by omega, show v0 + 3 = v3 by omega] at hs4
    generalize markS i c ++ xs.drop i = L at hp0 hll hs4
    clear ht hset
    all_goals have fx := And.intro h0 <| And.intro h1 <| And.intro hp0 <| And.intro h5 <| And.intro hlt <| And.intro hll <| And.intro hw1 <| And.intro hw2 <| hw3
    repeat' (first
     | refine w_seq ?_ | refine w_block ?_ | refine w_skip ?_ | refine w_reg fun K hK => ?_
     | ((with_reducible refine s_end hK ?_); clear hK K)
     | (with_reducible first | refine then_normal ?_)
     | (with_reducible first | refine s_none ?_ | refine x_assign (h := ?_) | refine x_store0 (h := ?_))
     | (with_reducible refine x_q (h := ?_))
     | fail)
    all_goals try clear fx
    refine ⟨xs.length - (i + 1), by omega, i + 1, rfl, by omega, by simp [h0], ?_, by simp [hw1, hw2, hw3, hs4], by simp; exact wrp (by omega) (by omega)⟩
    simp [hw1, hw2, hw3, hw4]
    omega
  · have hge : i = xs.length := by
      have : ¬ i < xs.length := by simpa using hf
      omega
    subst hge
    rw [List.drop_length, List.append_nil] at hp0
    all_goals have fx :=  h1
    repeat' (first
     | refine w_seq ?_ | refine w_reg fun K hK => ?_
     | ((with_reducible refine s_end hK ?_); clear hK K)
     | (with_reducible first | refine then_normal ?_)
     | refine w_exit ?_
     | refine w_ret ?_
     | (with_reducible first | refine s_none ?_ | refine x_assign (h := ?_))
     | (with_reducible refine x_q (h := ?_))
     | fail)
    all_goals try clear fx
    refine e_ret [] .nil (by simp; rfl) ⟨by simp, by simp [hp0]⟩
theorem markBlockS_fn (gl) (H : Nm → Option AO) (p : Prg) (c : Int) (hs : Sml p) (hO : OwnP H (.u 0 0 0) p) (hV : H (.u 1 0 0) = none) (hc : 0 ≤ c ∧ c ≤ 1024) :
    FnE Tryz.prog gl 35 (Nm.under (.u 0 0 0)) [.hs (.u 0 0 0) 4 0 p.length, iv c] H (fun _ y H' => y = iv (c + cnt p) ∧ OwnP H' (.u 0 0 0) (markP p c)) noE := by
  have hpl := hs.len
  obtain ⟨ha1, ha2, ha3⟩ := hO
  refine FnE.of_sem Tryz.func35 rfl (by kernel_rfl) (rs := [.tmp 4]) rfl Tryz.ntmps35 (Nat.le_of_ble_eq_true rfl) (fun _ => under_usroot rfl) fun C w g root hroot => ?_
  all_goals have fx := fx0
  repeat' (first
   | refine w_seq ?_ | refine w_block ?_ | refine w_reg fun K hK => ?_
   | ((with_reducible refine s_end hK ?_); clear hK K)
   | (with_reducible first | refine s_none ?_ | refine x_assign (h := ?_))
   | fail)
  all_goals try clear fx
  refine w_loop (fun n st => ∃ i : Nat, n = p.length - i ∧ i ≤ p.length ∧ st.tm 0 = .hs (.u 0 0 0) 4 0 p.length ∧ st.tm 1 = iv (c + cntTo p i) ∧ OwnP st.hp (.u 0 0 0) (markTo p c i) ∧ st.tm 5 = iv i) p.length ?_ ?_
  · refine ⟨0, by simp, by simp, by simp, by simp [cntTo], ?_, by simp⟩
    rw [markTo_zero]
    exact ⟨by simp [ha1], fun j k hk => by simp [ha2 j k hk], fun j k hk => by simp [ha3 j k hk]⟩
  rintro n st - - ⟨i, rfl, hi, h0, h1, ⟨ho1, ho2, ho3⟩, h5⟩
  all_goals have fx := And.intro h0 <| h5
  repeat' (first
   | refine w_seq ?_ | refine w_reg fun K hK => ?_
   | ((with_reducible refine s_end hK ?_); clear hK K)
   | (with_reducible first | refine then_normal ?_)
   | (with_reducible first | refine s_none ?_)
   | (with_reducible refine x_q (h := ?_))
   | fail)
  all_goals try clear fx
  refine w_if (by simp []; first | done | rfl | exact (Bool.not_not _).symm) (fun ht => ?_) (fun hf => ?_)
  · have hlt : i < p.length := by simpa using ht
    obtain ⟨k, hk⟩ : ∃ k, p[i]? = some k := ⟨_, gE hlt⟩
    obtain ⟨hkp, hkb⟩ := hs.bsm hk
    have hcl := cntTo_le hs i
    have hcg := cntTo_get hk
    have hmg := markTo_get (c := c) (i := i) hk
    rw [if_neg (Nat.lt_irrefl i)] at hmg
    have hp2 := ho2 i k hmg
    have hp3 := ho3 i k hmg
    have hKP := pRows_setKP (n := .u 0 0 0) (q := markTo p c i) (i := i) (a := c + cntTo p i) (b := c + cntTo p i + 1)
    have hmk := pRows_mark (n := .u 0 0 0) (c := c) hk
    rw [hmk] at hKP
    have hng := markTo_get (c := c) (i := i + 1) hk
    rw [if_pos (Nat.lt_succ_self i)] at hng
    obtain ⟨_, hnge⟩ := gS hng
    obtain ⟨v0, hv0⟩ : ∃ v, v = c + (cntTo p i : Int) := ⟨_, rfl⟩
    rw [← hv0] at h1 hKP
    obtain ⟨v1, hv1⟩ : ∃ v, v = v0 + 1 := ⟨_, rfl⟩
    obtain ⟨v2, hv2⟩ : ∃ v, v = v1 + 1 := ⟨_, rfl⟩
    rw [← hv1] at hKP
    have hw1 : IntKind.i64.wrap (v0 + 1) = v1 := by rw [hv1]; exact wrp (by omega) (by omega)
    have hw2 : IntKind.i64.wrap (v1 + 1) = v2 := by rw [hv2]; exact wrp (by omega) (by omega)
    have hml : (markTo p c i).length = p.length := by simp
    have hml' : (markTo p c (i + 1)).length = p.length := by simp
    have hmp : (markBlk k (c + cntTo p i)).params.length = k.params.length := by simp [markBlk]
    have hmb : (markBlk k (c + cntTo p i)).body.length = k.body.length := by simp [markBlk]
    clear ht
    all_goals have fx := And.intro h0 <| And.intro h1 <| And.intro ho1 <| And.intro h5 <| And.intro hlt <| And.intro hw1 <| And.intro hw2 <| And.intro hKP <| And.intro hml <| And.intro hml' <| And.intro hng <| And.intro hnge <| And.intro hmp <| hmb
    repeat' (first
     | refine w_seq ?_ | refine w_block ?_ | refine w_skip ?_ | refine w_reg fun K hK => ?_
     | ((with_reducible refine s_end hK ?_); clear hK K)
     | (with_reducible first | refine s_none ?_ | refine x_assign (h := ?_) | refine x_store0 (h := ?_))
     | (with_reducible refine x_q (h := ?_))
     | fail)
    all_goals try clear fx
    have hx1 : (ctx0 Tryz.prog C w g H Tryz.f35.ntmps gl).ext (.u 1 0 0) = false := by simp [ctx0, hV]
    have fx := And.intro h0 <| And.intro h1 <| And.intro h5 <| And.intro hw2 hmp
    refine x_mutc (.c (.u 0 0 0) i 2) (.u 1 0 0) (hext := hx1) (hs := by simp [hp2]) (hF := markIntS_fn _ _ k.params v2 (by simp [hp2]) (by omega) hkp) (h := ?_)
    rintro y H1 ⟨rfl, hy1⟩
    clear fx
    all_goals have fx := And.intro h0 <| And.intro h1 <| And.intro ho1 <| And.intro h5 <| And.intro hlt <| And.intro hw1 <| And.intro hw2 <| And.intro hKP <| And.intro hml <| And.intro hml' <| And.intro hng <| And.intro hnge <| And.intro hmp <| hmb
    repeat' (first
     | refine w_reg fun K hK => ?_
     | ((with_reducible refine s_end hK ?_); clear hK K)
     | (with_reducible first | refine s_none ?_ | refine x_assign (h := ?_))
     | (with_reducible refine x_q (h := ?_))
     | fail)
    all_goals try clear fx
    have fx := And.intro h0 <| And.intro h1 <| And.intro h5 <| And.intro hw2 <| And.intro hmp hmb
    refine x_mutc (.c (.u 0 0 0) i 3) (.u 1 0 0) (hext := hx1) (hs := by simp [hp3]) (hF := markStmtS_fn _ _ k.body (v2 + k.params.length) (by simp [hp3]) (by omega) hkb) (h := ?_)
    rintro y H2 ⟨rfl, hy2⟩
    clear fx
    all_goals have fx := And.intro h0 <| And.intro h1 <| h5
    repeat' (first
     | refine w_reg fun K hK => ?_
     | ((with_reducible refine s_end hK ?_); clear hK K)
     | (with_reducible first | refine then_normal ?_)
     | (with_reducible first | refine s_none ?_ | refine x_assign (h := ?_))
     | (with_reducible refine x_q (h := ?_))
     | fail)
    all_goals try clear fx
    have hcb : (cntB k : Int) = 2 + k.params.length + 4 * k.body.length := by simp only [cntB]; omega
    refine ⟨p.length - (i + 1), by omega, i + 1, rfl, by omega, by simp [h0], ?_, ⟨?_, fun j r hj => ?_, fun j r hj => ?_⟩, by simp [h5]; exact wrp (by omega) (by omega)⟩
    · simp
      rw [hcg]
      omega
    · simp [ho1, hw1, hw2, hKP]
    · obtain ⟨q, hq, rfl⟩ := markTo_params hj
      by_cases hji : j = i
      · subst hji
        rw [hk] at hq
        obtain rfl := Option.some.inj hq
        rw [if_pos (Nat.lt_succ_self j)]
        have : v2 = c + cntTo p j + 2 := by omega
        simp [markBlk, hy1, this]
      · have hjo := ho2 j _ (markTo_get (c := c) (i := i) hq)
        by_cases hlj : j < i
        · rw [if_pos hlj] at hjo
          rw [if_pos (by omega)]
          simp [hjo, hji]
        · rw [if_neg hlj] at hjo
          rw [if_neg (by omega)]
          simp [hjo, hji]
    · obtain ⟨q, hq, rfl⟩ := markTo_params hj
      by_cases hji : j = i
      · subst hji
        rw [hk] at hq
        obtain rfl := Option.some.inj hq
        rw [if_pos (Nat.lt_succ_self j)]
        have : v2 = c + cntTo p j + 2 := by omega
        simp [markBlk, hy2, this]
      · have hjo := ho3 j _ (markTo_get (c := c) (i := i) hq)
        by_cases hlj : j < i
        · rw [if_pos hlj] at hjo
          rw [if_pos (by omega)]
          simp [hjo, hji]
        · rw [if_neg hlj] at hjo
          rw [if_neg (by omega)]
          simp [hjo, hji]
  · have hge : i = p.length := by
      have : ¬ i < p.length := by simpa using hf
      omega
    subst hge
    all_goals have fx :=  h1
    repeat' (first
     | refine w_seq ?_ | refine w_reg fun K hK => ?_
     | ((with_reducible refine s_end hK ?_); clear hK K)
     | (with_reducible first | refine then_normal ?_)
     | refine w_exit ?_
     | refine w_ret ?_
     | (with_reducible first | refine s_none ?_ | refine x_assign (h := ?_))
     | (with_reducible refine x_q (h := ?_))
     | fail)
    all_goals try clear fx
    refine e_ret [] .nil (by simp; rfl) ⟨by simp [cnt], ⟨?_, fun j r hj => ?_, fun j r hj => ?_⟩⟩
    · simp [ho1, markP, pRows_tr (n := .u 0 0 0) (m := .u 0 0 0) (f := finf (Nm.under (.u 0 0 0)) []) (p := markTo p c p.length) (by simp)]
    · have := ho2 j r hj
      simp [this]
    · have := ho3 j r hj
      simp [this]
theorem markProgram_fn (gl) (H : Nm → Option AO) (p : Prg) (c : Int) (hs : Sml p) (hO : OwnP H (.u 0 0 0) p) (hV : H (.u 1 0 0) = none) (hc : 0 ≤ c ∧ c ≤ 1024) :
    FnE Tryz.prog gl 12 (Nm.under (.u 0 0 0)) [.agg [.hs (.u 0 0 0) 4 0 p.length], iv c] H (fun _ y H' => y = iv (c + cnt p) ∧ OwnP H' (.u 0 0 0) (markP p c)) noE := by
  obtain ⟨ha1, ha2, ha3⟩ := hO
  refine FnE.of_sem Tryz.func12 rfl (by kernel_rfl) (rs := [.tmp 4]) rfl Tryz.ntmps12 (Nat.le_of_ble_eq_true rfl) (fun _ => under_usroot rfl) fun C w g root hroot => ?_
  all_goals have fx := fx0
  repeat' (first
   | refine w_seq ?_ | refine w_reg fun K hK => ?_
   | ((with_reducible refine s_end hK ?_); clear hK K)
   | (with_reducible first | refine s_none ?_ | refine x_assign (h := ?_) | refine x_box (h := ?_))
   | (with_reducible refine x_q (h := ?_))
   | fail)
  all_goals try clear fx
  have fx := fx0
  refine x_mut (.u 0 0 0) rfl (fun _ => by simp [ha1]) (hF := markBlockS_fn _ _ p c hs ⟨by simp [ha1], fun j r hj => by simp [ha2 j r hj], fun j r hj => by simp [ha3 j r hj]⟩ (by simp) hc) (h := ?_)
  rintro y H' ⟨rfl, ⟨ho1, ho2, ho3⟩⟩
  clear fx
  all_goals have fx := fx0
  repeat' (first
   | refine w_seq ?_ | refine w_reg fun K hK => ?_
   | ((with_reducible refine s_end hK ?_); clear hK K)
   | (with_reducible first | refine then_normal ?_)
   | refine w_ret ?_
   | (with_reducible first | refine s_none ?_ | refine x_assign (h := ?_))
   | (with_reducible refine x_q (h := ?_))
   | fail)
  all_goals try clear fx
  refine e_ret [] .nil (by simp; rfl) ⟨by simp, ⟨?_, fun j r hj => ?_, fun j r hj => ?_⟩⟩
  · simp [ho1, pRows_tr (n := .u 0 0 0) (m := .u 0 0 0) (f := finf (Nm.under (.u 0 0 0)) []) (p := markP p c) (by simp)]
  · simp [ho2 j r hj]
  · simp [ho3 j r hj]
end Go.Proofs.YtmaoicgfcngciaaGreatDoor
end
section
namespace Go.Proofs.YtmaoicgfcngciaaGreatDoor
open Go Go.Hm Go.Proofs
theorem heldIntS_fn (gl) (m : Nat) (c : Int) (hc : 0 ≤ c ∧ c ≤ 1152921504606846976) (hm : m ≤ 1048576) : FnOk Tryz.prog gl 83 [isl (markI m c), iv c] (fun _ y _ => y = iv (c + m)) := by
  have hml : (markI m c).length = m := markI_len
  refine FnOk.of_sem Tryz.func83 rfl (by kernel_rfl) (rs := [.tmp 4]) rfl Tryz.ntmps83 (Nat.le_of_ble_eq_true rfl) fun C w g root => ?_
  all_goals have fx := fx0
  repeat' (first
   | refine w_seq ?_ | refine w_block ?_ | refine w_reg fun K hK => ?_
   | ((with_reducible refine s_end hK ?_); clear hK K)
   | (with_reducible first | refine s_none ?_ | refine x_assign (h := ?_))
   | fail)
  all_goals try clear fx
  refine w_loop (fun n st => ∃ i : Nat, n = m - i ∧ i ≤ m ∧ st.tm 0 = isl (markI m c) ∧ st.tm 1 = iv (c + i) ∧ st.tm 5 = iv i) m ⟨0, by simp⟩ ?_
  rintro n st - - ⟨i, rfl, hi, h0, h1, h5⟩
  all_goals have fx := And.intro h0 <| h5
  repeat' (first
   | refine w_seq ?_ | refine w_reg fun K hK => ?_
   | ((with_reducible refine s_end hK ?_); clear hK K)
   | (with_reducible first | refine then_normal ?_)
   | (with_reducible first | refine s_none ?_)
   | (with_reducible refine x_q (h := ?_))
   | fail)
  all_goals try clear fx
  refine w_if (by simp []; first | done | rfl | exact (Bool.not_not _).symm) (fun ht => ?_) (fun hf => ?_)
  · have hlt : i < m := by simpa using ht
    have hg : (markI m c)[i]? = some (c + i) := by simp [markI, hlt]
    clear ht
    all_goals have fx := And.intro h0 <| And.intro h1 <| And.intro h5 <| And.intro hg <| @bne_def
    repeat' (first
     | refine w_seq ?_ | refine w_block ?_ | refine w_skip ?_ | refine w_reg fun K hK => ?_
     | ((with_reducible refine s_end hK ?_); clear hK K)
     | (with_reducible first | refine then_normal ?_)
     | (with_reducible first | refine s_none ?_ | refine x_assign (h := ?_))
     | (with_reducible refine x_q (h := ?_))
     | refine x_condf (h1 := ?_)
     | fail)
    all_goals try clear fx
    refine ⟨m - (i + 1), by omega, i + 1, rfl, by omega, by simp [h0], ?_, by simp; exact wrp (by omega) (by omega)⟩
    simp
    rw [wrp (by omega) (by omega)]
    omega
  · have hge : i = m := by
      have : ¬ i < m := by simpa using hf
      omega
    subst hge
    all_goals have fx :=  h1
    repeat' (first
     | refine w_seq ?_ | refine w_reg fun K hK => ?_
     | ((with_reducible refine s_end hK ?_); clear hK K)
     | (with_reducible first | refine then_normal ?_)
     | refine w_exit ?_
     | refine w_ret ?_
     | (with_reducible first | refine s_none ?_ | refine x_assign (h := ?_))
     | (with_reducible refine x_q (h := ?_))
     | fail)
    all_goals try clear fx
    refine e_ret [] .nil (by simp; rfl) (by simp)
theorem heldStmtS_fn (gl) (m : Nat) (c : Int) (hc : 0 ≤ c ∧ c ≤ 1152921504606846976) (hm : m ≤ 1048576) : FnOk Tryz.prog gl 84 [ssl (markS m c), iv c] (fun _ y _ => y = iv (c + 4 * m)) := by
  have hml : (markS m c).length = m := markS_len
  refine FnOk.of_sem Tryz.func84 rfl (by kernel_rfl) (rs := [.tmp 4]) rfl Tryz.ntmps84 (Nat.le_of_ble_eq_true rfl) fun C w g root => ?_
  all_goals have fx := fx0
  repeat' (first
   | refine w_seq ?_ | refine w_block ?_ | refine w_skip ?_ | refine w_reg fun K hK => ?_
   | ((with_reducible refine s_end hK ?_); clear hK K)
   | (with_reducible first | refine then_normal ?_ | refine in_normal ?_ | refine then_exit ?_ | refine in_exit ?_ | refine then_ret ?_ | refine in_ret ?_ | refine in_other (by decide) ?_)
   | refine w_exit ?_
   | refine w_ret ?_
   | (with_reducible first | refine s_none ?_ | refine x_assign (h := ?_))
   | (with_reducible refine x_q (h := ?_))
   | refine x_condt (h1 := ?_) | refine x_condf (h1 := ?_)
   | fail)
  all_goals try clear fx
  refine w_loop (fun n st => ∃ i : Nat, n = m - i ∧ i ≤ m ∧ st.tm 0 = ssl (markS m c) ∧ st.tm 1 = iv (c + 4 * i) ∧ st.tm 5 = iv i) m ⟨0, by simp⟩ ?_
  rintro n st - - ⟨i, rfl, hi, h0, h1, h5⟩
  all_goals have fx := And.intro h0 <| h5
  repeat' (first
   | refine w_seq ?_ | refine w_block ?_ | refine w_skip ?_ | refine w_reg fun K hK => ?_
   | ((with_reducible refine s_end hK ?_); clear hK K)
   | (with_reducible first | refine then_normal ?_ | refine in_normal ?_ | refine then_exit ?_ | refine in_exit ?_ | refine then_ret ?_ | refine in_ret ?_ | refine in_other (by decide) ?_)
   | refine w_exit ?_
   | refine w_ret ?_
   | (with_reducible first | refine s_none ?_ | refine x_assign (h := ?_))
   | (with_reducible refine x_q (h := ?_))
   | refine x_condt (h1 := ?_) | refine x_condf (h1 := ?_)
   | fail)
  all_goals try clear fx
  refine w_if (by simp []; first | done | rfl | exact (Bool.not_not _).symm) (fun ht => ?_) (fun hf => ?_)
  · have hlt : i < m := by simpa using ht
    have hg : (markS m c)[i]? = some ⟨c + 4 * i, c + 4 * i + 1, c + 4 * i + 2, c + 4 * i + 3⟩ := by simp [markS, hlt]
    obtain ⟨v0, hv0⟩ : ∃ v, v = c + 4 * (i : Int) := ⟨_, rfl⟩
    obtain ⟨v1, hv1⟩ : ∃ v, v = v0 + 1 := ⟨_, rfl⟩
    obtain ⟨v2, hv2⟩ : ∃ v, v = v1 + 1 := ⟨_, rfl⟩
    obtain ⟨v3, hv3⟩ : ∃ v, v = v2 + 1 := ⟨_, rfl⟩
    have hw1 : IntKind.i64.wrap (v0 + 1) = v1 := by rw [hv1]; exact wrp (by omega) (by omega)
    have hw2 : IntKind.i64.wrap (v1 + 1) = v2 := by rw [hv2]; exact wrp (by omega) (by omega)
    have hw3 : IntKind.i64.wrap (v2 + 1) = v3 := by rw [hv3]; exact wrp (by omega) (by omega)
    have hw4 : IntKind.i64.wrap (v3 + 1) = v3 + 1 := wrp (by omega) (by omega)
    rw [← hv0] at h1 hg
    rw [← hv1, show v0 + 2 = v2 by omega, show v0 + 3 = v3 by omega] at hg
    clear ht
    all_goals have fx := And.intro h0 <| And.intro h1 <| And.intro h5 <| And.intro hg <| And.intro hw1 <| And.intro hw2 <| And.intro hw3 <| @bne_def
    repeat' (first
     | refine w_seq ?_ | refine w_block ?_ | refine w_skip ?_ | refine w_reg fun K hK => ?_
     | ((with_reducible refine s_end hK ?_); clear hK K)
     | (with_reducible first | refine then_normal ?_ | refine in_normal ?_ | refine then_exit ?_ | refine in_exit ?_ | refine then_ret ?_ | refine in_ret ?_ | refine in_other (by decide) ?_)
     | refine w_exit ?_
     | refine w_ret ?_
     | (with_reducible first | refine s_none ?_ | refine x_assign (h := ?_))
     | (with_reducible refine x_q (h := ?_))
     | refine x_condt (h1 := ?_) | refine x_condf (h1 := ?_)
     | fail)
    all_goals try clear fx
    refine ⟨m - (i + 1), by omega, i + 1, rfl, by omega, by simp [h0], ?_, by simp; exact wrp (by omega) (by omega)⟩
    simp [hw1, hw2, hw3, hw4]
    omega
  · have hge : i = m := by
      have : ¬ i < m := by simpa using hf
      omega
    subst hge
    all_goals have fx :=  h1
    repeat' (first
     | refine w_seq ?_ | refine w_block ?_ | refine w_skip ?_ | refine w_reg fun K hK => ?_
     | ((with_reducible refine s_end hK ?_); clear hK K)
     | (with_reducible first | refine then_normal ?_ | refine in_normal ?_ | refine then_exit ?_ | refine in_exit ?_ | refine then_ret ?_ | refine in_ret ?_ | refine in_other (by decide) ?_)
     | refine w_exit ?_
     | refine w_ret ?_
     | (with_reducible first | refine s_none ?_ | refine x_assign (h := ?_))
     | (with_reducible refine x_q (h := ?_))
     | refine x_condt (h1 := ?_) | refine x_condf (h1 := ?_)
     | fail)
    all_goals try clear fx
    refine e_ret [] .nil (by simp; rfl) (by simp)
theorem heldBlockS_fn (gl) (p : Prg) (c : Int) (hs : Sml p) (hc : 0 ≤ c ∧ c ≤ 1024) : FnOk Tryz.prog gl 36 [ksl (markP p c), iv c] (fun _ y _ => y = iv (c + cnt p)) := by
  have hpl := hs.len
  have hml : (markP p c).length = p.length := by simp [markP]
  refine FnOk.of_sem Tryz.func36 rfl (by kernel_rfl) (rs := [.tmp 4]) rfl Tryz.ntmps36 (Nat.le_of_ble_eq_true rfl) fun C w g root => ?_
  all_goals have fx := fx0
  repeat' (first
   | refine w_seq ?_ | refine w_block ?_ | refine w_skip ?_ | refine w_reg fun K hK => ?_
   | ((with_reducible refine s_end hK ?_); clear hK K)
   | (with_reducible first | refine then_normal ?_ | refine in_normal ?_ | refine then_exit ?_ | refine in_exit ?_ | refine then_ret ?_ | refine in_ret ?_ | refine in_other (by decide) ?_)
   | refine w_exit ?_
   | refine w_ret ?_
   | (with_reducible first | refine s_none ?_ | refine x_assign (h := ?_))
   | (with_reducible refine x_q (h := ?_))
   | refine x_condt (h1 := ?_) | refine x_condf (h1 := ?_)
   | fail)
  all_goals try clear fx
  refine w_loop (fun n st => ∃ i : Nat, n = p.length - i ∧ i ≤ p.length ∧ st.tm 0 = ksl (markP p c) ∧ st.tm 1 = iv (c + cntTo p i) ∧ st.tm 5 = iv i) p.length ⟨0, by simp [cntTo]⟩ ?_
  rintro n st - - ⟨i, rfl, hi, h0, h1, h5⟩
  all_goals have fx := And.intro h0 <| And.intro h5 <| hml
  repeat' (first
   | refine w_seq ?_ | refine w_block ?_ | refine w_skip ?_ | refine w_reg fun K hK => ?_
   | ((with_reducible refine s_end hK ?_); clear hK K)
   | (with_reducible first | refine then_normal ?_ | refine in_normal ?_ | refine then_exit ?_ | refine in_exit ?_ | refine then_ret ?_ | refine in_ret ?_ | refine in_other (by decide) ?_)
   | refine w_exit ?_
   | refine w_ret ?_
   | (with_reducible first | refine s_none ?_ | refine x_assign (h := ?_))
   | (with_reducible refine x_q (h := ?_))
   | refine x_condt (h1 := ?_) | refine x_condf (h1 := ?_)
   | fail)
  all_goals try clear fx
  refine w_if (by simp []; first | done | rfl | exact (Bool.not_not _).symm) (fun ht => ?_) (fun hf => ?_)
  · have hlt : i < p.length := by simpa using ht
    obtain ⟨k, hk⟩ : ∃ k, p[i]? = some k := ⟨_, gE hlt⟩
    obtain ⟨hkp, hkb⟩ := hs.bsm hk
    have hcl := cntTo_le hs i
    have hcg := cntTo_get hk
    have hg : (markP p c)[i]? = some (markBlk k (c + cntTo p i)) := by rw [markP, markTo_get hk, if_pos hlt]
    obtain ⟨v0, hv0⟩ : ∃ v, v = c + (cntTo p i : Int) := ⟨_, rfl⟩
    obtain ⟨v1, hv1⟩ : ∃ v, v = v0 + 1 := ⟨_, rfl⟩
    obtain ⟨v2, hv2⟩ : ∃ v, v = v1 + 1 := ⟨_, rfl⟩
    obtain ⟨v3, hv3⟩ : ∃ v, v = v2 + (k.params.length : Int) := ⟨_, rfl⟩
    have hw1 : IntKind.i64.wrap (v0 + 1) = v1 := by rw [hv1]; exact wrp (by omega) (by omega)
    have hw2 : IntKind.i64.wrap (v1 + 1) = v2 := by rw [hv2]; exact wrp (by omega) (by omega)
    rw [← hv0] at h1 hg
    simp only [markBlk] at hg
    rw [← hv1, show v0 + 2 = v2 by omega, ← hv3] at hg
    have hn3 : ¬ v3 < 0 := by omega
    have hn4 : ¬ v3 + 4 * (k.body.length : Int) < 0 := by omega
    have h3 := heldIntS_fn gl k.params.length v2 (by omega) hkp
    rw [← hv3] at h3
    clear ht
    all_goals have fx := And.intro h0 <| And.intro h1 <| And.intro h5 <| And.intro hg <| And.intro hw1 <| And.intro hw2 <| And.intro hn3 <| And.intro hn4 <| @bne_def
    repeat' (first
     | refine w_seq ?_ | refine w_block ?_ | refine w_skip ?_ | refine w_reg fun K hK => ?_
     | ((with_reducible refine s_end hK ?_); clear hK K)
     | (with_reducible first | refine then_normal ?_ | refine in_normal ?_ | refine then_exit ?_ | refine in_exit ?_ | refine then_ret ?_ | refine in_ret ?_ | refine in_other (by decide) ?_)
     | refine w_exit ?_
     | refine w_ret ?_
     | (with_reducible first | refine s_none ?_ | refine x_assign (h := ?_))
     | ((with_reducible refine o_id 83 rfl ?_); refine x_call (hF := h3) (h := ?_))
     | ((with_reducible refine o_id 84 rfl ?_); refine x_call (hF := heldStmtS_fn _ k.body.length v3 (by omega) hkb) (h := ?_))
     | (with_reducible refine x_q (h := ?_))
     | refine x_condt (h1 := ?_) | refine x_condf (h1 := ?_)
     | fail)
    all_goals try clear fx
    have hcb : (cntB k : Int) = 2 + k.params.length + 4 * k.body.length := by simp only [cntB]; omega
    refine ⟨p.length - (i + 1), by omega, i + 1, rfl, by omega, by simp [h0], ?_, by simp [h5]; exact wrp (by omega) (by omega)⟩
    simp
    rw [hcg]
    omega
  · have hge : i = p.length := by
      have : ¬ i < p.length := by simpa using hf
      omega
    subst hge
    all_goals have fx :=  h1
    repeat' (first
     | refine w_seq ?_ | refine w_block ?_ | refine w_skip ?_ | refine w_reg fun K hK => ?_
     | ((with_reducible refine s_end hK ?_); clear hK K)
     | (with_reducible first | refine then_normal ?_ | refine in_normal ?_ | refine then_exit ?_ | refine in_exit ?_ | refine then_ret ?_ | refine in_ret ?_ | refine in_other (by decide) ?_)
     | refine w_exit ?_
     | refine w_ret ?_
     | (with_reducible first | refine s_none ?_ | refine x_assign (h := ?_))
     | (with_reducible refine x_q (h := ?_))
     | refine x_condt (h1 := ?_) | refine x_condf (h1 := ?_)
     | fail)
    all_goals try clear fx
    refine e_ret [] .nil (by simp; rfl) (by simp [cnt])
theorem heldProgram_fn (gl) (p : Prg) (c : Int) (hs : Sml p) (hc : 0 ≤ c ∧ c ≤ 1024) : FnOk Tryz.prog gl 13 [pav (markP p c), iv c] (fun _ y _ => y = iv (c + cnt p)) := by
  have hn : ¬ c + (cnt p : Int) < 0 := by omega
  refine FnOk.of_sem Tryz.func13 rfl (by kernel_rfl) (rs := [.tmp 4]) rfl Tryz.ntmps13 (Nat.le_of_ble_eq_true rfl) fun C w g root => ?_
  all_goals have fx :=  hn
  repeat' (first
   | refine w_seq ?_ | refine w_skip ?_ | refine w_reg fun K hK => ?_
   | ((with_reducible refine s_end hK ?_); clear hK K)
   | (with_reducible first | refine then_normal ?_ | refine then_ret ?_)
   | refine w_ret ?_
   | (with_reducible first | refine s_none ?_ | refine x_assign (h := ?_) | refine x_box (h := ?_))
   | ((with_reducible refine o_id 36 rfl ?_); refine x_call (hF := heldBlockS_fn _ p c hs hc) (h := ?_))
   | (with_reducible refine x_q (h := ?_))
   | refine x_condt (h1 := ?_) | refine x_condf (h1 := ?_)
   | fail)
  all_goals try clear fx
  refine e_ret [] .nil (by simp; rfl) (by simp)
theorem FnExactParseProgram_fn (gl : Nat → Option (List AV)) {m : Int} (hgm : gl 5 = some [.sc (.int .i64 m)]) (hgs : gl 1 = some ((vtx stmtW).map AV.sc)) (s : Txt) (hbig : s.length ≤ 9223372036854775807) :
    FnOk Tryz.prog gl 3 [tx s] (fun _ z _ => z = bv true) := by
  refine FnOk.of_sem Tryz.func3 rfl (by kernel_rfl) (rs := [.tmp 2]) rfl Tryz.ntmps3 (Nat.le_of_ble_eq_true rfl) fun C w g root => ?_
  by_cases hlen : 1048576 < s.length
  · have hl1 : (1048576 : Int) < s.length := by omega
    have fx :=  hl1
    refine k_run ?_
    clear fx
    refine e_ret [] .nil (by simp; rfl) (by simp)
  have hl1 : ¬ (1048576 : Int) < s.length := by omega
  have hsa : FnOk Tryz.prog gl 9 [tx s] (fun r y H' => y = .tup [.agg [.hs r 4 0 ((parseT s).getD []).length], bv (parseT s).isSome] ∧ OwnP H' r ((parseT s).getD [])) :=
    FnE.mono (spec_ParseProgram_fn gl s (by omega)) (fun _ _ _ ⟨q, h1, h2, h3⟩ => by subst h3; exact ⟨h1, h2⟩) (fun _ _ _ h => h)
  have hia : FnOk Tryz.prog gl 10 [tx s] (fun r y H' => y = .tup [.agg [.hs r 4 0 ((parseT s).getD []).length], bv (parseT s).isSome] ∧ OwnP H' r ((parseT s).getD [])) :=
    FnE.mono (ParseProgram_fn gl hgm hgs s (by omega)) (fun _ _ _ ⟨q, h1, h2, h3⟩ => by subst h3; exact ⟨h1, h2⟩) (fun _ _ _ h => h)
  have hG := parseT_sml (s := s)
  generalize (parseT s).isSome = ok at hsa hia
  generalize (parseT s).getD [] = G at hsa hia hG
  have hGl := hG.len
  have hcG := cntTo_le hG G.length
  have heq := eqProgram_fn gl G G hG hG
  simp only [decide_true] at heq
  have hk2 : ¬ 1 + (cnt G : Int) < 0 := by omega
  have fx :=  hl1
  have e1 := hsa
  refine k_run ?_
  clear fx e1
  rintro K hK y H1 ⟨rfl, hO⟩
  obtain ⟨a1, a2, a3⟩ := hO.hcln
  refine ⟨by simp, ?_⟩
  have fx :=  a1
  have e1 := hia
  refine k_run ?_
  clear fx e1
  rintro K hK y H2 ⟨rfl, hO2⟩
  obtain ⟨b1, b2, b3⟩ := hO2.hcln
  refine ⟨by simp, ?_⟩
  have fx := And.intro a1 <| And.intro b1 <| @bne_def
  have c1 := heq
  refine k_run ?_
  clear fx c1
  intro K hK
  refine o_abs (fun st => BoxP st 3 G ∧ st.tm 4 = bv ok ∧ BoxP st 5 G ∧ st.tm 33 = .agg [.hs (.c (.s 5) 0 0) 4 0 G.length] ∧ st.tm 34 = iv 1 ∧ st.tm 0 = tx s)
    ⟨⟨by simp, by simp, ⟨by simp [a1], fun j r hj => by simp [a2 j r hj], fun j r hj => by simp [a3 j r hj]⟩⟩, by simp, ⟨by simp, by simp, ⟨by simp [b1], fun j r hj => by simp [b2 j r hj], fun j r hj => by simp [b3 j r hj]⟩⟩, by simp, by simp, by simp⟩ ?_
  clear hO a1 a2 a3 hO2 b1 b2 b3
  rintro st ⟨⟨h3, hp3, ⟨a1, a2, a3⟩⟩, h4, ⟨h5, hp5, ⟨b1, b2, b3⟩⟩, h33, h34, h0⟩
  have fx := And.intro h33 h34
  refine x_mutc (.c (.s 5) 0 0) (.u 0 0 0) (hext := rfl) (hs := by simp [b1]) (hF := markProgram_fn _ _ G 1 hG ⟨by simp [b1], fun j r hj => by simp [b2 j r hj], fun j r hj => by simp [b3 j r hj]⟩ (by simp) (by decide)) (h := ?_)
  rintro y H7 ⟨rfl, ⟨d1, d2, d3⟩⟩
  clear fx
  have hMl : (markP G 1).length = G.length := by simp [markP]
  refine s_abs (fun st => BoxP st 3 G ∧ st.tm 4 = bv ok ∧ BoxP st 5 (markP G 1) ∧ st.tm 35 = iv (1 + cnt G) ∧ st.tm 0 = tx s)
    ⟨⟨by simp [h3], by simp [hp3], ⟨by simp [a1], fun j r hj => by simp [a2 j r hj], fun j r hj => by simp [a3 j r hj]⟩⟩, by simp [h4],
      ⟨by simp [h5], by simp [hp5, hMl], ⟨by simp [d1], fun j r hj => by simp [d2 j r hj], fun j r hj => by simp [d3 j r hj]⟩⟩, by simp, by simp [h0]⟩ ?_
  clear h3 hp3 a1 a2 a3 h4 h5 hp5 b1 b2 b3 h33 h34 h0 d1 d2 d3
  rintro st ⟨⟨h3, hp3, ⟨a1, a2, a3⟩⟩, h4, ⟨h5, hp5, ⟨b1, b2, b3⟩⟩, h35, h0⟩
  have fx := And.intro h35 <| And.intro hk2 <| And.intro h5 <| And.intro hp5 <| And.intro h0 <| And.intro b1 <| @bne_def
  have c1 := heldProgram_fn gl G 1 hG (by decide)
  have e1 := hia
  refine k_run ?_
  clear fx c1 e1
  rintro K hK y H8 ⟨rfl, hO⟩
  obtain ⟨ho1, ho2, ho3⟩ := hO.hcln
  refine ⟨by simp, ?_⟩
  have fx := And.intro h3 <| And.intro hp3 <| And.intro h4 <| And.intro h5 <| And.intro hp5 <| And.intro a1 <| And.intro b1 <| And.intro ho1 <| And.intro hk2 <| @bne_def
  have c1 := heq
  have c2 := heldProgram_fn gl G 1 hG (by decide)
  refine k_run ?_
  clear fx c1 c2
  refine e_ret [] .nil (by simp; rfl) (by simp)
end Go.Proofs.YtmaoicgfcngciaaGreatDoor
end
