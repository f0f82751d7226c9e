/-
  Own texts, joined by merge.py: Gn, Gp.
-/
import Derived.Test.YtopgafhjmbfaoaaBE
import Derived.Test.YtopgafhjmbfaoaaA7

section
/-
  The reference's small functions behind RenameIn: what they return.
-/
set_option maxRecDepth 100000
set_option maxHeartbeats 1000000
set_option linter.unusedSimpArgs false
namespace Go.Proofs.Ytopgafhjmbfaoaa
open Go Go.Hm Go.Proofs

theorem swap_fn (gl) (n x y : Int) : FnOk Try.prog gl 46 [iv n, iv x, iv y] (fun _ z _ => z = iv (swapI n x y)) := by
  refine FnOk.of_sem Try.func46 rfl (by kernel_rfl) (rs := [.tmp 6]) rfl Try.ntmps46 (Nat.le_of_ble_eq_true rfl) fun C w g root => ?_
  cases hc : (n == x)
  all_goals
    all_goals have fx :=  hc
    repeat' (first
     | refine w_seq ?_ | refine w_skip ?_ | refine w_reg fun K hK => ?_
     | ((with_reducible refine s_end hK ?_); clear hK K)
     | (with_reducible first | refine then_normal ?_ | refine then_ret ?_)
     | refine w_ret ?_
     | (with_reducible first | refine s_none ?_ | refine x_assign (h := ?_))
     | (with_reducible refine x_q (h := ?_))
     | refine x_condt (h1 := ?_) | refine x_condf (h1 := ?_)
     | fail)
    all_goals try clear fx
    refine e_ret [] .nil (by simp; rfl) ?_
    simp at hc
    simp [swapI, hc]

theorem spec_renamed_fn (gl) (s : Stm) (x y : Int) : FnOk Try.prog gl 47 [s.av, iv x, iv y] (fun _ z _ => z = (s.ren x y).av) := by
  obtain ⟨kind, to, a, b⟩ := s
  refine FnOk.of_sem Try.func47 rfl (by kernel_rfl) (rs := [.cell 6 69]) rfl Try.ntmps47 (Nat.le_of_ble_eq_true rfl) fun C w g root => ?_
  all_goals have fx := fx0
  repeat' (first
   | refine w_seq ?_ | refine w_block ?_ | refine w_skip ?_ | refine w_reg fun K hK => ?_
   | ((with_reducible refine s_end hK ?_); clear hK K)
   | (with_reducible first | refine then_normal ?_ | refine in_normal ?_ | refine then_ret ?_ | refine in_ret ?_)
   | refine w_ret ?_
   | (with_reducible refine s_none ?_)
   | ((with_reducible refine g_id ?_); refine x_guard (h := ?_))
   | (with_reducible first | refine gx_tt ?_ | refine gx_ff ?_ | refine x_tf (h := ?_) | refine x_ft (h := ?_) | refine x_u (h := ?_) | refine x_assign (h := ?_) | refine x_box (h := ?_) | refine x_alloc (h := ?_) | refine x_store0 (h := ?_))
   | ((with_reducible refine o_id 90 rfl ?_); refine x_call (hF := sets_fn _ ⟨kind, to, a, b⟩) (h := ?_))
   | ((with_reducible refine o_id 46 rfl ?_); refine x_call (hF := swap_fn _ _ x y) (h := ?_))
   | (with_reducible refine x_q (h := ?_))
   | (with_reducible refine gx_s (fun ht => ?_) (fun ht => ?_))
   | refine x_condt (h1 := ?_) | refine x_condf (h1 := ?_)
   | refine x_if (h1 := fun ht => ?_) (h2 := fun ht => ?_)
   | fail)
  all_goals try clear fx
  all_goals refine e_ret [] .nil (by simp; rfl) ?_
  all_goals simp_all [Stm.ren]
  all_goals (intro h; exfalso; simp only [Stm.sets] at h; omega)

theorem inside_fn (gl) (p : Prg) (c b : Nat) (hs : Sml p) (hh : Heads p) (hc : c < p.length) : FnOk Try.prog gl 42 [pav p, iv c, iv b] (fun _ z _ => z = bv (inside p c b)) := by
  refine FnOk.of_sem Try.func42 rfl (by kernel_rfl) (rs := [.tmp 6]) rfl Try.ntmps42 (Nat.le_of_ble_eq_true rfl) fun C w g root => ?_
  all_goals have fx := fx0
  repeat' (first
   | refine w_seq ?_ | refine w_block ?_ | refine w_skip ?_ | refine w_reg fun K hK => ?_
   | ((with_reducible refine s_end hK ?_); clear hK K)
   | (with_reducible first | refine then_normal ?_ | refine in_normal ?_ | refine then_exit ?_ | refine in_exit ?_ | refine then_ret ?_ | refine in_ret ?_ | refine in_other (by decide) ?_)
   | refine w_exit ?_
   | refine w_ret ?_
   | (with_reducible first | refine s_none ?_ | refine x_assign (h := ?_) | refine x_box (h := ?_))
   | (with_reducible refine x_q (h := ?_))
   | refine x_condt (h1 := ?_) | refine x_condf (h1 := ?_)
   | fail)
  all_goals try clear fx
  refine w_loop (fun n st => ∃ j : Int, n = (j + 1).toNat ∧ -1 ≤ j ∧ j < p.length ∧ inside p j b = inside p c b ∧ st.tm 1 = iv j ∧ st.tm 2 = iv b ∧ st.tm 3 = .pt (.s 3) 0 ∧ st.hp (.s 3) = some (.row 1 [[ksl p]])) (c + 1) ?_ ?_
  · exact ⟨c, by omega, by omega, by omega, rfl, by simp⟩
  rintro n st - - ⟨j, rfl, hj1, hj2, ho, h1, h2, h3, hp3⟩
  all_goals have fx := And.intro h1 <| And.intro h2 <| And.intro h3 <| hp3
  repeat' (first
   | refine w_seq ?_ | refine w_block ?_ | refine w_skip ?_ | refine w_reg fun K hK => ?_
   | ((with_reducible refine s_end hK ?_); clear hK K)
   | (with_reducible first | refine then_normal ?_ | refine in_normal ?_ | refine then_exit ?_ | refine in_exit ?_ | refine then_ret ?_ | refine in_ret ?_ | refine in_other (by decide) ?_)
   | refine w_exit ?_
   | refine w_ret ?_
   | (with_reducible first | refine s_none ?_ | refine x_assign (h := ?_) | refine x_box (h := ?_))
   | (with_reducible refine x_q (h := ?_))
   | refine x_condt (h1 := ?_) | refine x_condf (h1 := ?_)
   | fail)
  all_goals try clear fx
  refine w_if (by simp []; first | done | rfl | exact (Bool.not_not _).symm) (fun ht => ?_) (fun hf => ?_)
  · have hj0 : (b : Int) < j := by simpa using ht
    obtain ⟨j, rfl⟩ : ∃ i : Nat, j = i := ⟨j.toNat, by omega⟩
    obtain ⟨q, hq⟩ : ∃ q, p[j]? = some q := ⟨_, List.getElem?_eq_getElem (by omega)⟩
    obtain ⟨hq1, hq2, _⟩ := hh j q hq
    all_goals have fx := And.intro h1 <| And.intro h2 <| And.intro h3 <| And.intro hp3 <| hq
    repeat' (first
     | refine w_seq ?_ | refine w_block ?_ | refine w_skip ?_ | refine w_reg fun K hK => ?_
     | ((with_reducible refine s_end hK ?_); clear hK K)
     | (with_reducible first | refine then_normal ?_ | refine in_normal ?_ | refine then_exit ?_ | refine in_exit ?_ | refine then_ret ?_ | refine in_ret ?_ | refine in_other (by decide) ?_)
     | refine w_exit ?_
     | refine w_ret ?_
     | (with_reducible first | refine s_none ?_ | refine x_assign (h := ?_) | refine x_box (h := ?_))
     | (with_reducible refine x_q (h := ?_))
     | refine x_condt (h1 := ?_) | refine x_condf (h1 := ?_)
     | fail)
    all_goals try clear fx
    refine ⟨(q.parent + 1).toNat, by omega, q.parent, rfl, hq1, by omega, ?_, by simp [h2, h3, hp3]⟩
    rw [← ho, inside_step hh (by omega) hq hj0]
  · have hj : j ≤ b := by simpa using hf
    all_goals have fx := And.intro h1 <| h2
    repeat' (first
     | refine w_seq ?_ | refine w_block ?_ | refine w_skip ?_ | refine w_reg fun K hK => ?_
     | ((with_reducible refine s_end hK ?_); clear hK K)
     | (with_reducible first | refine then_normal ?_ | refine in_normal ?_ | refine then_exit ?_ | refine in_exit ?_ | refine then_ret ?_ | refine in_ret ?_ | refine in_other (by decide) ?_)
     | refine w_exit ?_
     | refine w_ret ?_
     | (with_reducible first | refine s_none ?_ | refine x_assign (h := ?_) | refine x_box (h := ?_))
     | (with_reducible refine x_q (h := ?_))
     | refine x_condt (h1 := ?_) | refine x_condf (h1 := ?_)
     | fail)
    all_goals try clear fx
    rw [inside_end hj] at ho
    refine e_ret [] .nil (by simp; rfl) ?_
    rw [← ho]
    rfl

theorem read_fnU (gl) (p : Prg) (b : Nat) (k : Blk) (hk : p[b]? = some k) (hs : BSm k) : FnOk Try.prog gl 71 [pav p, iv b] (fun r y H' => y = .hs r 1 0 k.rd.length ∧ H' r = some (.row 1 (irows k.rd))) := read_fn gl p b k hk hs.body
theorem used_fn (gl) (p : Prg) (b : Nat) (k : Blk) (hk : p[b]? = some k) (hs : BSm k) : FnOk Try.prog gl 44 [pav p, iv b] (fun r y H' => y = .hs r 1 0 k.us.length ∧ H' r = some (.row 1 (irows k.us))) := by
  have l1 := k.rd_len
  have l2 := k.bd_len
  have l3 := k.dc_len 9
  have l4 := k.dc_len 10
  have t1 : (k.rd ++ k.bd).take (k.rd.length + k.bd.length) = k.rd ++ k.bd := List.take_of_length_le (by simp)
  have t2 : (k.rd ++ (k.bd ++ k.dc 9)).take (k.rd.length + k.bd.length + (k.dc 9).length) = k.rd ++ (k.bd ++ k.dc 9) := List.take_of_length_le (by simp; omega)
  have hu : k.us = sorted (k.rd ++ (k.bd ++ (k.dc 9 ++ k.dc 10))) := by simp [Blk.us]
  rw [hu]
  refine FnOk.of_sem Try.func44 rfl (by kernel_rfl) (rs := [.tmp 4]) rfl Try.ntmps44 (Nat.le_of_ble_eq_true rfl) fun C w g root => ?_
  all_goals have fx := And.intro hk <| And.intro t1 <| t2
  repeat' (first
   | refine w_seq ?_ | refine w_reg fun K hK => ?_
   | ((with_reducible refine s_end hK ?_); clear hK K)
   | (with_reducible first | refine then_normal ?_ | refine then_ret ?_ | refine s_nil ?_)
   | refine w_ret ?_
   | (with_reducible first | refine s_none ?_ | refine x_assign (h := ?_) | refine x_box (h := ?_) | refine x_append0 (T := 41) (h := ?_) | refine x_append (T := 41) (h := ?_))
   | ((with_reducible refine o_id 71 rfl ?_); refine x_callh (hF := read_fnU _ p b k hk hs) (h := ?_))
   | ((with_reducible refine o_id 73 rfl ?_); refine x_callh (hF := bound_fn _ p b k hk hs) (h := ?_))
   | ((with_reducible refine o_id 68 rfl ?_); refine x_callh (hF := declared_fn _ p b k _ hk hs) (h := ?_))
   | ((with_reducible refine o_id 89 rfl ?_); refine x_callh (hF := sorted_fn _ (k.rd ++ (k.bd ++ (k.dc 9 ++ k.dc 10))) (by simp; omega)) (h := ?_))
   | (with_reducible refine x_q (h := ?_))
   | (refine w_sch (id := 1) (.q 0 <| .q 1 <| .q 3 <| .q 4 <| .q 7 <| .q 8 <| .q 11 <| .q 12 <| .l 2 [12, 11, 8, 7, 4, 3] <| .l 5 [12, 11, 8, 7] <| .l 6 [12, 11, 8, 7] <| .l 9 [12, 11] <| .l 10 [12, 11] <| .l 13 [] <| .l 14 [] <| .l 15 [] <| .l 16 [] <| .done) mixed (by kernel_rfl) (by kernel_rfl) fun K hK => ?_)
   | ((with_reducible refine a_end hK ?_); clear hK K)
   | ((with_reducible refine a_id ?_); first | refine xa_q (h := ?_) | refine xa_qt (h := ?_) | refine xa_qf (h := ?_))
   | ((with_reducible refine a_id ?_); refine xa_gq (h1 := fun ht => ?_) (h2 := fun ht => ?_))
   | refine a_l rfl ?_ | refine a_l2 ?_ ?_ | (with_reducible refine And.intro ?_ ?_) | exact st_nil | refine xa_st (h2 := ?_)
   | fail)
  all_goals try clear fx
  all_goals
    exact e_list (t := 4) (by first | (simp []; done) | (simp []; rfl)) (by first | (simp []; done) | (simp []; rfl)) (by simp)

theorem validAt_fn (gl) (p : Prg) (b : Int) (hs : Sml p) : FnOk Try.prog gl 86 [pav p, iv b] (fun _ y _ => y = bv (shapeOk p && (decide (0 ≤ b) && decide (b ≤ (p.length : Int) - 1)))) := by
  have hpl := hs.len
  have w2 : IntKind.i64.wrap ((p.length : Int) - 1) = p.length - 1 := wrp (by omega) (by omega)
  refine FnOk.of_sem Try.func86 rfl (by kernel_rfl) (rs := [.tmp 4]) rfl Try.ntmps86 (Nat.le_of_ble_eq_true rfl) fun C w g root => ?_
  all_goals have fx :=  w2
  repeat' (first
   | refine w_seq ?_ | refine w_reg fun K hK => ?_
   | ((with_reducible refine s_end hK ?_); clear hK K)
   | (with_reducible first | refine then_normal ?_ | refine then_ret ?_)
   | refine w_ret ?_
   | (with_reducible refine s_none ?_)
   | ((with_reducible refine g_id ?_); refine x_guard (h := ?_))
   | (with_reducible first | refine gx_tt ?_ | refine gx_ff ?_ | refine x_tf (h := ?_) | refine x_ft (h := ?_) | refine x_u (h := ?_) | refine x_assign (h := ?_) | refine x_box (h := ?_))
   | ((with_reducible refine o_id 67 rfl ?_); refine x_call (hF := validShape_fn _ p hs) (h := ?_))
   | ((with_reducible refine o_id 87 rfl ?_); refine x_call (hF := inRange_fn _ _ _ _) (h := ?_))
   | (with_reducible refine x_q (h := ?_))
   | (with_reducible refine gx_s (fun ht => ?_) (fun ht => ?_))
   | refine x_if (h1 := fun ht => ?_) (h2 := fun ht => ?_)
   | fail)
  all_goals try clear fx
  all_goals refine e_ret [] .nil (by simp; rfl) ?_
  all_goals simp_all

theorem validUse_fn (gl) (p : Prg) (b x : Int) (hs : Sml p) : FnOk Try.prog gl 39 [pav p, iv b, iv x] (fun _ y _ => y = bv ((shapeOk p && (decide (0 ≤ b) && decide (b ≤ (p.length : Int) - 1))) && (decide (0 ≤ x) && decide (x ≤ 7)))) := by
  refine FnOk.of_sem Try.func39 rfl (by kernel_rfl) (rs := [.tmp 6]) rfl Try.ntmps39 (Nat.le_of_ble_eq_true rfl) fun C w g root => ?_
  all_goals have fx := fx0
  repeat' (first
   | refine w_seq ?_ | refine w_reg fun K hK => ?_
   | ((with_reducible refine s_end hK ?_); clear hK K)
   | (with_reducible first | refine then_normal ?_ | refine then_ret ?_)
   | refine w_ret ?_
   | (with_reducible refine s_none ?_)
   | ((with_reducible refine g_id ?_); refine x_guard (h := ?_))
   | (with_reducible first | refine gx_tt ?_ | refine gx_ff ?_ | refine x_tf (h := ?_) | refine x_ft (h := ?_) | refine x_u (h := ?_) | refine x_assign (h := ?_) | refine x_box (h := ?_))
   | ((with_reducible refine o_id 86 rfl ?_); refine x_call (hF := validAt_fn _ p b hs) (h := ?_))
   | ((with_reducible refine o_id 40 rfl ?_); refine x_call (hF := spec_isName_fn _ _) (h := ?_))
   | (with_reducible refine x_q (h := ?_))
   | (with_reducible refine gx_s (fun ht => ?_) (fun ht => ?_))
   | refine x_if (h1 := fun ht => ?_) (h2 := fun ht => ?_)
   | fail)
  all_goals try clear fx
  all_goals refine e_ret [] .nil (by simp; rfl) ?_
  all_goals simp_all
  all_goals (intro h1 h2 h3; have := ht h1 h2; omega)
end Go.Proofs.Ytopgafhjmbfaoaa
end

section
/-
  The reference's list of the blocks that use a function's name: what it is.
-/
set_option maxRecDepth 100000
set_option maxHeartbeats 1000000
set_option linter.unusedSimpArgs false
namespace Go.Proofs.Ytopgafhjmbfaoaa
open Go Go.Hm Go.Proofs

theorem touched_fn (gl) (p : Prg) (b : Nat) (x : Int) (hs : Sml p) (hh : Heads p) : FnOk Try.prog gl 45 [pav p, iv b, iv x] (fun r y H' => y = .hs r 1 0 (touched p b x).length ∧ H' r = some (.row 1 (irows (touched p b x)))) := by
  have hpl := hs.len
  refine FnOk.of_sem Try.func45 rfl (by kernel_rfl) (rs := [.tmp 6]) rfl Try.ntmps45 (Nat.le_of_ble_eq_true rfl) fun C w g root => ?_
  all_goals have fx := fx0
  repeat' (first
   | refine w_seq ?_ | refine w_block ?_ | refine w_skip ?_ | refine w_reg fun K hK => ?_
   | ((with_reducible refine s_end hK ?_); clear hK K)
   | (with_reducible first | refine then_normal ?_ | refine in_normal ?_ | refine then_exit ?_ | refine in_exit ?_ | refine then_ret ?_ | refine in_ret ?_ | refine in_other (by decide) ?_)
   | refine w_exit ?_
   | refine w_ret ?_
   | (with_reducible refine s_none ?_)
   | ((with_reducible refine g_id ?_); refine x_guard (h := ?_))
   | (with_reducible first | refine gx_tt ?_ | refine gx_ff ?_ | refine x_tf (h := ?_) | refine x_ft (h := ?_) | refine x_u (h := ?_) | refine x_assign (h := ?_) | refine x_box (h := ?_) | refine x_append0 (T := 41) (h := ?_) | refine x_append (T := 41) (h := ?_) | refine x_build (h := ?_))
   | (with_reducible refine x_q (h := ?_))
   | (with_reducible refine gx_s (fun ht => ?_) (fun ht => ?_))
   | refine x_condt (h1 := ?_) | refine x_condf (h1 := ?_)
   | fail)
  all_goals try clear fx
  refine w_loop (fun n st => ∃ i : Nat, n = p.length - i ∧ i ≤ p.length ∧ st.tm 1 = iv b ∧ st.tm 2 = iv x ∧ st.tm 3 = .pt (.s 3) 0 ∧ st.hp (.s 3) = some (.row 1 [[ksl p]]) ∧ st.tm 8 = iv i ∧ st.tm 7 = .hs (.s 7) 1 0 (touchTo p b x i).length ∧ st.hp (.s 7) = some (.row 1 (irows (touchTo p b x i)))) p.length ?_ ?_
  · exact ⟨0, by simp [touchTo]⟩
  rintro n st - - ⟨i, rfl, hi, h1, h2, h3, hp3, h8, h7, hp7⟩
  have htl := touchTo_len (p := p) (b := b) (x := x) i
  all_goals have fx := And.intro h1 <| And.intro h2 <| And.intro h3 <| And.intro hp3 <| And.intro h8 <| And.intro h7 <| hp7
  repeat' (first
   | refine w_seq ?_ | refine w_block ?_ | refine w_skip ?_ | refine w_reg fun K hK => ?_
   | ((with_reducible refine s_end hK ?_); clear hK K)
   | (with_reducible first | refine then_normal ?_ | refine in_normal ?_ | refine then_exit ?_ | refine in_exit ?_ | refine then_ret ?_ | refine in_ret ?_ | refine in_other (by decide) ?_)
   | refine w_exit ?_
   | refine w_ret ?_
   | (with_reducible refine s_none ?_)
   | ((with_reducible refine g_id ?_); refine x_guard (h := ?_))
   | (with_reducible first | refine gx_tt ?_ | refine gx_ff ?_ | refine x_tf (h := ?_) | refine x_ft (h := ?_) | refine x_u (h := ?_) | refine x_assign (h := ?_) | refine x_box (h := ?_) | refine x_append0 (T := 41) (h := ?_) | refine x_append (T := 41) (h := ?_) | refine x_build (h := ?_))
   | (with_reducible refine x_q (h := ?_))
   | (with_reducible refine gx_s (fun ht => ?_) (fun ht => ?_))
   | refine x_condt (h1 := ?_) | refine x_condf (h1 := ?_)
   | fail)
  all_goals try clear fx
  refine w_if (by simp []; first | done | rfl | exact (Bool.not_not _).symm) (fun ht => ?_) (fun hf => ?_)
  · have hlt : i < p.length := by simpa using ht
    obtain ⟨k, hk⟩ : ∃ k, p[i]? = some k := ⟨_, List.getElem?_eq_getElem hlt⟩
    cases hm : decide (x ∈ k.us)
    · skip
      all_goals have fx := And.intro h1 <| And.intro h2 <| And.intro h3 <| And.intro hp3 <| And.intro h8 <| And.intro h7 <| And.intro hp7 <| And.intro hk <| hm
      repeat' (first
       | refine w_seq ?_ | refine w_block ?_ | refine w_skip ?_ | refine w_reg fun K hK => ?_
       | ((with_reducible refine s_end hK ?_); clear hK K)
       | (with_reducible first | refine then_normal ?_ | refine in_normal ?_ | refine then_exit ?_ | refine in_exit ?_ | refine then_ret ?_ | refine in_ret ?_ | refine in_other (by decide) ?_)
       | refine w_exit ?_
       | refine w_ret ?_
       | (with_reducible refine s_none ?_)
       | ((with_reducible refine g_id ?_); refine x_guard (h := ?_))
       | (with_reducible first | refine gx_tt ?_ | refine gx_ff ?_ | refine x_tf (h := ?_) | refine x_ft (h := ?_) | refine x_u (h := ?_) | refine x_assign (h := ?_) | refine x_box (h := ?_) | refine x_append0 (T := 41) (h := ?_) | refine x_append (T := 41) (h := ?_) | refine x_build (h := ?_))
       | ((with_reducible refine o_id 44 rfl ?_); refine x_callh (hF := used_fn _ p i k hk (hs.bsm hk)) (h := ?_))
       | ((with_reducible refine o_id 43 rfl ?_); refine x_call (hF := has_fn _ _ _ (Nat.le_trans (Blk.us_len _) (by decide))) (h := ?_))
       | (with_reducible refine x_q (h := ?_))
       | (with_reducible refine gx_s (fun ht => ?_) (fun ht => ?_))
       | refine x_condt (h1 := ?_) | refine x_condf (h1 := ?_)
       | fail)
      all_goals try clear fx
      have hn : touches p b x i = false := by simp [touches, hk, hm]
      refine ⟨p.length - (i + 1), by omega, i + 1, rfl, by omega, ?_⟩
      simp [h1, h2, h3, hp3, h7, hp7, touchTo, hn]
      exact wrp (by omega) (by omega)
    · cases ho : (owner p i x == (b : Int))
      · skip
        all_goals have fx := And.intro h1 <| And.intro h2 <| And.intro h3 <| And.intro hp3 <| And.intro h8 <| And.intro h7 <| And.intro hp7 <| And.intro hk <| And.intro hm <| ho
        repeat' (first
         | refine w_seq ?_ | refine w_block ?_ | refine w_skip ?_ | refine w_reg fun K hK => ?_
         | ((with_reducible refine s_end hK ?_); clear hK K)
         | (with_reducible first | refine then_normal ?_ | refine in_normal ?_ | refine then_exit ?_ | refine in_exit ?_ | refine then_ret ?_ | refine in_ret ?_ | refine in_other (by decide) ?_)
         | refine w_exit ?_
         | refine w_ret ?_
         | (with_reducible refine s_none ?_)
         | ((with_reducible refine g_id ?_); refine x_guard (h := ?_))
         | (with_reducible first | refine gx_tt ?_ | refine gx_ff ?_ | refine x_tf (h := ?_) | refine x_ft (h := ?_) | refine x_u (h := ?_) | refine x_assign (h := ?_) | refine x_box (h := ?_) | refine x_append0 (T := 41) (h := ?_) | refine x_append (T := 41) (h := ?_) | refine x_build (h := ?_))
         | ((with_reducible refine o_id 44 rfl ?_); refine x_callh (hF := used_fn _ p i k hk (hs.bsm hk)) (h := ?_))
         | ((with_reducible refine o_id 43 rfl ?_); refine x_call (hF := has_fn _ _ _ (Nat.le_trans (Blk.us_len _) (by decide))) (h := ?_))
         | ((with_reducible refine o_id 72 rfl ?_); refine x_call (hF := owner_fn _ p i k x hk hs hh) (h := ?_))
         | (with_reducible refine x_q (h := ?_))
         | (with_reducible refine gx_s (fun ht => ?_) (fun ht => ?_))
         | refine x_condt (h1 := ?_) | refine x_condf (h1 := ?_)
         | fail)
        all_goals try clear fx
        have ho' : ¬ owner p i x = (b : Int) := by simpa using ho
        have hn : touches p b x i = false := by simp [touches, hk, ho']
        refine ⟨p.length - (i + 1), by omega, i + 1, rfl, by omega, ?_⟩
        simp [h1, h2, h3, hp3, h7, hp7, touchTo, hn]
        exact wrp (by omega) (by omega)
      · skip
        all_goals have fx := And.intro h1 <| And.intro h2 <| And.intro h3 <| And.intro hp3 <| And.intro h8 <| And.intro h7 <| And.intro hp7 <| And.intro hk <| And.intro hm <| ho
        repeat' (first
         | refine w_seq ?_ | refine w_block ?_ | refine w_skip ?_ | refine w_reg fun K hK => ?_
         | ((with_reducible refine s_end hK ?_); clear hK K)
         | (with_reducible first | refine then_normal ?_ | refine in_normal ?_ | refine then_exit ?_ | refine in_exit ?_ | refine then_ret ?_ | refine in_ret ?_ | refine in_other (by decide) ?_)
         | refine w_exit ?_
         | refine w_ret ?_
         | (with_reducible refine s_none ?_)
         | ((with_reducible refine g_id ?_); refine x_guard (h := ?_))
         | (with_reducible first | refine gx_tt ?_ | refine gx_ff ?_ | refine x_tf (h := ?_) | refine x_ft (h := ?_) | refine x_u (h := ?_) | refine x_assign (h := ?_) | refine x_box (h := ?_) | refine x_append0 (T := 41) (h := ?_) | refine x_append (T := 41) (h := ?_) | refine x_build (h := ?_))
         | ((with_reducible refine o_id 44 rfl ?_); refine x_callh (hF := used_fn _ p i k hk (hs.bsm hk)) (h := ?_))
         | ((with_reducible refine o_id 43 rfl ?_); refine x_call (hF := has_fn _ _ _ (Nat.le_trans (Blk.us_len _) (by decide))) (h := ?_))
         | ((with_reducible refine o_id 72 rfl ?_); refine x_call (hF := owner_fn _ p i k x hk hs hh) (h := ?_))
         | (with_reducible refine x_q (h := ?_))
         | (with_reducible refine gx_s (fun ht => ?_) (fun ht => ?_))
         | refine x_condt (h1 := ?_) | refine x_condf (h1 := ?_)
         | fail)
        all_goals try clear fx
        have ho' : owner p i x = (b : Int) := by simpa using ho
        have hm' : x ∈ k.us := by simpa using hm
        have hn : touches p b x i = true := by simp [touches, hk, ho', hm']
        refine ⟨p.length - (i + 1), by omega, i + 1, rfl, by omega, ?_⟩
        simp [h1, h2, h3, hp3, h7, hp7, touchTo, hn]
        exact wrp (by omega) (by omega)
  · have hge : i = p.length := by
      have : ¬ i < p.length := by simpa using hf
      omega
    subst hge
    all_goals have fx := And.intro h1 <| And.intro h2 <| And.intro h3 <| And.intro hp3 <| And.intro h8 <| And.intro h7 <| hp7
    repeat' (first
     | refine w_seq ?_ | refine w_block ?_ | refine w_skip ?_ | refine w_reg fun K hK => ?_
     | ((with_reducible refine s_end hK ?_); clear hK K)
     | (with_reducible first | refine then_normal ?_ | refine in_normal ?_ | refine then_exit ?_ | refine in_exit ?_ | refine then_ret ?_ | refine in_ret ?_ | refine in_other (by decide) ?_)
     | refine w_exit ?_
     | refine w_ret ?_
     | (with_reducible refine s_none ?_)
     | ((with_reducible refine g_id ?_); refine x_guard (h := ?_))
     | (with_reducible first | refine gx_tt ?_ | refine gx_ff ?_ | refine x_tf (h := ?_) | refine x_ft (h := ?_) | refine x_u (h := ?_) | refine x_assign (h := ?_) | refine x_box (h := ?_) | refine x_append0 (T := 41) (h := ?_) | refine x_append (T := 41) (h := ?_) | refine x_build (h := ?_))
     | (with_reducible refine x_q (h := ?_))
     | (with_reducible refine gx_s (fun ht => ?_) (fun ht => ?_))
     | refine x_condt (h1 := ?_) | refine x_condf (h1 := ?_)
     | fail)
    all_goals try clear fx
    exact e_list (t := 6) (by first | (simp [hp7, touched]; done) | (simp [hp7, touched]; rfl)) (by first | (simp [hp7, touched]; done) | (simp [hp7, touched]; rfl)) (by simp)
end Go.Proofs.Ytopgafhjmbfaoaa
end
