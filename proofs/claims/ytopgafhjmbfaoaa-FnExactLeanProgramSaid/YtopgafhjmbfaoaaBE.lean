/-
  Own texts, joined by merge.py: Gk, Gl.
-/
import Derived.Test.YtopgafhjmbfaoaaBD
import Derived.Test.YtopgafhjmbfaoaaA4

section
/-
  Functions of the reference on names in blocks: what they return.
-/
set_option maxRecDepth 100000
set_option maxHeartbeats 1000000
set_option linter.unusedSimpArgs false
namespace Go.Proofs.Ytopgafhjmbfaoaa
open Go Go.Hm Go.Proofs

theorem read_fn' (gl) (p : Prg) (b : Nat) (k : Blk) (hk : p[b]? = some k) (hs : BSm k) : FnOk Try.prog gl 71 [pav p, iv b] (fun r y H' => y = .hs r 1 0 k.rd.length ∧ H' r = some (.row 1 (irows k.rd))) := read_fn gl p b k hk hs.body

theorem ownersOf_fn (gl) (p : Prg) (hs : Sml p) (hh : Heads p) : FnOk Try.prog gl 28 [pav p] (fun r y H' => y = .hs r 1 0 (ownersOf p).length ∧ IsTab H' r (ownersOf p)) := by
  have hpl := hs.len
  refine FnOk.of_sem Try.func28 rfl (by kernel_rfl) (rs := [.tmp 2]) rfl Try.ntmps28 (Nat.le_of_ble_eq_true rfl) fun C w g root => ?_
  all_goals have fx := fx0
  repeat' (first
   | refine w_seq ?_ | refine w_block ?_ | refine w_skip ?_ | refine w_reg fun K hK => ?_
   | ((with_reducible refine s_end hK ?_); clear hK K)
   | (with_reducible first | refine then_normal ?_ | refine in_normal ?_ | refine then_exit ?_ | refine in_exit ?_ | refine then_ret ?_ | refine in_ret ?_ | refine s_nil ?_ | refine in_other (by decide) ?_)
   | refine w_exit ?_
   | refine w_ret ?_
   | (with_reducible first | refine s_none ?_ | refine x_assign (h := ?_) | refine x_box (h := ?_) | refine x_append0 (T := 41) (h := ?_) | refine x_append (T := 41) (h := ?_) | refine x_append0 (T := 52) (h := ?_) | refine x_appendC (T := 52) (h := ?_) | refine x_build (h := ?_))
   | (with_reducible refine x_q (h := ?_))
   | refine x_condt (h1 := ?_) | refine x_condf (h1 := ?_)
   | (refine w_sch (id := 6) (.q 0 <| .q 1 <| .q 3 <| .q 4 <| .l 2 [4, 3] <| .l 5 [] <| .l 6 [] <| .l 7 [] <| .done) mixed (by kernel_rfl) (by kernel_rfl) fun K hK => ?_)
   | ((with_reducible refine a_end hK ?_); clear hK K)
   | ((with_reducible refine a_id ?_); first | refine xa_q (h := ?_) | refine xa_qt (h := ?_) | refine xa_qf (h := ?_))
   | ((with_reducible refine a_id ?_); refine xa_gq (h1 := fun ht => ?_) (h2 := fun ht => ?_))
   | refine a_l rfl ?_ | refine a_l2 ?_ ?_ | (with_reducible refine And.intro ?_ ?_) | exact st_nil | refine xa_st (h2 := ?_)
   | fail)
  all_goals try clear fx
  refine w_loop (fun n st => ∃ i : Nat, n = p.length - i ∧ i ≤ p.length ∧ st.tm 1 = .pt (.s 1) 0 ∧ st.hp (.s 1) = some (.row 1 [[ksl p]]) ∧ st.tm 4 = iv i ∧ ∃ T : List (List Int), T = (List.range i).map (ownersAt p) ∧ T.length = i ∧ st.tm 3 = .hs (.s 3) 1 0 T.length ∧ IsTab st.hp (.s 3) T) p.length ?_ ?_
  · exact ⟨0, by omega, by omega, by simp, by simp, by simp, [], rfl, rfl, by simp, by simp, by simp⟩
  rintro n st - - ⟨i, rfl, hi, h1, hp1, h4, T, hT, hTl, h3, ⟨hp3, hpr⟩⟩
  all_goals have fx := And.intro h1 <| And.intro hp1 <| h4
  repeat' (first
   | refine w_seq ?_ | refine w_block ?_ | refine w_skip ?_ | refine w_reg fun K hK => ?_
   | ((with_reducible refine s_end hK ?_); clear hK K)
   | (with_reducible first | refine then_normal ?_ | refine in_normal ?_ | refine then_exit ?_ | refine in_exit ?_ | refine then_ret ?_ | refine in_ret ?_ | refine s_nil ?_ | refine in_other (by decide) ?_)
   | refine w_exit ?_
   | refine w_ret ?_
   | (with_reducible first | refine s_none ?_ | refine x_assign (h := ?_) | refine x_box (h := ?_) | refine x_append0 (T := 41) (h := ?_) | refine x_append (T := 41) (h := ?_) | refine x_append0 (T := 52) (h := ?_) | refine x_appendC (T := 52) (h := ?_) | refine x_build (h := ?_))
   | (with_reducible refine x_q (h := ?_))
   | refine x_condt (h1 := ?_) | refine x_condf (h1 := ?_)
   | (refine w_sch (id := 6) (.q 0 <| .q 1 <| .q 3 <| .q 4 <| .l 2 [4, 3] <| .l 5 [] <| .l 6 [] <| .l 7 [] <| .done) mixed (by kernel_rfl) (by kernel_rfl) fun K hK => ?_)
   | ((with_reducible refine a_end hK ?_); clear hK K)
   | ((with_reducible refine a_id ?_); first | refine xa_q (h := ?_) | refine xa_qt (h := ?_) | refine xa_qf (h := ?_))
   | ((with_reducible refine a_id ?_); refine xa_gq (h1 := fun ht => ?_) (h2 := fun ht => ?_))
   | refine a_l rfl ?_ | refine a_l2 ?_ ?_ | (with_reducible refine And.intro ?_ ?_) | exact st_nil | refine xa_st (h2 := ?_)
   | fail)
  all_goals try clear fx
  refine w_if (by simp []; first | done | rfl | exact (Bool.not_not _).symm) (fun ht => ?_) (fun hf => ?_)
  · have hlt : i < p.length := by simpa using ht
    obtain ⟨k, hk⟩ : ∃ k, p[i]? = some k := ⟨_, List.getElem?_eq_getElem hlt⟩
    clear ht
    have hrl := k.rd_len
    have hbl := k.bd_len
    all_goals have fx := And.intro h1 <| And.intro hp1 <| And.intro h4 <| hk
    repeat' (first
     | refine w_seq ?_ | refine w_block ?_ | refine w_skip ?_ | refine w_reg fun K hK => ?_
     | ((with_reducible refine s_end hK ?_); clear hK K)
     | (with_reducible first | refine then_normal ?_ | refine in_normal ?_ | refine then_exit ?_ | refine in_exit ?_ | refine then_ret ?_ | refine in_ret ?_ | refine s_nil ?_ | refine in_other (by decide) ?_)
     | refine w_exit ?_
     | refine w_ret ?_
     | (with_reducible first | refine s_none ?_ | refine x_assign (h := ?_) | refine x_box (h := ?_) | refine x_append0 (T := 41) (h := ?_) | refine x_append (T := 41) (h := ?_) | refine x_append0 (T := 52) (h := ?_) | refine x_appendC (T := 52) (h := ?_) | refine x_build (h := ?_))
     | ((with_reducible refine o_id 71 rfl ?_); refine x_callh (hF := read_fn' _ p i k hk (hs.bsm hk)) (h := ?_))
     | ((with_reducible refine o_id 73 rfl ?_); refine x_callh (hF := bound_fn _ p i k hk (hs.bsm hk)) (h := ?_))
     | (with_reducible refine x_q (h := ?_))
     | refine x_condt (h1 := ?_) | refine x_condf (h1 := ?_)
     | (refine w_sch (id := 6) (.q 0 <| .q 1 <| .q 3 <| .q 4 <| .l 2 [4, 3] <| .l 5 [] <| .l 6 [] <| .l 7 [] <| .done) mixed (by kernel_rfl) (by kernel_rfl) fun K hK => ?_)
     | ((with_reducible refine a_end hK ?_); clear hK K)
     | ((with_reducible refine a_id ?_); first | refine xa_q (h := ?_) | refine xa_qt (h := ?_) | refine xa_qf (h := ?_))
     | ((with_reducible refine a_id ?_); refine xa_gq (h1 := fun ht => ?_) (h2 := fun ht => ?_))
     | refine a_l rfl ?_ | refine a_l2 ?_ ?_ | (with_reducible refine And.intro ?_ ?_) | exact st_nil | refine xa_st (h2 := ?_)
     | fail)
    all_goals try clear fx
    refine w_loop (fun n st => ∃ x : Nat, n = 8 - x ∧ x ≤ 8 ∧ st.tm 1 = .pt (.s 1) 0 ∧ st.hp (.s 1) = some (.row 1 [[ksl p]]) ∧ st.tm 4 = iv i ∧ st.tm 3 = .hs (.s 3) 1 0 T.length ∧ IsTab st.hp (.s 3) T ∧ st.tm 6 = .hs (.s 6) 1 0 (k.rd ++ k.bd).length ∧ st.hp (.s 6) = some (.row 1 (irows (k.rd ++ k.bd))) ∧ st.tm 7 = iv x ∧
      ∃ R : List Int, R = (List.range x).map (fun x : Nat => if (x : Int) ∈ k.rd ++ k.bd then owner p i (x : Int) else -2) ∧ R.length = x ∧ st.tm 5 = .hs (.s 5) 1 0 R.length ∧ st.hp (.s 5) = some (.row 1 (irows R))) 8 ?_ ?_
    · refine ⟨0, by omega, by omega, by simp [h1], by simp [hp1], by simp [h4], by simp [h3], ⟨by simp [hp3], fun j r hj => by simp [hpr j r hj]⟩, by simp, by simp, by simp, [], rfl, rfl, by simp, by simp⟩
    clear h1 hp1 h4 h3 hp3 hpr
    rintro n st - - ⟨x, rfl, hx, h1, hp1, h4, h3, ⟨hp3, hpr⟩, h6, hp6, h7, R, hR, hRl, h5, hp5⟩
    all_goals have fx := And.intro h1 <| And.intro hp1 <| And.intro h4 <| And.intro h6 <| And.intro hp6 <| h7
    repeat' (first
     | refine w_seq ?_ | refine w_block ?_ | refine w_skip ?_ | refine w_reg fun K hK => ?_
     | ((with_reducible refine s_end hK ?_); clear hK K)
     | (with_reducible first | refine then_normal ?_ | refine in_normal ?_ | refine then_exit ?_ | refine in_exit ?_ | refine then_ret ?_ | refine in_ret ?_ | refine s_nil ?_ | refine in_other (by decide) ?_)
     | refine w_exit ?_
     | refine w_ret ?_
     | (with_reducible first | refine s_none ?_ | refine x_assign (h := ?_) | refine x_box (h := ?_) | refine x_append0 (T := 41) (h := ?_) | refine x_append (T := 41) (h := ?_) | refine x_append0 (T := 52) (h := ?_) | refine x_appendC (T := 52) (h := ?_) | refine x_build (h := ?_))
     | (with_reducible refine x_q (h := ?_))
     | refine x_condt (h1 := ?_) | refine x_condf (h1 := ?_)
     | (refine w_sch (id := 6) (.q 0 <| .q 1 <| .q 3 <| .q 4 <| .l 2 [4, 3] <| .l 5 [] <| .l 6 [] <| .l 7 [] <| .done) mixed (by kernel_rfl) (by kernel_rfl) fun K hK => ?_)
     | ((with_reducible refine a_end hK ?_); clear hK K)
     | ((with_reducible refine a_id ?_); first | refine xa_q (h := ?_) | refine xa_qt (h := ?_) | refine xa_qf (h := ?_))
     | ((with_reducible refine a_id ?_); refine xa_gq (h1 := fun ht => ?_) (h2 := fun ht => ?_))
     | refine a_l rfl ?_ | refine a_l2 ?_ ?_ | (with_reducible refine And.intro ?_ ?_) | exact st_nil | refine xa_st (h2 := ?_)
     | fail)
    all_goals try clear fx
    refine w_if (by simp []; first | done | rfl | exact (Bool.not_not _).symm) (fun ht => ?_) (fun hf => ?_)
    · have hx7 : (x : Int) ≤ 7 := by simpa using ht
      clear ht
      all_goals have fx := And.intro h1 <| And.intro hp1 <| And.intro h4 <| And.intro h6 <| And.intro hp6 <| And.intro h7 <| And.intro h5 <| And.intro hp5 <| hk
      repeat' (first
       | refine w_seq ?_ | refine w_block ?_ | refine w_skip ?_ | refine w_reg fun K hK => ?_
       | ((with_reducible refine s_end hK ?_); clear hK K)
       | (with_reducible first | refine then_normal ?_ | refine in_normal ?_ | refine then_exit ?_ | refine in_exit ?_ | refine then_ret ?_ | refine in_ret ?_ | refine s_nil ?_ | refine in_other (by decide) ?_)
       | refine w_exit ?_
       | refine w_ret ?_
       | (with_reducible first | refine s_none ?_ | refine x_assign (h := ?_) | refine x_box (h := ?_) | refine x_append0 (T := 41) (h := ?_) | refine x_append (T := 41) (h := ?_) | refine x_append0 (T := 52) (h := ?_) | refine x_appendC (T := 52) (h := ?_) | refine x_build (h := ?_))
       | ((with_reducible refine o_id 43 rfl ?_); refine x_call (hF := has_fn _ _ _ (by simp; omega)) (h := ?_))
       | ((with_reducible refine o_id 72 rfl ?_); refine x_call (hF := owner_fn _ p i k _ hk hs hh) (h := ?_))
       | (with_reducible refine x_q (h := ?_))
       | refine x_condt (h1 := ?_) | refine x_condf (h1 := ?_)
       | (refine w_sch (id := 6) (.q 0 <| .q 1 <| .q 3 <| .q 4 <| .l 2 [4, 3] <| .l 5 [] <| .l 6 [] <| .l 7 [] <| .done) mixed (by kernel_rfl) (by kernel_rfl) fun K hK => ?_)
       | ((with_reducible refine a_end hK ?_); clear hK K)
       | ((with_reducible refine a_id ?_); first | refine xa_q (h := ?_) | refine xa_qt (h := ?_) | refine xa_qf (h := ?_))
       | ((with_reducible refine a_id ?_); refine xa_gq (h1 := fun ht => ?_) (h2 := fun ht => ?_))
       | refine a_l rfl ?_ | refine a_l2 ?_ ?_ | (with_reducible refine And.intro ?_ ?_) | exact st_nil | refine xa_st (h2 := ?_)
       | refine x_if (h1 := fun ht => ?_) (h2 := fun ht => ?_)
       | fail)
      all_goals try clear fx
      all_goals simp at ht
      all_goals refine ⟨8 - (x + 1), by omega, x + 1, rfl, by omega, by simp [h1], by simp [hp1], by simp [h4], by simp [h3], ⟨by simp [hp3], fun j r hj => by simp [hpr j r hj]⟩, by simp [h6], by simp [hp6], by simp; exact wrp (by omega) (by omega), R ++ [if (x : Int) ∈ k.rd ++ k.bd then owner p i (x : Int) else -2], by rw [List.range_succ, List.map_append, ← hR]; rfl, by simp [hRl], by simp, by simp [ht]⟩
    · have hge : x = 8 := by
        have : ¬ (x : Int) ≤ 7 := by simpa using hf
        omega
      subst hge
      have hrow : ownersAt p i = R := by rw [hR]; simp only [ownersAt, hk, ownersRow]
      all_goals have fx := And.intro h1 <| And.intro hp1 <| And.intro h4 <| And.intro h3 <| And.intro hp3 <| And.intro h5 <| hp5
      repeat' (first
       | refine w_seq ?_ | refine w_block ?_ | refine w_skip ?_ | refine w_reg fun K hK => ?_
       | ((with_reducible refine s_end hK ?_); clear hK K)
       | (with_reducible first | refine then_normal ?_ | refine in_normal ?_ | refine then_exit ?_ | refine in_exit ?_ | refine then_ret ?_ | refine in_ret ?_ | refine s_nil ?_ | refine in_other (by decide) ?_)
       | refine w_exit ?_
       | refine w_ret ?_
       | (with_reducible first | refine s_none ?_ | refine x_assign (h := ?_) | refine x_box (h := ?_) | refine x_append0 (T := 41) (h := ?_) | refine x_append (T := 41) (h := ?_) | refine x_append0 (T := 52) (h := ?_) | refine x_appendC (T := 52) (h := ?_) | refine x_build (h := ?_))
       | (with_reducible refine x_q (h := ?_))
       | refine x_condt (h1 := ?_) | refine x_condf (h1 := ?_)
       | (refine w_sch (id := 6) (.q 0 <| .q 1 <| .q 3 <| .q 4 <| .l 2 [4, 3] <| .l 5 [] <| .l 6 [] <| .l 7 [] <| .done) mixed (by kernel_rfl) (by kernel_rfl) fun K hK => ?_)
       | ((with_reducible refine a_end hK ?_); clear hK K)
       | ((with_reducible refine a_id ?_); first | refine xa_q (h := ?_) | refine xa_qt (h := ?_) | refine xa_qf (h := ?_))
       | ((with_reducible refine a_id ?_); refine xa_gq (h1 := fun ht => ?_) (h2 := fun ht => ?_))
       | refine a_l rfl ?_ | refine a_l2 ?_ ?_ | (with_reducible refine And.intro ?_ ?_) | exact st_nil | refine xa_st (h2 := ?_)
       | fail)
      all_goals try clear fx
      refine ⟨p.length - (i + 1), by omega, i + 1, rfl, by omega, by simp [h1], by simp [hp1], by simp [h4]; exact wrp (by omega) (by omega), T ++ [R], by rw [List.range_succ, List.map_append, hT]; simp [hrow], by simp [hTl], by simp, ⟨?_, ?_⟩⟩
      · simp [tabRows_app]
      · intro j r hj
        rcases Nat.lt_or_ge j T.length with hlj | hgj
        · rw [List.getElem?_append_left hlj] at hj
          have hne : ¬ j = T.length := by omega
          simp [hpr j r hj, hne]
        · rw [List.getElem?_append_right hgj] at hj
          obtain rfl : j = T.length := by
            have := (List.getElem?_eq_some_iff.1 hj).1
            simp at this
            omega
          simp at hj
          subst hj
          simp [hp5]
  · have hge : i = p.length := by
      have : ¬ i < p.length := by simpa using hf
      omega
    have hTo : T = ownersOf p := by rw [hT, hge]; rfl
    subst hTo
    all_goals have fx := And.intro h3 <| hp3
    repeat' (first
     | refine w_seq ?_ | refine w_block ?_ | refine w_skip ?_ | refine w_reg fun K hK => ?_
     | ((with_reducible refine s_end hK ?_); clear hK K)
     | (with_reducible first | refine then_normal ?_ | refine in_normal ?_ | refine then_exit ?_ | refine in_exit ?_ | refine then_ret ?_ | refine in_ret ?_ | refine s_nil ?_ | refine in_other (by decide) ?_)
     | refine w_exit ?_
     | refine w_ret ?_
     | (with_reducible first | refine s_none ?_ | refine x_assign (h := ?_) | refine x_box (h := ?_) | refine x_append0 (T := 41) (h := ?_) | refine x_append (T := 41) (h := ?_) | refine x_append0 (T := 52) (h := ?_) | refine x_appendC (T := 52) (h := ?_) | refine x_build (h := ?_))
     | (with_reducible refine x_q (h := ?_))
     | refine x_condt (h1 := ?_) | refine x_condf (h1 := ?_)
     | (refine w_sch (id := 6) (.q 0 <| .q 1 <| .q 3 <| .q 4 <| .l 2 [4, 3] <| .l 5 [] <| .l 6 [] <| .l 7 [] <| .done) mixed (by kernel_rfl) (by kernel_rfl) fun K hK => ?_)
     | ((with_reducible refine a_end hK ?_); clear hK K)
     | ((with_reducible refine a_id ?_); first | refine xa_q (h := ?_) | refine xa_qt (h := ?_) | refine xa_qf (h := ?_))
     | ((with_reducible refine a_id ?_); refine xa_gq (h1 := fun ht => ?_) (h2 := fun ht => ?_))
     | refine a_l rfl ?_ | refine a_l2 ?_ ?_ | (with_reducible refine And.intro ?_ ?_) | exact st_nil | refine xa_st (h2 := ?_)
     | fail)
    all_goals try clear fx
    exact e_tab (t := 2) (by simp) ⟨by simp [hp3], fun j r hj => by simp [hpr j r hj]⟩
end Go.Proofs.Ytopgafhjmbfaoaa
end

section
/-
  Functions of the reference on names in blocks: what they return.
-/
set_option maxRecDepth 100000
set_option maxHeartbeats 1000000
set_option linter.unusedSimpArgs false
namespace Go.Proofs.Ytopgafhjmbfaoaa
open Go Go.Hm Go.Proofs

theorem copyProgram_fn (gl) (p : Prg) (hs : Sml p) : FnOk Try.prog gl 25 [pav p] (fun r y H' => y = .agg [.hs r 4 0 p.length] ∧ OwnP H' r p) := by
  have hpl := hs.len
  refine FnOk.of_sem Try.func25 rfl (by kernel_rfl) (rs := [.cell 2 28]) rfl Try.ntmps25 (Nat.le_of_ble_eq_true rfl) fun C w g root => ?_
  all_goals have fx := fx0
  repeat' (first
   | refine w_seq ?_ | refine w_block ?_ | refine w_skip ?_ | refine w_reg fun K hK => ?_
   | ((with_reducible refine s_end hK ?_); clear hK K)
   | (with_reducible first | refine then_normal ?_ | refine in_normal ?_ | refine then_exit ?_ | refine in_exit ?_ | refine then_ret ?_ | refine in_ret ?_ | refine s_nil ?_ | refine in_other (by decide) ?_)
   | refine w_exit ?_
   | refine w_ret ?_
   | (with_reducible first | refine s_none ?_ | refine x_assign (h := ?_) | refine x_box (h := ?_) | refine x_alloc (h := ?_) | refine x_store0 (h := ?_) | refine x_append0 (T := 47) (h := ?_) | refine x_append (T := 47) (h := ?_) | refine x_append0 (T := 26) (h := ?_) | refine x_appendC (T := 26) (h := ?_) | refine x_store (h := ?_) | refine x_build (h := ?_))
   | (with_reducible refine x_q (h := ?_))
   | refine x_condt (h1 := ?_) | refine x_condf (h1 := ?_)
   | (refine w_sch (id := 6) (.q 0 <| .q 1 <| .q 2 <| .q 3 <| .q 4 <| .q 5 <| .q 6 <| .q 7 <| .q 10 <| .q 11 <| .l2 8 [11, 10, 6, 5, 4, 3, 2, 1, 0] (.l 9 [11, 10, 6, 5, 4, 3, 2, 1, 0] <| .l 12 [10, 6, 5, 4, 3, 2, 1, 0] <| .q 13 <| .l 14 [10, 6, 5, 4, 3, 2, 1, 0] <| .l 15 [10, 6, 5, 4, 3, 2, 0] <| .q 16 <| .l 17 [] <| .done) 9 [11, 10, 7, 6, 5, 4, 3, 2, 1, 0] (.l 8 [11, 10, 6, 5, 4, 3, 2, 1, 0] <| .l 12 [10, 6, 5, 4, 3, 2, 1, 0] <| .q 13 <| .l 14 [10, 6, 5, 4, 3, 2, 1, 0] <| .l 15 [10, 6, 5, 4, 3, 2, 0] <| .q 16 <| .l 17 [] <| .done)) mixed (by kernel_rfl) (by kernel_rfl) fun K hK => ?_)
   | ((with_reducible refine a_end hK ?_); clear hK K)
   | ((with_reducible refine a_id ?_); first | refine xa_q (h := ?_) | refine xa_qt (h := ?_) | refine xa_qf (h := ?_))
   | ((with_reducible refine a_id ?_); refine xa_gq (h1 := fun ht => ?_) (h2 := fun ht => ?_))
   | refine a_l rfl ?_ | refine a_l2 ?_ ?_ | (with_reducible refine And.intro ?_ ?_) | exact st_nil | refine xa_st (h2 := ?_)
   | fail)
  all_goals try clear fx
  refine w_loop (fun n st => ∃ i : Nat, n = p.length - i ∧ i ≤ p.length ∧ st.tm 1 = .pt (.s 1) 0 ∧ st.hp (.s 1) = some (.row 1 [[ksl p]]) ∧ st.tm 2 = .pt (.s 2) 0 ∧ st.hp (.s 2) = some (.row 1 [[.hs (.c (.s 2) 0 0) 4 0 0]]) ∧ st.tm 3 = .pt (.s 3) 0 ∧ st.tm 4 = iv i ∧ ∃ q : Prg, q = p.take i ∧ q.length = i ∧ st.hp (.s 3) = some (.row 1 [[.hs (.c (.s 3) 0 0) 4 0 q.length]]) ∧ OwnP st.hp (.c (.s 3) 0 0) q) p.length ?_ ?_
  · refine ⟨0, by omega, by omega, by simp, by simp, by simp, by simp, by simp, by simp, [], rfl, rfl, by simp, by simp, by simp, by simp⟩
  rintro n st - - ⟨i, rfl, hi, h1, hp1, h2, hp2, h3, h4, q, hq, hql, hp3, ⟨ht1, ht2, ht3⟩⟩
  all_goals have fx := And.intro h1 <| And.intro hp1 <| h4
  repeat' (first
   | refine w_seq ?_ | refine w_block ?_ | refine w_skip ?_ | refine w_reg fun K hK => ?_
   | ((with_reducible refine s_end hK ?_); clear hK K)
   | (with_reducible first | refine then_normal ?_ | refine in_normal ?_ | refine then_exit ?_ | refine in_exit ?_ | refine then_ret ?_ | refine in_ret ?_ | refine s_nil ?_ | refine in_other (by decide) ?_)
   | refine w_exit ?_
   | refine w_ret ?_
   | (with_reducible first | refine s_none ?_ | refine x_assign (h := ?_) | refine x_box (h := ?_) | refine x_alloc (h := ?_) | refine x_store0 (h := ?_) | refine x_append0 (T := 47) (h := ?_) | refine x_append (T := 47) (h := ?_) | refine x_append0 (T := 26) (h := ?_) | refine x_appendC (T := 26) (h := ?_) | refine x_store (h := ?_) | refine x_build (h := ?_))
   | (with_reducible refine x_q (h := ?_))
   | refine x_condt (h1 := ?_) | refine x_condf (h1 := ?_)
   | (refine w_sch (id := 6) (.q 0 <| .q 1 <| .q 2 <| .q 3 <| .q 4 <| .q 5 <| .q 6 <| .q 7 <| .q 10 <| .q 11 <| .l2 8 [11, 10, 6, 5, 4, 3, 2, 1, 0] (.l 9 [11, 10, 6, 5, 4, 3, 2, 1, 0] <| .l 12 [10, 6, 5, 4, 3, 2, 1, 0] <| .q 13 <| .l 14 [10, 6, 5, 4, 3, 2, 1, 0] <| .l 15 [10, 6, 5, 4, 3, 2, 0] <| .q 16 <| .l 17 [] <| .done) 9 [11, 10, 7, 6, 5, 4, 3, 2, 1, 0] (.l 8 [11, 10, 6, 5, 4, 3, 2, 1, 0] <| .l 12 [10, 6, 5, 4, 3, 2, 1, 0] <| .q 13 <| .l 14 [10, 6, 5, 4, 3, 2, 1, 0] <| .l 15 [10, 6, 5, 4, 3, 2, 0] <| .q 16 <| .l 17 [] <| .done)) mixed (by kernel_rfl) (by kernel_rfl) fun K hK => ?_)
   | ((with_reducible refine a_end hK ?_); clear hK K)
   | ((with_reducible refine a_id ?_); first | refine xa_q (h := ?_) | refine xa_qt (h := ?_) | refine xa_qf (h := ?_))
   | ((with_reducible refine a_id ?_); refine xa_gq (h1 := fun ht => ?_) (h2 := fun ht => ?_))
   | refine a_l rfl ?_ | refine a_l2 ?_ ?_ | (with_reducible refine And.intro ?_ ?_) | exact st_nil | refine xa_st (h2 := ?_)
   | fail)
  all_goals try clear fx
  refine w_if (by simp []; first | done | rfl | exact (Bool.not_not _).symm) (fun ht => ?_) (fun hf => ?_)
  · have hlt : i < p.length := by simpa using ht
    obtain ⟨k, hk⟩ : ∃ k, p[i]? = some k := ⟨_, List.getElem?_eq_getElem hlt⟩
    obtain ⟨hkp, hkb⟩ := hs.bsm hk
    clear ht
    all_goals have fx := And.intro h1 <| And.intro hp1 <| And.intro h4 <| And.intro h3 <| And.intro hp3 <| And.intro ht1 <| hk
    repeat' (first
     | refine w_seq ?_ | refine w_block ?_ | refine w_skip ?_ | refine w_reg fun K hK => ?_
     | ((with_reducible refine s_end hK ?_); clear hK K)
     | (with_reducible first | refine then_normal ?_ | refine in_normal ?_ | refine then_exit ?_ | refine in_exit ?_ | refine then_ret ?_ | refine in_ret ?_ | refine s_nil ?_ | refine in_other (by decide) ?_)
     | refine w_exit ?_
     | refine w_ret ?_
     | (with_reducible first | refine s_none ?_ | refine x_assign (h := ?_) | refine x_box (h := ?_) | refine x_alloc (h := ?_) | refine x_store0 (h := ?_) | refine x_append0 (T := 47) (h := ?_) | refine x_append (T := 47) (h := ?_) | refine x_append0 (T := 26) (h := ?_) | refine x_appendC (T := 26) (h := ?_) | refine x_store (h := ?_) | refine x_build (h := ?_))
     | ((with_reducible refine o_id 70 rfl ?_); refine x_callh (hF := copyInts_fn _ k.params (by omega)) (h := ?_))
     | (with_reducible refine x_q (h := ?_))
     | refine x_condt (h1 := ?_) | refine x_condf (h1 := ?_)
     | (refine w_sch (id := 6) (.q 0 <| .q 1 <| .q 2 <| .q 3 <| .q 4 <| .q 5 <| .q 6 <| .q 7 <| .q 10 <| .q 11 <| .l2 8 [11, 10, 6, 5, 4, 3, 2, 1, 0] (.l 9 [11, 10, 6, 5, 4, 3, 2, 1, 0] <| .l 12 [10, 6, 5, 4, 3, 2, 1, 0] <| .q 13 <| .l 14 [10, 6, 5, 4, 3, 2, 1, 0] <| .l 15 [10, 6, 5, 4, 3, 2, 0] <| .q 16 <| .l 17 [] <| .done) 9 [11, 10, 7, 6, 5, 4, 3, 2, 1, 0] (.l 8 [11, 10, 6, 5, 4, 3, 2, 1, 0] <| .l 12 [10, 6, 5, 4, 3, 2, 1, 0] <| .q 13 <| .l 14 [10, 6, 5, 4, 3, 2, 1, 0] <| .l 15 [10, 6, 5, 4, 3, 2, 0] <| .q 16 <| .l 17 [] <| .done)) mixed (by kernel_rfl) (by kernel_rfl) fun K hK => ?_)
     | ((with_reducible refine a_end hK ?_); clear hK K)
     | ((with_reducible refine a_id ?_); first | refine xa_q (h := ?_) | refine xa_qt (h := ?_) | refine xa_qf (h := ?_))
     | ((with_reducible refine a_id ?_); refine xa_gq (h1 := fun ht => ?_) (h2 := fun ht => ?_))
     | refine a_l rfl ?_ | refine a_l2 ?_ ?_ | (with_reducible refine And.intro ?_ ?_) | exact st_nil | refine xa_st (h2 := ?_)
     | fail)
    all_goals try clear fx
    all_goals
      refine ⟨p.length - (i + 1), by omega, i + 1, rfl, by omega, by simp [h1], by simp [hp1], by simp [h2], by simp [hp2], by simp [h3], by simp; exact wrp (by omega) (by omega), q ++ [k], by rw [List.take_add_one, hk, hq]; rfl, by simp [hql], by simp, ⟨?_, ?_, ?_⟩⟩
      · simp [ht1, pRows_app]
      · intro j r hj
        rcases Nat.lt_or_ge j q.length with hlj | hgj
        · rw [List.getElem?_append_left hlj] at hj
          have hne : ¬ j = q.length := by omega
          simp [ht2 j r hj, hne]
        · rw [List.getElem?_append_right hgj] at hj
          obtain rfl : j = q.length := by
            have := (List.getElem?_eq_some_iff.1 hj).1
            simp at this
            omega
          simp at hj
          subst hj
          simp
      · intro j r hj
        rcases Nat.lt_or_ge j q.length with hlj | hgj
        · rw [List.getElem?_append_left hlj] at hj
          have hne : ¬ j = q.length := by omega
          simp [ht3 j r hj, hne]
        · rw [List.getElem?_append_right hgj] at hj
          obtain rfl : j = q.length := by
            have := (List.getElem?_eq_some_iff.1 hj).1
            simp at this
            omega
          simp at hj
          subst hj
          simp
  · have hge : i = p.length := by
      have : ¬ i < p.length := by simpa using hf
      omega
    have hqp : q = p := by rw [hq, hge, List.take_length]
    subst hqp
    all_goals have fx := And.intro h1 <| And.intro h2 <| And.intro hp2 <| And.intro h3 <| hp3
    repeat' (first
     | refine w_seq ?_ | refine w_block ?_ | refine w_skip ?_ | refine w_reg fun K hK => ?_
     | ((with_reducible refine s_end hK ?_); clear hK K)
     | (with_reducible first | refine then_normal ?_ | refine in_normal ?_ | refine then_exit ?_ | refine in_exit ?_ | refine then_ret ?_ | refine in_ret ?_ | refine s_nil ?_ | refine in_other (by decide) ?_)
     | refine w_exit ?_
     | refine w_ret ?_
     | (with_reducible first | refine s_none ?_ | refine x_assign (h := ?_) | refine x_box (h := ?_) | refine x_alloc (h := ?_) | refine x_store0 (h := ?_) | refine x_append0 (T := 47) (h := ?_) | refine x_append (T := 47) (h := ?_) | refine x_append0 (T := 26) (h := ?_) | refine x_appendC (T := 26) (h := ?_) | refine x_store (h := ?_) | refine x_build (h := ?_))
     | (with_reducible refine x_q (h := ?_))
     | refine x_condt (h1 := ?_) | refine x_condf (h1 := ?_)
     | (refine w_sch (id := 6) (.q 0 <| .q 1 <| .q 2 <| .q 3 <| .q 4 <| .q 5 <| .q 6 <| .q 7 <| .q 10 <| .q 11 <| .l2 8 [11, 10, 6, 5, 4, 3, 2, 1, 0] (.l 9 [11, 10, 6, 5, 4, 3, 2, 1, 0] <| .l 12 [10, 6, 5, 4, 3, 2, 1, 0] <| .q 13 <| .l 14 [10, 6, 5, 4, 3, 2, 1, 0] <| .l 15 [10, 6, 5, 4, 3, 2, 0] <| .q 16 <| .l 17 [] <| .done) 9 [11, 10, 7, 6, 5, 4, 3, 2, 1, 0] (.l 8 [11, 10, 6, 5, 4, 3, 2, 1, 0] <| .l 12 [10, 6, 5, 4, 3, 2, 1, 0] <| .q 13 <| .l 14 [10, 6, 5, 4, 3, 2, 1, 0] <| .l 15 [10, 6, 5, 4, 3, 2, 0] <| .q 16 <| .l 17 [] <| .done)) mixed (by kernel_rfl) (by kernel_rfl) fun K hK => ?_)
     | ((with_reducible refine a_end hK ?_); clear hK K)
     | ((with_reducible refine a_id ?_); first | refine xa_q (h := ?_) | refine xa_qt (h := ?_) | refine xa_qf (h := ?_))
     | ((with_reducible refine a_id ?_); refine xa_gq (h1 := fun ht => ?_) (h2 := fun ht => ?_))
     | refine a_l rfl ?_ | refine a_l2 ?_ ?_ | (with_reducible refine And.intro ?_ ?_) | exact st_nil | refine xa_st (h2 := ?_)
     | fail)
    all_goals try clear fx
    refine e_ret [(.c (.s 3) 0 0, root)] (.one rfl) (by simp [h2]; rfl) ⟨by simp, ⟨?_, fun j r hj => ?_, fun j r hj => ?_⟩⟩
    · simp [ht1, pRows_tr (n := .c (.s 3) 0 0) (m := root) (f := finf noD [(.c (.s 3) 0 0, root)]) (p := q) (by simp)]
    · simp [ht2 j r hj]
    · simp [ht3 j r hj]
end Go.Proofs.Ytopgafhjmbfaoaa
end
