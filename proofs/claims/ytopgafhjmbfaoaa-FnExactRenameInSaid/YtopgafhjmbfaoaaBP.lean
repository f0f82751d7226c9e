/-
  Own texts, joined by merge.py: Hr.
-/
import Derived.Test.YtopgafhjmbfaoaaBO
import Derived.Test.YtopgafhjmbfaoaaBM
import Derived.Test.YtopgafhjmbfaoaaA7

section
/-
  The program's RenameIn: what it returns.
-/
set_option maxRecDepth 100000
set_option maxHeartbeats 1000000
set_option linter.unusedSimpArgs false
namespace Go.Proofs.Ytopgafhjmbfaoaa
open Go Go.Hm Go.Proofs

theorem impl_RenameIn_fn (gl) (p : Prg) (b x y : Int) (hs : Sml p) : FnOk Try.prog gl 15 [pav p, iv b, iv x, iv y] (fun r z H' => z = .tup [.agg [.hs r 4 0 (renG p b x y).length], bv (renOk p b x y)] ∧ OwnP H' r (renG p b x y)) := by
  have hpl := hs.len
  refine FnOk.of_sem Try.func15 rfl (by kernel_rfl) (rs := [.cell 8 28, .tmp 9]) rfl Try.ntmps15 (Nat.le_of_ble_eq_true rfl) fun C w g root => ?_
  cases hv : progOk p
  · have hno : renOk p b x y = false := by simp [renOk, hv]
    all_goals have fx :=  hv
    repeat' (first
     | refine w_seq ?_ | refine w_block ?_ | refine w_skip ?_ | refine w_reg fun K hK => ?_
     | ((with_reducible refine s_end hK ?_); clear hK K)
     | (with_reducible first | refine then_normal ?_ | refine in_normal ?_ | refine then_exit ?_ | refine in_exit ?_ | refine then_ret ?_ | refine in_ret ?_ | refine s_nil ?_ | refine in_other (by decide) ?_)
     | refine w_exit ?_
     | refine w_ret ?_
     | (with_reducible refine s_none ?_)
     | ((with_reducible refine g_id ?_); refine x_guard (h := ?_))
     | (with_reducible first | refine gx_tt ?_ | refine gx_ff ?_ | refine x_tf (h := ?_) | refine x_ft (h := ?_) | refine x_u (h := ?_) | refine x_assign (h := ?_) | refine x_box (h := ?_) | refine x_alloc (h := ?_) | refine x_store0 (h := ?_) | refine x_store (h := ?_))
     | ((with_reducible refine o_id 30 rfl ?_); refine x_call (hF := impl_ValidProgram_fn _ p hs) (h := ?_))
     | (with_reducible refine x_q (h := ?_))
     | (with_reducible refine gx_s (fun ht => ?_) (fun ht => ?_))
     | refine x_condt (h1 := ?_) | refine x_condf (h1 := ?_)
     | (refine w_sch (id := 21) (.q 0 <| .q 1 <| .q 2 <| .q 3 <| .q 4 <| .q 5 <| .l 6 [2, 1, 0] <| .q 7 <| .l 8 [] <| .done) mixed (by kernel_rfl) (by kernel_rfl) fun K hK => ?_)
     | ((with_reducible refine a_end hK ?_); clear hK K)
     | ((with_reducible refine a_id ?_); first | refine xa_q (h := ?_) | refine xa_qt (h := ?_) | refine xa_qf (h := ?_))
     | ((with_reducible refine a_id ?_); refine xa_gq (h1 := fun ht => ?_) (h2 := fun ht => ?_))
     | refine a_l rfl ?_ | refine a_l2 ?_ ?_ | (with_reducible refine And.intro ?_ ?_) | exact st_nil | refine xa_st (h2 := ?_)
     | fail)
    all_goals try clear fx
    simp only [renG, hno]
    refine e_ret [(.c (.s 8) 0 0, root)] (.one rfl) (by simp; rfl) ?_
    refine ⟨by simp, ⟨by simp, fun j k hk => by simp at hk, fun j k hk => by simp at hk⟩⟩
  have hsh : shapeOk p = true := by
    simp only [progOk, Bool.and_eq_true] at hv
    exact hv.1
  have hp := ShapeP.of hs hsh
  have hh := hp.heads
  have hl7 := hp.len
  cases hb : decide (0 ≤ b ∧ b < p.length)
  · have hb' : ¬ (0 ≤ b ∧ b < p.length) := by simpa using hb
    have hno : renOk p b x y = false := by
      apply Bool.eq_false_iff.2
      intro h
      simp only [renOk, Bool.and_eq_true, decide_eq_true_eq] at h
      exact hb' h.1.1.1.1.2
    all_goals have fx := And.intro hv <| hb
    repeat' (first
     | refine w_seq ?_ | refine w_block ?_ | refine w_skip ?_ | refine w_reg fun K hK => ?_
     | ((with_reducible refine s_end hK ?_); clear hK K)
     | (with_reducible first | refine then_normal ?_ | refine in_normal ?_ | refine then_exit ?_ | refine in_exit ?_ | refine then_ret ?_ | refine in_ret ?_ | refine s_nil ?_ | refine in_other (by decide) ?_)
     | refine w_exit ?_
     | refine w_ret ?_
     | (with_reducible refine s_none ?_)
     | ((with_reducible refine g_id ?_); refine x_guard (h := ?_))
     | (with_reducible first | refine gx_tt ?_ | refine gx_ff ?_ | refine x_tf (h := ?_) | refine x_ft (h := ?_) | refine x_u (h := ?_) | refine x_assign (h := ?_) | refine x_box (h := ?_) | refine x_alloc (h := ?_) | refine x_store0 (h := ?_) | refine x_store (h := ?_))
     | ((with_reducible refine o_id 30 rfl ?_); refine x_call (hF := impl_ValidProgram_fn _ p hs) (h := ?_))
     | ((with_reducible refine o_id 48 rfl ?_); refine x_call (hF := impl_isBlock_fn _ p b) (h := ?_))
     | (with_reducible refine x_q (h := ?_))
     | (with_reducible refine gx_s (fun ht => ?_) (fun ht => ?_))
     | refine x_condt (h1 := ?_) | refine x_condf (h1 := ?_)
     | (refine w_sch (id := 21) (.q 0 <| .q 1 <| .q 2 <| .q 3 <| .q 4 <| .q 5 <| .l 6 [2, 1, 0] <| .q 7 <| .l 8 [] <| .done) mixed (by kernel_rfl) (by kernel_rfl) fun K hK => ?_)
     | ((with_reducible refine a_end hK ?_); clear hK K)
     | ((with_reducible refine a_id ?_); first | refine xa_q (h := ?_) | refine xa_qt (h := ?_) | refine xa_qf (h := ?_))
     | ((with_reducible refine a_id ?_); refine xa_gq (h1 := fun ht => ?_) (h2 := fun ht => ?_))
     | refine a_l rfl ?_ | refine a_l2 ?_ ?_ | (with_reducible refine And.intro ?_ ?_) | exact st_nil | refine xa_st (h2 := ?_)
     | fail)
    all_goals try clear fx
    simp only [renG, hno]
    refine e_ret [(.c (.s 8) 0 0, root)] (.one rfl) (by simp; rfl) ?_
    refine ⟨by simp, ⟨by simp, fun j k hk => by simp at hk, fun j k hk => by simp at hk⟩⟩
  cases hx : (decide (0 ≤ x) && decide (x ≤ 7))
  · have hno : renOk p b x y = false := by simp only [renOk, hx]; simp
    all_goals have fx := And.intro hv <| And.intro hb <| hx
    repeat' (first
     | refine w_seq ?_ | refine w_block ?_ | refine w_skip ?_ | refine w_reg fun K hK => ?_
     | ((with_reducible refine s_end hK ?_); clear hK K)
     | (with_reducible first | refine then_normal ?_ | refine in_normal ?_ | refine then_exit ?_ | refine in_exit ?_ | refine then_ret ?_ | refine in_ret ?_ | refine s_nil ?_ | refine in_other (by decide) ?_)
     | refine w_exit ?_
     | refine w_ret ?_
     | (with_reducible refine s_none ?_)
     | ((with_reducible refine g_id ?_); refine x_guard (h := ?_))
     | (with_reducible first | refine gx_tt ?_ | refine gx_ff ?_ | refine x_tf (h := ?_) | refine x_ft (h := ?_) | refine x_u (h := ?_) | refine x_assign (h := ?_) | refine x_box (h := ?_) | refine x_alloc (h := ?_) | refine x_store0 (h := ?_) | refine x_store (h := ?_))
     | ((with_reducible refine o_id 30 rfl ?_); refine x_call (hF := impl_ValidProgram_fn _ p hs) (h := ?_))
     | ((with_reducible refine o_id 48 rfl ?_); refine x_call (hF := impl_isBlock_fn _ p b) (h := ?_))
     | ((with_reducible refine o_id 49 rfl ?_); refine x_call (hF := impl_isName_fn _ _) (h := ?_))
     | (with_reducible refine x_q (h := ?_))
     | (with_reducible refine gx_s (fun ht => ?_) (fun ht => ?_))
     | refine x_condt (h1 := ?_) | refine x_condf (h1 := ?_)
     | (refine w_sch (id := 21) (.q 0 <| .q 1 <| .q 2 <| .q 3 <| .q 4 <| .q 5 <| .l 6 [2, 1, 0] <| .q 7 <| .l 8 [] <| .done) mixed (by kernel_rfl) (by kernel_rfl) fun K hK => ?_)
     | ((with_reducible refine a_end hK ?_); clear hK K)
     | ((with_reducible refine a_id ?_); first | refine xa_q (h := ?_) | refine xa_qt (h := ?_) | refine xa_qf (h := ?_))
     | ((with_reducible refine a_id ?_); refine xa_gq (h1 := fun ht => ?_) (h2 := fun ht => ?_))
     | refine a_l rfl ?_ | refine a_l2 ?_ ?_ | (with_reducible refine And.intro ?_ ?_) | exact st_nil | refine xa_st (h2 := ?_)
     | fail)
    all_goals try clear fx
    simp only [renG, hno]
    refine e_ret [(.c (.s 8) 0 0, root)] (.one rfl) (by simp; rfl) ?_
    refine ⟨by simp, ⟨by simp, fun j k hk => by simp at hk, fun j k hk => by simp at hk⟩⟩
  cases hy : (decide (0 ≤ y) && decide (y ≤ 7))
  · have hno : renOk p b x y = false := by simp only [renOk, hy]; simp
    all_goals have fx := And.intro hv <| And.intro hb <| And.intro hx <| hy
    repeat' (first
     | refine w_seq ?_ | refine w_block ?_ | refine w_skip ?_ | refine w_reg fun K hK => ?_
     | ((with_reducible refine s_end hK ?_); clear hK K)
     | (with_reducible first | refine then_normal ?_ | refine in_normal ?_ | refine then_exit ?_ | refine in_exit ?_ | refine then_ret ?_ | refine in_ret ?_ | refine s_nil ?_ | refine in_other (by decide) ?_)
     | refine w_exit ?_
     | refine w_ret ?_
     | (with_reducible refine s_none ?_)
     | ((with_reducible refine g_id ?_); refine x_guard (h := ?_))
     | (with_reducible first | refine gx_tt ?_ | refine gx_ff ?_ | refine x_tf (h := ?_) | refine x_ft (h := ?_) | refine x_u (h := ?_) | refine x_assign (h := ?_) | refine x_box (h := ?_) | refine x_alloc (h := ?_) | refine x_store0 (h := ?_) | refine x_store (h := ?_))
     | ((with_reducible refine o_id 30 rfl ?_); refine x_call (hF := impl_ValidProgram_fn _ p hs) (h := ?_))
     | ((with_reducible refine o_id 48 rfl ?_); refine x_call (hF := impl_isBlock_fn _ p b) (h := ?_))
     | ((with_reducible refine o_id 49 rfl ?_); refine x_call (hF := impl_isName_fn _ _) (h := ?_))
     | (with_reducible refine x_q (h := ?_))
     | (with_reducible refine gx_s (fun ht => ?_) (fun ht => ?_))
     | refine x_condt (h1 := ?_) | refine x_condf (h1 := ?_)
     | (refine w_sch (id := 21) (.q 0 <| .q 1 <| .q 2 <| .q 3 <| .q 4 <| .q 5 <| .l 6 [2, 1, 0] <| .q 7 <| .l 8 [] <| .done) mixed (by kernel_rfl) (by kernel_rfl) fun K hK => ?_)
     | ((with_reducible refine a_end hK ?_); clear hK K)
     | ((with_reducible refine a_id ?_); first | refine xa_q (h := ?_) | refine xa_qt (h := ?_) | refine xa_qf (h := ?_))
     | ((with_reducible refine a_id ?_); refine xa_gq (h1 := fun ht => ?_) (h2 := fun ht => ?_))
     | refine a_l rfl ?_ | refine a_l2 ?_ ?_ | (with_reducible refine And.intro ?_ ?_) | exact st_nil | refine xa_st (h2 := ?_)
     | fail)
    all_goals try clear fx
    simp only [renG, hno]
    refine e_ret [(.c (.s 8) 0 0, root)] (.one rfl) (by simp; rfl) ?_
    refine ⟨by simp, ⟨by simp, fun j k hk => by simp at hk, fun j k hk => by simp at hk⟩⟩
  obtain ⟨hb0, hbl⟩ : 0 ≤ b ∧ b < p.length := by simpa using hb
  obtain ⟨hx0, hx7⟩ : 0 ≤ x ∧ x ≤ 7 := by simpa using hx
  obtain ⟨hy0, hy7⟩ : 0 ≤ y ∧ y ≤ 7 := by simpa using hy
  obtain ⟨B, rfl⟩ : ∃ i : Nat, b = i := ⟨b.toNat, by omega⟩
  obtain ⟨X, rfl⟩ : ∃ i : Nat, x = i := ⟨x.toNat, by omega⟩
  obtain ⟨Y, rfl⟩ : ∃ i : Nat, y = i := ⟨y.toNat, by omega⟩
  have hX : X < 8 := by omega
  have hY : Y < 8 := by omega
  have hBl : B < p.length := by omega
  obtain ⟨k, hk⟩ : ∃ k, p[B]? = some k := ⟨_, List.getElem?_eq_getElem hBl⟩
  have hro : renOk p B X Y = ((k.kind == 1) && isLocal B k X && ((X : Int) != Y) && !clash p B Y) := by
    have h1 : decide (0 ≤ (B : Int)) = true := decide_eq_true hb0
    have h2 : decide ((B : Int) < p.length) = true := decide_eq_true hbl
    simp only [renOk, hv, hx, hy, h1, h2, Int.toNat_natCast, renAt, hk]
    cases (k.kind == 1) <;> cases isLocal B k X <;> cases ((X : Int) != Y) <;> cases clash p B Y <;> rfl
  all_goals have fx := And.intro hv <| And.intro hb <| And.intro hx <| And.intro hy <| And.intro hBl <| And.intro hx7 <| hy7
  repeat' (first
   | refine w_seq ?_ | refine w_block ?_ | refine w_skip ?_ | refine w_reg fun K hK => ?_
   | ((with_reducible refine s_end hK ?_); clear hK K)
   | (with_reducible first | refine then_normal ?_ | refine in_normal ?_ | refine then_exit ?_ | refine in_exit ?_ | refine then_ret ?_ | refine in_ret ?_ | refine s_nil ?_ | refine in_other (by decide) ?_)
   | refine w_exit ?_
   | refine w_ret ?_
   | (with_reducible refine s_none ?_)
   | ((with_reducible refine g_id ?_); refine x_guard (h := ?_))
   | (with_reducible first | refine gx_tt ?_ | refine gx_ff ?_ | refine x_tf (h := ?_) | refine x_ft (h := ?_) | refine x_u (h := ?_) | refine x_assign (h := ?_) | refine x_box (h := ?_) | refine x_alloc (h := ?_) | refine x_store0 (h := ?_) | refine x_store (h := ?_))
   | ((with_reducible refine o_id 30 rfl ?_); refine x_call (hF := impl_ValidProgram_fn _ p hs) (h := ?_))
   | ((with_reducible refine o_id 48 rfl ?_); refine x_call (hF := impl_isBlock_fn _ p B) (h := ?_))
   | ((with_reducible refine o_id 49 rfl ?_); refine x_call (hF := impl_isName_fn _ _) (h := ?_))
   | ((with_reducible refine o_id 32 rfl ?_); refine x_callg (hF := scopesOf_fn _ p hs hh hp.names) (h := ?_))
   | (with_reducible refine x_q (h := ?_))
   | (with_reducible refine gx_s (fun ht => ?_) (fun ht => ?_))
   | refine x_condt (h1 := ?_) | refine x_condf (h1 := ?_)
   | (refine w_sch (id := 21) (.q 0 <| .q 1 <| .q 2 <| .q 3 <| .q 4 <| .q 5 <| .l 6 [2, 1, 0] <| .q 7 <| .l 8 [] <| .done) mixed (by kernel_rfl) (by kernel_rfl) fun K hK => ?_)
   | ((with_reducible refine a_end hK ?_); clear hK K)
   | ((with_reducible refine a_id ?_); first | refine xa_q (h := ?_) | refine xa_qt (h := ?_) | refine xa_qf (h := ?_))
   | ((with_reducible refine a_id ?_); refine xa_gq (h1 := fun ht => ?_) (h2 := fun ht => ?_))
   | refine a_l rfl ?_ | refine a_l2 ?_ ?_ | (with_reducible refine And.intro ?_ ?_) | exact st_nil | refine xa_st (h2 := ?_)
   | fail)
  all_goals try clear fx
  rintro z H' ⟨rfl, hO⟩
  obtain ⟨hc1, hc2⟩ := hO.hcln
  refine ⟨by simp, ?_⟩
  all_goals have fx := fx0
  repeat' (first
   | refine w_seq ?_ | refine w_block ?_ | refine w_skip ?_ | refine w_reg fun K hK => ?_
   | ((with_reducible refine s_end hK ?_); clear hK K)
   | (with_reducible first | refine then_normal ?_ | refine in_normal ?_ | refine then_exit ?_ | refine in_exit ?_ | refine then_ret ?_ | refine in_ret ?_ | refine s_nil ?_ | refine in_other (by decide) ?_)
   | refine w_exit ?_
   | refine w_ret ?_
   | (with_reducible refine s_none ?_)
   | ((with_reducible refine g_id ?_); refine x_guard (h := ?_))
   | (with_reducible first | refine gx_tt ?_ | refine gx_ff ?_ | refine x_tf (h := ?_) | refine x_ft (h := ?_) | refine x_u (h := ?_) | refine x_assign (h := ?_) | refine x_box (h := ?_) | refine x_alloc (h := ?_) | refine x_store0 (h := ?_) | refine x_store (h := ?_))
   | ((with_reducible refine o_id 50 rfl ?_); refine x_call (hB := (by first | ((repeat' (first | exact .nil | refine .cons ?_ ?_ | exact .refl _ | exact bw_ints (by simp [fx]; first | done | rfl) (by first | (simp [fx]; done) | (simp [fx]; omega) | omega) | exact bw_list (by simp [fx]; first | done | rfl) (by first | (simp [fx]; done) | (simp [fx]; omega) | omega) (by first | (simp; done) | fail) | exact bw_scopes (n := .s 10) (p := p) ⟨by simp [hc1], fun j k hj hk => by simp [hc2 j k hj hk]⟩ hh rfl)); done) | fail)) (hF := canRename_fn _ p hp B k hk X Y hX hY) (h := ?_))
   | (with_reducible refine x_q (h := ?_))
   | (with_reducible refine gx_s (fun ht => ?_) (fun ht => ?_))
   | refine x_condt (h1 := ?_) | refine x_condf (h1 := ?_)
   | (refine w_sch (id := 21) (.q 0 <| .q 1 <| .q 2 <| .q 3 <| .q 4 <| .q 5 <| .l 6 [2, 1, 0] <| .q 7 <| .l 8 [] <| .done) mixed (by kernel_rfl) (by kernel_rfl) fun K hK => ?_)
   | ((with_reducible refine a_end hK ?_); clear hK K)
   | ((with_reducible refine a_id ?_); first | refine xa_q (h := ?_) | refine xa_qt (h := ?_) | refine xa_qf (h := ?_))
   | ((with_reducible refine a_id ?_); refine xa_gq (h1 := fun ht => ?_) (h2 := fun ht => ?_))
   | refine a_l rfl ?_ | refine a_l2 ?_ ?_ | (with_reducible refine And.intro ?_ ?_) | exact st_nil | refine xa_st (h2 := ?_)
   | fail)
  all_goals try clear fx
  refine w_if (by simp []; first | done | rfl | exact (Bool.not_not _).symm) (fun ht => ?_) (fun hf => ?_)
  · have hno : renOk p B X Y = false := by
      rw [hro]
      revert ht
      cases (k.kind == 1) <;> cases isLocal B k X <;> cases ((X : Int) != Y) <;> cases clash p B Y <;> simp
    clear ht
    all_goals have fx := fx0
    repeat' (first
     | refine w_seq ?_ | refine w_block ?_ | refine w_skip ?_ | refine w_reg fun K hK => ?_
     | ((with_reducible refine s_end hK ?_); clear hK K)
     | (with_reducible first | refine then_normal ?_ | refine in_normal ?_ | refine then_exit ?_ | refine in_exit ?_ | refine then_ret ?_ | refine in_ret ?_ | refine s_nil ?_ | refine in_other (by decide) ?_)
     | refine w_exit ?_
     | refine w_ret ?_
     | (with_reducible refine s_none ?_)
     | ((with_reducible refine g_id ?_); refine x_guard (h := ?_))
     | (with_reducible first | refine gx_tt ?_ | refine gx_ff ?_ | refine x_tf (h := ?_) | refine x_ft (h := ?_) | refine x_u (h := ?_) | refine x_assign (h := ?_) | refine x_box (h := ?_) | refine x_alloc (h := ?_) | refine x_store0 (h := ?_) | refine x_store (h := ?_))
     | (with_reducible refine x_q (h := ?_))
     | (with_reducible refine gx_s (fun ht => ?_) (fun ht => ?_))
     | refine x_condt (h1 := ?_) | refine x_condf (h1 := ?_)
     | (refine w_sch (id := 21) (.q 0 <| .q 1 <| .q 2 <| .q 3 <| .q 4 <| .q 5 <| .l 6 [2, 1, 0] <| .q 7 <| .l 8 [] <| .done) mixed (by kernel_rfl) (by kernel_rfl) fun K hK => ?_)
     | ((with_reducible refine a_end hK ?_); clear hK K)
     | ((with_reducible refine a_id ?_); first | refine xa_q (h := ?_) | refine xa_qt (h := ?_) | refine xa_qf (h := ?_))
     | ((with_reducible refine a_id ?_); refine xa_gq (h1 := fun ht => ?_) (h2 := fun ht => ?_))
     | refine a_l rfl ?_ | refine a_l2 ?_ ?_ | (with_reducible refine And.intro ?_ ?_) | exact st_nil | refine xa_st (h2 := ?_)
     | fail)
    all_goals try clear fx
    simp only [renG, hno]
    refine e_ret [(.c (.s 8) 0 0, root)] (.one rfl) (by simp; rfl) ?_
    refine ⟨by simp, ⟨by simp, fun j k hk => by simp at hk, fun j k hk => by simp at hk⟩⟩
  have hyes : renOk p B X Y = true := by
    rw [hro]
    revert hf
    cases (k.kind == 1) <;> cases isLocal B k X <;> cases ((X : Int) != Y) <;> cases clash p B Y <;> simp
  have hg : renG p B X Y = renS (touches p B X) X Y p := by simp only [renG, hyes, if_true]
  rw [hg, hyes]
  clear hf hro
  all_goals have fx := fx0
  repeat' (first
   | refine w_seq ?_ | refine w_block ?_ | refine w_skip ?_ | refine w_reg fun K hK => ?_
   | ((with_reducible refine s_end hK ?_); clear hK K)
   | (with_reducible first | refine then_normal ?_ | refine in_normal ?_ | refine then_exit ?_ | refine in_exit ?_ | refine then_ret ?_ | refine in_ret ?_ | refine s_nil ?_ | refine in_other (by decide) ?_)
   | refine w_exit ?_
   | refine w_ret ?_
   | (with_reducible refine s_none ?_)
   | ((with_reducible refine g_id ?_); refine x_guard (h := ?_))
   | (with_reducible first | refine gx_tt ?_ | refine gx_ff ?_ | refine x_tf (h := ?_) | refine x_ft (h := ?_) | refine x_u (h := ?_) | refine x_assign (h := ?_) | refine x_box (h := ?_) | refine x_alloc (h := ?_) | refine x_store0 (h := ?_) | refine x_store (h := ?_))
   | ((with_reducible refine o_id 31 rfl ?_); refine x_callg (hF := copyOf_fn _ p hs) (h := ?_))
   | (with_reducible refine x_q (h := ?_))
   | (with_reducible refine gx_s (fun ht => ?_) (fun ht => ?_))
   | refine x_condt (h1 := ?_) | refine x_condf (h1 := ?_)
   | (refine w_sch (id := 21) (.q 0 <| .q 1 <| .q 2 <| .q 3 <| .q 4 <| .q 5 <| .l 6 [2, 1, 0] <| .q 7 <| .l 8 [] <| .done) mixed (by kernel_rfl) (by kernel_rfl) fun K hK => ?_)
   | ((with_reducible refine a_end hK ?_); clear hK K)
   | ((with_reducible refine a_id ?_); first | refine xa_q (h := ?_) | refine xa_qt (h := ?_) | refine xa_qf (h := ?_))
   | ((with_reducible refine a_id ?_); refine xa_gq (h1 := fun ht => ?_) (h2 := fun ht => ?_))
   | refine a_l rfl ?_ | refine a_l2 ?_ ?_ | (with_reducible refine And.intro ?_ ?_) | exact st_nil | refine xa_st (h2 := ?_)
   | fail)
  all_goals try clear fx
  rintro z H2 ⟨rfl, hP⟩
  obtain ⟨ho1, ho2, ho3⟩ := hP.hcln
  refine ⟨by simp, ?_⟩
  all_goals have fx :=  ho1
  repeat' (first
   | refine w_seq ?_ | refine w_block ?_ | refine w_skip ?_ | refine w_reg fun K hK => ?_
   | ((with_reducible refine s_end hK ?_); clear hK K)
   | (with_reducible first | refine then_normal ?_ | refine in_normal ?_ | refine then_exit ?_ | refine in_exit ?_ | refine then_ret ?_ | refine in_ret ?_ | refine s_nil ?_ | refine in_other (by decide) ?_)
   | refine w_exit ?_
   | refine w_ret ?_
   | (with_reducible refine s_none ?_)
   | ((with_reducible refine g_id ?_); refine x_guard (h := ?_))
   | (with_reducible first | refine gx_tt ?_ | refine gx_ff ?_ | refine x_tf (h := ?_) | refine x_ft (h := ?_) | refine x_u (h := ?_) | refine x_assign (h := ?_) | refine x_box (h := ?_) | refine x_alloc (h := ?_) | refine x_store0 (h := ?_) | refine x_store (h := ?_))
   | (with_reducible refine x_q (h := ?_))
   | (with_reducible refine gx_s (fun ht => ?_) (fun ht => ?_))
   | refine x_condt (h1 := ?_) | refine x_condf (h1 := ?_)
   | (refine w_sch (id := 21) (.q 0 <| .q 1 <| .q 2 <| .q 3 <| .q 4 <| .q 5 <| .l 6 [2, 1, 0] <| .q 7 <| .l 8 [] <| .done) mixed (by kernel_rfl) (by kernel_rfl) fun K hK => ?_)
   | ((with_reducible refine a_end hK ?_); clear hK K)
   | ((with_reducible refine a_id ?_); first | refine xa_q (h := ?_) | refine xa_qt (h := ?_) | refine xa_qf (h := ?_))
   | ((with_reducible refine a_id ?_); refine xa_gq (h1 := fun ht => ?_) (h2 := fun ht => ?_))
   | refine a_l rfl ?_ | refine a_l2 ?_ ?_ | (with_reducible refine And.intro ?_ ?_) | exact st_nil | refine xa_st (h2 := ?_)
   | fail)
  all_goals try clear fx
  refine w_loop (fun n st => ∃ i : Nat, n = p.length - i ∧ i ≤ p.length ∧ st.tm 1 = iv B ∧ st.tm 2 = iv X ∧ st.tm 3 = iv Y ∧ st.tm 8 = .pt (.s 8) 0 ∧ st.hp (.s 8) = some (.row 1 [[.hs (.c (.s 8) 0 0) 4 0 0]]) ∧ st.hp (.c (.s 8) 0 0) = some (.row 4 []) ∧ st.tm 11 = .pt (.s 11) 0 ∧ st.hp (.s 11) = some (.row 1 [[.hs (.c (.s 11) 0 0) 4 0 p.length]]) ∧ st.tm 50 = .hs (.s 10) 1 0 p.length ∧ OwnS st.hp (.s 10) p p.length ∧ st.tm 51 = iv p.length ∧ st.tm 52 = iv i ∧ OwnP st.hp (.c (.s 11) 0 0) (renS (tUpto p B X i) X Y p)) p.length ?_ ?_
  · refine ⟨0, by omega, by omega, by simp, by simp, by simp, by simp, by simp, by simp, by simp, by simp, by simp, ⟨by simp [hc1], fun j k hj hk => by simp [hc2 j k hj hk]⟩, by simp, by simp, ?_⟩
    rw [upto_zero]
    exact ⟨by simp [ho1], fun j k hk => by simp [ho2 j k hk], fun j k hk => by simp [ho3 j k hk]⟩
  clear ho1 ho2 ho3 hP hc1 hc2 hO
  rintro n st - - ⟨i, rfl, hi, h1, h2, h3, h8, hp8, hp8', h11, hp11, h50, ⟨hc1, hc2⟩, h51, h52, ⟨ho1, ho2, ho3⟩⟩
  all_goals have fx := And.intro h51 <| h52
  repeat' (first
   | refine w_seq ?_ | refine w_block ?_ | refine w_skip ?_ | refine w_reg fun K hK => ?_
   | ((with_reducible refine s_end hK ?_); clear hK K)
   | (with_reducible first | refine then_normal ?_ | refine in_normal ?_ | refine then_exit ?_ | refine in_exit ?_ | refine then_ret ?_ | refine in_ret ?_ | refine s_nil ?_ | refine in_other (by decide) ?_)
   | refine w_exit ?_
   | refine w_ret ?_
   | (with_reducible refine s_none ?_)
   | ((with_reducible refine g_id ?_); refine x_guard (h := ?_))
   | (with_reducible first | refine gx_tt ?_ | refine gx_ff ?_ | refine x_tf (h := ?_) | refine x_ft (h := ?_) | refine x_u (h := ?_) | refine x_assign (h := ?_) | refine x_box (h := ?_) | refine x_alloc (h := ?_) | refine x_store0 (h := ?_) | refine x_store (h := ?_))
   | (with_reducible refine x_q (h := ?_))
   | (with_reducible refine gx_s (fun ht => ?_) (fun ht => ?_))
   | refine x_condt (h1 := ?_) | refine x_condf (h1 := ?_)
   | (refine w_sch (id := 21) (.q 0 <| .q 1 <| .q 2 <| .q 3 <| .q 4 <| .q 5 <| .l 6 [2, 1, 0] <| .q 7 <| .l 8 [] <| .done) mixed (by kernel_rfl) (by kernel_rfl) fun K hK => ?_)
   | ((with_reducible refine a_end hK ?_); clear hK K)
   | ((with_reducible refine a_id ?_); first | refine xa_q (h := ?_) | refine xa_qt (h := ?_) | refine xa_qf (h := ?_))
   | ((with_reducible refine a_id ?_); refine xa_gq (h1 := fun ht => ?_) (h2 := fun ht => ?_))
   | refine a_l rfl ?_ | refine a_l2 ?_ ?_ | (with_reducible refine And.intro ?_ ?_) | exact st_nil | refine xa_st (h2 := ?_)
   | fail)
  all_goals try clear fx
  refine w_if (by simp []; first | done | rfl | exact (Bool.not_not _).symm) (fun ht => ?_) (fun hf => ?_)
  · have hlt : i < p.length := by simpa using ht
    obtain ⟨q, hq⟩ : ∃ q, p[i]? = some q := ⟨_, List.getElem?_eq_getElem hlt⟩
    have hsg := sRows_at (n := .s 10) hlt
    obtain ⟨_, hse⟩ := List.getElem?_eq_some_iff.1 hsg
    clear ht
    have hth : touches p B X i = (decide ((X : Int) ∈ q.us) && decide (owner p i X = B)) := by simp only [touches, hq]
    cases hu : decide ((X : Int) ∈ q.us)
    · have hto : touches p B X i = false := by rw [hth, hu]; rfl
      all_goals have fx := And.intro h1 <| And.intro h2 <| And.intro h3 <| And.intro h50 <| And.intro hc1 <| And.intro h51 <| And.intro h52 <| And.intro hsg <| And.intro hse <| And.intro hlt <| hu
      repeat' (first
       | refine w_seq ?_ | refine w_block ?_ | refine w_skip ?_ | refine w_reg fun K hK => ?_
       | ((with_reducible refine s_end hK ?_); clear hK K)
       | (with_reducible first | refine then_normal ?_ | refine in_normal ?_ | refine then_exit ?_ | refine in_exit ?_ | refine then_ret ?_ | refine in_ret ?_ | refine s_nil ?_ | refine in_other (by decide) ?_)
       | refine w_exit ?_
       | refine w_ret ?_
       | (with_reducible refine s_none ?_)
       | ((with_reducible refine g_id ?_); refine x_guard (h := ?_))
       | (with_reducible first | refine gx_tt ?_ | refine gx_ff ?_ | refine x_tf (h := ?_) | refine x_ft (h := ?_) | refine x_u (h := ?_) | refine x_assign (h := ?_) | refine x_box (h := ?_) | refine x_alloc (h := ?_) | refine x_store0 (h := ?_) | refine x_store (h := ?_))
       | ((with_reducible refine o_id 51 rfl ?_); refine x_call (hB := (by first | ((repeat' (first | exact .nil | refine .cons ?_ ?_ | exact .refl _ | exact bw_ints (by simp [fx]; first | done | rfl) (by first | (simp [fx]; done) | (simp [fx]; omega) | omega) | exact bw_list (by simp [fx]; first | done | rfl) (by first | (simp [fx]; done) | (simp [fx]; omega) | omega) (by first | (simp; done) | fail) | exact bw_sc (n := .s 10) (p := p) (k := q) ⟨by simp [hc1], fun j k hj hk => by simp [hc2 j k hj hk]⟩ hh hq)); done) | fail)) (hF := uses_fn' _ p i q X hX) (h := ?_))
       | (with_reducible refine x_q (h := ?_))
       | (with_reducible refine gx_s (fun ht => ?_) (fun ht => ?_))
       | refine x_condt (h1 := ?_) | refine x_condf (h1 := ?_)
       | (refine w_sch (id := 21) (.q 0 <| .q 1 <| .q 2 <| .q 3 <| .q 4 <| .q 5 <| .l 6 [2, 1, 0] <| .q 7 <| .l 8 [] <| .done) mixed (by kernel_rfl) (by kernel_rfl) fun K hK => ?_)
       | ((with_reducible refine a_end hK ?_); clear hK K)
       | ((with_reducible refine a_id ?_); first | refine xa_q (h := ?_) | refine xa_qt (h := ?_) | refine xa_qf (h := ?_))
       | ((with_reducible refine a_id ?_); refine xa_gq (h1 := fun ht => ?_) (h2 := fun ht => ?_))
       | refine a_l rfl ?_ | refine a_l2 ?_ ?_ | (with_reducible refine And.intro ?_ ?_) | exact st_nil | refine xa_st (h2 := ?_)
       | fail)
      all_goals try clear fx
      refine ⟨p.length - (i + 1), by omega, i + 1, rfl, by omega, by simp [h1], by simp [h2], by simp [h3], by simp [h8], by simp [hp8], by simp [hp8'], by simp [h11], by simp [hp11], by simp [h50], ⟨by simp [hc1], fun j k hj hk => by simp [hc2 j k hj hk]⟩, by simp [h51], by simp; exact wrp (by omega) (by omega), ?_⟩
      rw [← upto_skip hto]
      exact ⟨by simp [ho1], fun j k hk => by simp [ho2 j k hk], fun j k hk => by simp [ho3 j k hk]⟩
    cases hw : (owner p i X == B)
    · have hto : touches p B X i = false := by
        rw [hth]
        have : ¬ owner p i X = B := by simpa using hw
        simp [this]
      all_goals have fx := And.intro h1 <| And.intro h2 <| And.intro h3 <| And.intro h50 <| And.intro hc1 <| And.intro h51 <| And.intro h52 <| And.intro hsg <| And.intro hse <| And.intro hlt <| And.intro hu <| And.intro hw <| @bne_def
      repeat' (first
       | refine w_seq ?_ | refine w_block ?_ | refine w_skip ?_ | refine w_reg fun K hK => ?_
       | ((with_reducible refine s_end hK ?_); clear hK K)
       | (with_reducible first | refine then_normal ?_ | refine in_normal ?_ | refine then_exit ?_ | refine in_exit ?_ | refine then_ret ?_ | refine in_ret ?_ | refine s_nil ?_ | refine in_other (by decide) ?_)
       | refine w_exit ?_
       | refine w_ret ?_
       | (with_reducible refine s_none ?_)
       | ((with_reducible refine g_id ?_); refine x_guard (h := ?_))
       | (with_reducible first | refine gx_tt ?_ | refine gx_ff ?_ | refine x_tf (h := ?_) | refine x_ft (h := ?_) | refine x_u (h := ?_) | refine x_assign (h := ?_) | refine x_box (h := ?_) | refine x_alloc (h := ?_) | refine x_store0 (h := ?_) | refine x_store (h := ?_))
       | ((with_reducible refine o_id 51 rfl ?_); refine x_call (hB := (by first | ((repeat' (first | exact .nil | refine .cons ?_ ?_ | exact .refl _ | exact bw_ints (by simp [fx]; first | done | rfl) (by first | (simp [fx]; done) | (simp [fx]; omega) | omega) | exact bw_list (by simp [fx]; first | done | rfl) (by first | (simp [fx]; done) | (simp [fx]; omega) | omega) (by first | (simp; done) | fail) | exact bw_sc (n := .s 10) (p := p) (k := q) ⟨by simp [hc1], fun j k hj hk => by simp [hc2 j k hj hk]⟩ hh hq)); done) | fail)) (hF := uses_fn' _ p i q X hX) (h := ?_))
       | ((with_reducible refine o_id 52 rfl ?_); refine x_call (hB := (by first | ((repeat' (first | exact .nil | refine .cons ?_ ?_ | exact .refl _ | exact bw_ints (by simp [fx]; first | done | rfl) (by first | (simp [fx]; done) | (simp [fx]; omega) | omega) | exact bw_list (by simp [fx]; first | done | rfl) (by first | (simp [fx]; done) | (simp [fx]; omega) | omega) (by first | (simp; done) | fail) | exact bw_sc (n := .s 10) (p := p) (k := q) ⟨by simp [hc1], fun j k hj hk => by simp [hc2 j k hj hk]⟩ hh hq)); done) | fail)) (hF := scope_owner_fn _ p hp i q hq X hX) (h := ?_))
       | (with_reducible refine x_q (h := ?_))
       | (with_reducible refine gx_s (fun ht => ?_) (fun ht => ?_))
       | refine x_condt (h1 := ?_) | refine x_condf (h1 := ?_)
       | (refine w_sch (id := 21) (.q 0 <| .q 1 <| .q 2 <| .q 3 <| .q 4 <| .q 5 <| .l 6 [2, 1, 0] <| .q 7 <| .l 8 [] <| .done) mixed (by kernel_rfl) (by kernel_rfl) fun K hK => ?_)
       | ((with_reducible refine a_end hK ?_); clear hK K)
       | ((with_reducible refine a_id ?_); first | refine xa_q (h := ?_) | refine xa_qt (h := ?_) | refine xa_qf (h := ?_))
       | ((with_reducible refine a_id ?_); refine xa_gq (h1 := fun ht => ?_) (h2 := fun ht => ?_))
       | refine a_l rfl ?_ | refine a_l2 ?_ ?_ | (with_reducible refine And.intro ?_ ?_) | exact st_nil | refine xa_st (h2 := ?_)
       | fail)
      all_goals try clear fx
      refine ⟨p.length - (i + 1), by omega, i + 1, rfl, by omega, by simp [h1], by simp [h2], by simp [h3], by simp [h8], by simp [hp8], by simp [hp8'], by simp [h11], by simp [hp11], by simp [h50], ⟨by simp [hc1], fun j k hj hk => by simp [hc2 j k hj hk]⟩, by simp [h51], by simp; exact wrp (by omega) (by omega), ?_⟩
      rw [← upto_skip hto]
      exact ⟨by simp [ho1], fun j k hk => by simp [ho2 j k hk], fun j k hk => by simp [ho3 j k hk]⟩
    have hto : touches p B X i = true := by
      rw [hth, hu]
      have : owner p i X = B := by simpa using hw
      simp [this]
    have hkR := upto_get (b := B) (x := X) (y := Y) hq
    obtain ⟨_, hkR'⟩ := List.getElem?_eq_some_iff.1 hkR
    obtain ⟨hkp, hkb⟩ := hs.bsm hq
    have hpar := ho2 i q hkR
    have hbod := ho3 i q hkR
    all_goals have fx := And.intro h1 <| And.intro h2 <| And.intro h3 <| And.intro h50 <| And.intro hc1 <| And.intro h51 <| And.intro h52 <| And.intro hsg <| And.intro hse <| And.intro hlt <| And.intro hu <| And.intro hw <| And.intro @bne_def <| And.intro h11 <| And.intro hp11 <| And.intro ho1 <| And.intro hkR <| hkR'
    repeat' (first
     | refine w_seq ?_ | refine w_block ?_ | refine w_skip ?_ | refine w_reg fun K hK => ?_
     | ((with_reducible refine s_end hK ?_); clear hK K)
     | (with_reducible first | refine then_normal ?_ | refine in_normal ?_ | refine then_exit ?_ | refine in_exit ?_ | refine then_ret ?_ | refine in_ret ?_ | refine s_nil ?_ | refine in_other (by decide) ?_)
     | refine w_exit ?_
     | refine w_ret ?_
     | (with_reducible refine s_none ?_)
     | ((with_reducible refine g_id ?_); refine x_guard (h := ?_))
     | (with_reducible first | refine gx_tt ?_ | refine gx_ff ?_ | refine x_tf (h := ?_) | refine x_ft (h := ?_) | refine x_u (h := ?_) | refine x_assign (h := ?_) | refine x_box (h := ?_) | refine x_alloc (h := ?_) | refine x_store0 (h := ?_) | refine x_store (h := ?_))
     | ((with_reducible refine o_id 51 rfl ?_); refine x_call (hB := (by first | ((repeat' (first | exact .nil | refine .cons ?_ ?_ | exact .refl _ | exact bw_ints (by simp [fx]; first | done | rfl) (by first | (simp [fx]; done) | (simp [fx]; omega) | omega) | exact bw_list (by simp [fx]; first | done | rfl) (by first | (simp [fx]; done) | (simp [fx]; omega) | omega) (by first | (simp; done) | fail) | exact bw_sc (n := .s 10) (p := p) (k := q) ⟨by simp [hc1], fun j k hj hk => by simp [hc2 j k hj hk]⟩ hh hq)); done) | fail)) (hF := uses_fn' _ p i q X hX) (h := ?_))
     | ((with_reducible refine o_id 52 rfl ?_); refine x_call (hB := (by first | ((repeat' (first | exact .nil | refine .cons ?_ ?_ | exact .refl _ | exact bw_ints (by simp [fx]; first | done | rfl) (by first | (simp [fx]; done) | (simp [fx]; omega) | omega) | exact bw_list (by simp [fx]; first | done | rfl) (by first | (simp [fx]; done) | (simp [fx]; omega) | omega) (by first | (simp; done) | fail) | exact bw_sc (n := .s 10) (p := p) (k := q) ⟨by simp [hc1], fun j k hj hk => by simp [hc2 j k hj hk]⟩ hh hq)); done) | fail)) (hF := scope_owner_fn _ p hp i q hq X hX) (h := ?_))
     | (with_reducible refine x_q (h := ?_))
     | (with_reducible refine gx_s (fun ht => ?_) (fun ht => ?_))
     | refine x_condt (h1 := ?_) | refine x_condf (h1 := ?_)
     | (refine w_sch (id := 21) (.q 0 <| .q 1 <| .q 2 <| .q 3 <| .q 4 <| .q 5 <| .l 6 [2, 1, 0] <| .q 7 <| .l 8 [] <| .done) mixed (by kernel_rfl) (by kernel_rfl) fun K hK => ?_)
     | ((with_reducible refine a_end hK ?_); clear hK K)
     | ((with_reducible refine a_id ?_); first | refine xa_q (h := ?_) | refine xa_qt (h := ?_) | refine xa_qf (h := ?_))
     | ((with_reducible refine a_id ?_); refine xa_gq (h1 := fun ht => ?_) (h2 := fun ht => ?_))
     | refine a_l rfl ?_ | refine a_l2 ?_ ?_ | (with_reducible refine And.intro ?_ ?_) | exact st_nil | refine xa_st (h2 := ?_)
     | fail)
    all_goals try clear fx
    refine w_loop (fun n st => ∃ j : Nat, n = q.params.length - j ∧ j ≤ q.params.length ∧ st.tm 1 = iv B ∧ st.tm 2 = iv X ∧ st.tm 3 = iv Y ∧ st.tm 8 = .pt (.s 8) 0 ∧ st.hp (.s 8) = some (.row 1 [[.hs (.c (.s 8) 0 0) 4 0 0]]) ∧ st.hp (.c (.s 8) 0 0) = some (.row 4 []) ∧ st.tm 11 = .pt (.s 11) 0 ∧ st.hp (.s 11) = some (.row 1 [[.hs (.c (.s 11) 0 0) 4 0 p.length]]) ∧ st.tm 50 = .hs (.s 10) 1 0 p.length ∧ OwnS st.hp (.s 10) p p.length ∧ st.tm 51 = iv p.length ∧ st.tm 52 = iv i ∧
      st.tm 14 = .pt (.s 14) 0 ∧ st.hp (.s 14) = some (.row 4 [[iv q.kind, iv q.parent, .hs (.c (.c (.s 11) 0 0) i 2) 1 0 q.params.length, .hs (.c (.c (.s 11) 0 0) i 3) 4 0 q.body.length]]) ∧ st.tm 74 = .hs (.c (.c (.s 11) 0 0) i 2) 1 0 q.params.length ∧ st.tm 75 = iv q.params.length ∧ st.tm 76 = iv j ∧ st.hp (.c (.s 11) 0 0) = some (.row 4 (pRows (.c (.s 11) 0 0) (renS (tUpto p B X i) X Y p))) ∧
      st.hp (.c (.c (.s 11) 0 0) i 2) = some (.row 1 (irows (mapTo (fun n => swapI n X Y) q.params j))) ∧ st.hp (.c (.c (.s 11) 0 0) i 3) = some (.row 4 (srows q.body)) ∧ (∀ (d : Nat) k, (renS (tUpto p B X i) X Y p)[d]? = some k → d ≠ i → st.hp (.c (.c (.s 11) 0 0) d 2) = some (.row 1 (irows k.params)) ∧ st.hp (.c (.c (.s 11) 0 0) d 3) = some (.row 4 (srows k.body)))) q.params.length ?_ ?_
    · refine ⟨0, by omega, by omega, by simp [h1], by simp [h2], by simp [h3], by simp [h8], by simp [hp8], by simp [hp8'], by simp [h11], by simp [hp11], by simp [h50], ⟨by simp [hc1], fun j k hj hk => by simp [hc2 j k hj hk]⟩, by simp [h51], by simp [h52], by simp, by simp, by simp, by simp, by simp, by simp [ho1], ?_, by simp [hbod], fun d k hq hd => ⟨by simp [ho2 d k hq], by simp [ho3 d k hq]⟩⟩
      rw [mapTo_zero]
      simp [hpar]
    clear h1 h2 h3 h8 hp8 hp8' h11 hp11 h50 hc1 hc2 h51 h52 ho1 ho2 ho3 hpar hbod hsg hse
    rintro n st - - ⟨j, rfl, hj, h1, h2, h3, h8, hp8, hp8', h11, hp11, h50, ⟨hc1, hc2⟩, h51, h52, h14, hp14, h74, h75, h76, ho1, hpar, hbod, hoth⟩
    all_goals have fx := And.intro h75 <| h76
    repeat' (first
     | refine w_seq ?_ | refine w_block ?_ | refine w_skip ?_ | refine w_reg fun K hK => ?_
     | ((with_reducible refine s_end hK ?_); clear hK K)
     | (with_reducible first | refine then_normal ?_ | refine in_normal ?_ | refine then_exit ?_ | refine in_exit ?_ | refine then_ret ?_ | refine in_ret ?_ | refine s_nil ?_ | refine in_other (by decide) ?_)
     | refine w_exit ?_
     | refine w_ret ?_
     | (with_reducible refine s_none ?_)
     | ((with_reducible refine g_id ?_); refine x_guard (h := ?_))
     | (with_reducible first | refine gx_tt ?_ | refine gx_ff ?_ | refine x_tf (h := ?_) | refine x_ft (h := ?_) | refine x_u (h := ?_) | refine x_assign (h := ?_) | refine x_box (h := ?_) | refine x_alloc (h := ?_) | refine x_store0 (h := ?_) | refine x_store (h := ?_))
     | (with_reducible refine x_q (h := ?_))
     | (with_reducible refine gx_s (fun ht => ?_) (fun ht => ?_))
     | refine x_condt (h1 := ?_) | refine x_condf (h1 := ?_)
     | (refine w_sch (id := 21) (.q 0 <| .q 1 <| .q 2 <| .q 3 <| .q 4 <| .q 5 <| .l 6 [2, 1, 0] <| .q 7 <| .l 8 [] <| .done) mixed (by kernel_rfl) (by kernel_rfl) fun K hK => ?_)
     | ((with_reducible refine a_end hK ?_); clear hK K)
     | ((with_reducible refine a_id ?_); first | refine xa_q (h := ?_) | refine xa_qt (h := ?_) | refine xa_qf (h := ?_))
     | ((with_reducible refine a_id ?_); refine xa_gq (h1 := fun ht => ?_) (h2 := fun ht => ?_))
     | refine a_l rfl ?_ | refine a_l2 ?_ ?_ | (with_reducible refine And.intro ?_ ?_) | exact st_nil | refine xa_st (h2 := ?_)
     | fail)
    all_goals try clear fx
    refine w_if (by simp []; first | done | rfl | exact (Bool.not_not _).symm) (fun ht => ?_) (fun hf => ?_)
    · have hjl : j < q.params.length := by simpa using ht
      obtain ⟨u, hpu⟩ : ∃ u, q.params[j]? = some u := ⟨_, List.getElem?_eq_getElem hjl⟩
      have hm := mapTo_get (f := fun n => swapI n X Y) hpu
      obtain ⟨_, hm'⟩ := List.getElem?_eq_some_iff.1 hm
      clear ht
      cases hux : (u == (X : Int))
      · have hsw : swapI u X Y = u := by
          have : ¬ u = X := by simpa using hux
          simp [swapI, this]
        all_goals have fx := And.intro h2 <| And.intro h3 <| And.intro h14 <| And.intro hp14 <| And.intro h74 <| And.intro h75 <| And.intro h76 <| And.intro hpar <| And.intro hjl <| And.intro hm <| And.intro hm' <| hux
        repeat' (first
         | refine w_seq ?_ | refine w_block ?_ | refine w_skip ?_ | refine w_reg fun K hK => ?_
         | ((with_reducible refine s_end hK ?_); clear hK K)
         | (with_reducible first | refine then_normal ?_ | refine in_normal ?_ | refine then_exit ?_ | refine in_exit ?_ | refine then_ret ?_ | refine in_ret ?_ | refine s_nil ?_ | refine in_other (by decide) ?_)
         | refine w_exit ?_
         | refine w_ret ?_
         | (with_reducible refine s_none ?_)
         | ((with_reducible refine g_id ?_); refine x_guard (h := ?_))
         | (with_reducible first | refine gx_tt ?_ | refine gx_ff ?_ | refine x_tf (h := ?_) | refine x_ft (h := ?_) | refine x_u (h := ?_) | refine x_assign (h := ?_) | refine x_box (h := ?_) | refine x_alloc (h := ?_) | refine x_store0 (h := ?_) | refine x_store (h := ?_))
         | (with_reducible refine x_q (h := ?_))
         | (with_reducible refine gx_s (fun ht => ?_) (fun ht => ?_))
         | refine x_condt (h1 := ?_) | refine x_condf (h1 := ?_)
         | (refine w_sch (id := 21) (.q 0 <| .q 1 <| .q 2 <| .q 3 <| .q 4 <| .q 5 <| .l 6 [2, 1, 0] <| .q 7 <| .l 8 [] <| .done) mixed (by kernel_rfl) (by kernel_rfl) fun K hK => ?_)
         | ((with_reducible refine a_end hK ?_); clear hK K)
         | ((with_reducible refine a_id ?_); first | refine xa_q (h := ?_) | refine xa_qt (h := ?_) | refine xa_qf (h := ?_))
         | ((with_reducible refine a_id ?_); refine xa_gq (h1 := fun ht => ?_) (h2 := fun ht => ?_))
         | refine a_l rfl ?_ | refine a_l2 ?_ ?_ | (with_reducible refine And.intro ?_ ?_) | exact st_nil | refine xa_st (h2 := ?_)
         | fail)
        all_goals try clear fx
        refine ⟨q.params.length - (j + 1), by omega, j + 1, rfl, by omega, by simp [h1], by simp [h2], by simp [h3], by simp [h8], by simp [hp8], by simp [hp8'], by simp [h11], by simp [hp11], by simp [h50], ⟨by simp [hc1], fun j k hj hk => by simp [hc2 j k hj hk]⟩, by simp [h51], by simp [h52], by simp [h14], by simp [hp14], by simp [h74], by simp [h75], by simp; exact wrp (by omega) (by omega), by simp [ho1], ?_, by simp [hbod], fun d k hq hd => ⟨by simp [(hoth d k hq hd).1], by simp [(hoth d k hq hd).2]⟩⟩
        rw [mapTo_same (f := fun n => swapI n X Y) hpu hsw]
        simp [hpar]
      · have hsw : swapI u X Y = Y := by
          have : u = X := by simpa using hux
          simp [swapI, this]
        all_goals have fx := And.intro h2 <| And.intro h3 <| And.intro h14 <| And.intro hp14 <| And.intro h74 <| And.intro h75 <| And.intro h76 <| And.intro hpar <| And.intro hjl <| And.intro hm <| And.intro hm' <| hux
        repeat' (first
         | refine w_seq ?_ | refine w_block ?_ | refine w_skip ?_ | refine w_reg fun K hK => ?_
         | ((with_reducible refine s_end hK ?_); clear hK K)
         | (with_reducible first | refine then_normal ?_ | refine in_normal ?_ | refine then_exit ?_ | refine in_exit ?_ | refine then_ret ?_ | refine in_ret ?_ | refine s_nil ?_ | refine in_other (by decide) ?_)
         | refine w_exit ?_
         | refine w_ret ?_
         | (with_reducible refine s_none ?_)
         | ((with_reducible refine g_id ?_); refine x_guard (h := ?_))
         | (with_reducible first | refine gx_tt ?_ | refine gx_ff ?_ | refine x_tf (h := ?_) | refine x_ft (h := ?_) | refine x_u (h := ?_) | refine x_assign (h := ?_) | refine x_box (h := ?_) | refine x_alloc (h := ?_) | refine x_store0 (h := ?_) | refine x_store (h := ?_))
         | (with_reducible refine x_q (h := ?_))
         | (with_reducible refine gx_s (fun ht => ?_) (fun ht => ?_))
         | refine x_condt (h1 := ?_) | refine x_condf (h1 := ?_)
         | (refine w_sch (id := 21) (.q 0 <| .q 1 <| .q 2 <| .q 3 <| .q 4 <| .q 5 <| .l 6 [2, 1, 0] <| .q 7 <| .l 8 [] <| .done) mixed (by kernel_rfl) (by kernel_rfl) fun K hK => ?_)
         | ((with_reducible refine a_end hK ?_); clear hK K)
         | ((with_reducible refine a_id ?_); first | refine xa_q (h := ?_) | refine xa_qt (h := ?_) | refine xa_qf (h := ?_))
         | ((with_reducible refine a_id ?_); refine xa_gq (h1 := fun ht => ?_) (h2 := fun ht => ?_))
         | refine a_l rfl ?_ | refine a_l2 ?_ ?_ | (with_reducible refine And.intro ?_ ?_) | exact st_nil | refine xa_st (h2 := ?_)
         | fail)
        all_goals try clear fx
        refine ⟨q.params.length - (j + 1), by omega, j + 1, rfl, by omega, by simp [h1], by simp [h2], by simp [h3], by simp [h8], by simp [hp8], by simp [hp8'], by simp [h11], by simp [hp11], by simp [h50], ⟨by simp [hc1], fun j k hj hk => by simp [hc2 j k hj hk]⟩, by simp [h51], by simp [h52], by simp [h14], by simp [hp14], by simp [h74], by simp [h75], by simp; exact wrp (by omega) (by omega), by simp [ho1], ?_, by simp [hbod], fun d k hq hd => ⟨by simp [(hoth d k hq hd).1, hd], by simp [(hoth d k hq hd).2]⟩⟩
        rw [← mapTo_set (f := fun n => swapI n X Y) hpu]
        simp [irows, hsw]
    have hge : j = q.params.length := by
      have : ¬ j < q.params.length := by simpa using hf
      omega
    subst hge
    rw [mapTo_all] at hpar
    clear hf
    all_goals have fx := And.intro h14 <| hp14
    repeat' (first
     | refine w_seq ?_ | refine w_block ?_ | refine w_skip ?_ | refine w_reg fun K hK => ?_
     | ((with_reducible refine s_end hK ?_); clear hK K)
     | (with_reducible first | refine then_normal ?_ | refine in_normal ?_ | refine then_exit ?_ | refine in_exit ?_ | refine then_ret ?_ | refine in_ret ?_ | refine s_nil ?_ | refine in_other (by decide) ?_)
     | refine w_exit ?_
     | refine w_ret ?_
     | (with_reducible refine s_none ?_)
     | ((with_reducible refine g_id ?_); refine x_guard (h := ?_))
     | (with_reducible first | refine gx_tt ?_ | refine gx_ff ?_ | refine x_tf (h := ?_) | refine x_ft (h := ?_) | refine x_u (h := ?_) | refine x_assign (h := ?_) | refine x_box (h := ?_) | refine x_alloc (h := ?_) | refine x_store0 (h := ?_) | refine x_store (h := ?_))
     | (with_reducible refine x_q (h := ?_))
     | (with_reducible refine gx_s (fun ht => ?_) (fun ht => ?_))
     | refine x_condt (h1 := ?_) | refine x_condf (h1 := ?_)
     | (refine w_sch (id := 21) (.q 0 <| .q 1 <| .q 2 <| .q 3 <| .q 4 <| .q 5 <| .l 6 [2, 1, 0] <| .q 7 <| .l 8 [] <| .done) mixed (by kernel_rfl) (by kernel_rfl) fun K hK => ?_)
     | ((with_reducible refine a_end hK ?_); clear hK K)
     | ((with_reducible refine a_id ?_); first | refine xa_q (h := ?_) | refine xa_qt (h := ?_) | refine xa_qf (h := ?_))
     | ((with_reducible refine a_id ?_); refine xa_gq (h1 := fun ht => ?_) (h2 := fun ht => ?_))
     | refine a_l rfl ?_ | refine a_l2 ?_ ?_ | (with_reducible refine And.intro ?_ ?_) | exact st_nil | refine xa_st (h2 := ?_)
     | fail)
    all_goals try clear fx
    refine w_loop (fun n st => ∃ j : Nat, n = q.body.length - j ∧ j ≤ q.body.length ∧ st.tm 1 = iv B ∧ st.tm 2 = iv X ∧ st.tm 3 = iv Y ∧ st.tm 8 = .pt (.s 8) 0 ∧ st.hp (.s 8) = some (.row 1 [[.hs (.c (.s 8) 0 0) 4 0 0]]) ∧ st.hp (.c (.s 8) 0 0) = some (.row 4 []) ∧ st.tm 11 = .pt (.s 11) 0 ∧ st.hp (.s 11) = some (.row 1 [[.hs (.c (.s 11) 0 0) 4 0 p.length]]) ∧ st.tm 50 = .hs (.s 10) 1 0 p.length ∧ OwnS st.hp (.s 10) p p.length ∧ st.tm 51 = iv p.length ∧ st.tm 52 = iv i ∧
      st.tm 14 = .pt (.s 14) 0 ∧ st.hp (.s 14) = some (.row 4 [[iv q.kind, iv q.parent, .hs (.c (.c (.s 11) 0 0) i 2) 1 0 q.params.length, .hs (.c (.c (.s 11) 0 0) i 3) 4 0 q.body.length]]) ∧ st.tm 91 = .hs (.c (.c (.s 11) 0 0) i 3) 4 0 q.body.length ∧ st.tm 92 = iv q.body.length ∧ st.tm 93 = iv j ∧ st.hp (.c (.s 11) 0 0) = some (.row 4 (pRows (.c (.s 11) 0 0) (renS (tUpto p B X i) X Y p))) ∧
      st.hp (.c (.c (.s 11) 0 0) i 2) = some (.row 1 (irows (q.params.map (fun n => swapI n X Y)))) ∧ st.hp (.c (.c (.s 11) 0 0) i 3) = some (.row 4 (srows (mapTo (fun s => s.ren X Y) q.body j))) ∧ (∀ (d : Nat) k, (renS (tUpto p B X i) X Y p)[d]? = some k → d ≠ i → st.hp (.c (.c (.s 11) 0 0) d 2) = some (.row 1 (irows k.params)) ∧ st.hp (.c (.c (.s 11) 0 0) d 3) = some (.row 4 (srows k.body)))) q.body.length ?_ ?_
    · refine ⟨0, by omega, by omega, by simp [h1], by simp [h2], by simp [h3], by simp [h8], by simp [hp8], by simp [hp8'], by simp [h11], by simp [hp11], by simp [h50], ⟨by simp [hc1], fun j k hj hk => by simp [hc2 j k hj hk]⟩, by simp [h51], by simp [h52], by simp [h14], by simp [hp14], by simp, by simp, by simp, by simp [ho1], by simp [hpar], ?_, fun d k hq hd => ⟨by simp [(hoth d k hq hd).1], by simp [(hoth d k hq hd).2]⟩⟩
      rw [mapTo_zero]
      simp [hbod]
    clear h1 h2 h3 h8 hp8 hp8' h11 hp11 h50 hc1 hc2 h51 h52 ho1 hpar hbod hoth h14 hp14 h74 h75 h76
    rintro n st - - ⟨j, rfl, hj, h1, h2, h3, h8, hp8, hp8', h11, hp11, h50, ⟨hc1, hc2⟩, h51, h52, h14, hp14, h91, h92, h93, ho1, hpar, hbod, hoth⟩
    all_goals have fx := And.intro h92 <| h93
    repeat' (first
     | refine w_seq ?_ | refine w_block ?_ | refine w_skip ?_ | refine w_reg fun K hK => ?_
     | ((with_reducible refine s_end hK ?_); clear hK K)
     | (with_reducible first | refine then_normal ?_ | refine in_normal ?_ | refine then_exit ?_ | refine in_exit ?_ | refine then_ret ?_ | refine in_ret ?_ | refine s_nil ?_ | refine in_other (by decide) ?_)
     | refine w_exit ?_
     | refine w_ret ?_
     | (with_reducible refine s_none ?_)
     | ((with_reducible refine g_id ?_); refine x_guard (h := ?_))
     | (with_reducible first | refine gx_tt ?_ | refine gx_ff ?_ | refine x_tf (h := ?_) | refine x_ft (h := ?_) | refine x_u (h := ?_) | refine x_assign (h := ?_) | refine x_box (h := ?_) | refine x_alloc (h := ?_) | refine x_store0 (h := ?_) | refine x_store (h := ?_))
     | (with_reducible refine x_q (h := ?_))
     | (with_reducible refine gx_s (fun ht => ?_) (fun ht => ?_))
     | refine x_condt (h1 := ?_) | refine x_condf (h1 := ?_)
     | (refine w_sch (id := 21) (.q 0 <| .q 1 <| .q 2 <| .q 3 <| .q 4 <| .q 5 <| .l 6 [2, 1, 0] <| .q 7 <| .l 8 [] <| .done) mixed (by kernel_rfl) (by kernel_rfl) fun K hK => ?_)
     | ((with_reducible refine a_end hK ?_); clear hK K)
     | ((with_reducible refine a_id ?_); first | refine xa_q (h := ?_) | refine xa_qt (h := ?_) | refine xa_qf (h := ?_))
     | ((with_reducible refine a_id ?_); refine xa_gq (h1 := fun ht => ?_) (h2 := fun ht => ?_))
     | refine a_l rfl ?_ | refine a_l2 ?_ ?_ | (with_reducible refine And.intro ?_ ?_) | exact st_nil | refine xa_st (h2 := ?_)
     | fail)
    all_goals try clear fx
    refine w_if (by simp []; first | done | rfl | exact (Bool.not_not _).symm) (fun ht => ?_) (fun hf => ?_)
    · have hjl : j < q.body.length := by simpa using ht
      obtain ⟨u, hpu⟩ : ∃ u, q.body[j]? = some u := ⟨_, List.getElem?_eq_getElem hjl⟩
      have hm := mapTo_get (f := fun s => s.ren X Y) hpu
      obtain ⟨_, hm'⟩ := List.getElem?_eq_some_iff.1 hm
      have huk := (hp.names q (List.mem_of_getElem? hq)).kinds u (List.mem_of_getElem? hpu)
      clear ht
      all_goals have fx := And.intro h2 <| And.intro h3 <| And.intro h14 <| And.intro hp14 <| And.intro h91 <| And.intro h92 <| And.intro h93 <| And.intro hbod <| And.intro hjl <| And.intro hm <| hm'
      repeat' (first
       | refine w_seq ?_ | refine w_block ?_ | refine w_skip ?_ | refine w_reg fun K hK => ?_
       | ((with_reducible refine s_end hK ?_); clear hK K)
       | (with_reducible first | refine then_normal ?_ | refine in_normal ?_ | refine then_exit ?_ | refine in_exit ?_ | refine then_ret ?_ | refine in_ret ?_ | refine s_nil ?_ | refine in_other (by decide) ?_)
       | refine w_exit ?_
       | refine w_ret ?_
       | (with_reducible refine s_none ?_)
       | ((with_reducible refine g_id ?_); refine x_guard (h := ?_))
       | (with_reducible first | refine gx_tt ?_ | refine gx_ff ?_ | refine x_tf (h := ?_) | refine x_ft (h := ?_) | refine x_u (h := ?_) | refine x_assign (h := ?_) | refine x_box (h := ?_) | refine x_alloc (h := ?_) | refine x_store0 (h := ?_) | refine x_store (h := ?_))
       | ((with_reducible refine o_id 53 rfl ?_); refine x_call (hF := impl_renamed_fn _ u X Y huk) (h := ?_))
       | (with_reducible refine x_q (h := ?_))
       | (with_reducible refine gx_s (fun ht => ?_) (fun ht => ?_))
       | refine x_condt (h1 := ?_) | refine x_condf (h1 := ?_)
       | (refine w_sch (id := 21) (.q 0 <| .q 1 <| .q 2 <| .q 3 <| .q 4 <| .q 5 <| .l 6 [2, 1, 0] <| .q 7 <| .l 8 [] <| .done) mixed (by kernel_rfl) (by kernel_rfl) fun K hK => ?_)
       | ((with_reducible refine a_end hK ?_); clear hK K)
       | ((with_reducible refine a_id ?_); first | refine xa_q (h := ?_) | refine xa_qt (h := ?_) | refine xa_qf (h := ?_))
       | ((with_reducible refine a_id ?_); refine xa_gq (h1 := fun ht => ?_) (h2 := fun ht => ?_))
       | refine a_l rfl ?_ | refine a_l2 ?_ ?_ | (with_reducible refine And.intro ?_ ?_) | exact st_nil | refine xa_st (h2 := ?_)
       | fail)
      all_goals try clear fx
      refine ⟨q.body.length - (j + 1), by omega, j + 1, rfl, by omega, by simp [h1], by simp [h2], by simp [h3], by simp [h8], by simp [hp8], by simp [hp8'], by simp [h11], by simp [hp11], by simp [h50], ⟨by simp [hc1], fun j k hj hk => by simp [hc2 j k hj hk]⟩, by simp [h51], by simp [h52], by simp [h14], by simp [hp14], by simp [h91], by simp [h92], by simp; exact wrp (by omega) (by omega), by simp [ho1], by simp [hpar], ?_, fun d k hq hd => ⟨by simp [(hoth d k hq hd).1], by simp [(hoth d k hq hd).2, hd]⟩⟩
      rw [← mapTo_set (f := fun s => s.ren X Y) hpu]
      simp [srows_set]
    have hge : j = q.body.length := by
      have : ¬ j < q.body.length := by simpa using hf
      omega
    subst hge
    rw [mapTo_all] at hbod
    clear hf
    all_goals have fx :=  h52
    repeat' (first
     | refine w_seq ?_ | refine w_block ?_ | refine w_skip ?_ | refine w_reg fun K hK => ?_
     | ((with_reducible refine s_end hK ?_); clear hK K)
     | (with_reducible first | refine then_normal ?_ | refine in_normal ?_ | refine then_exit ?_ | refine in_exit ?_ | refine then_ret ?_ | refine in_ret ?_ | refine s_nil ?_ | refine in_other (by decide) ?_)
     | refine w_exit ?_
     | refine w_ret ?_
     | (with_reducible refine s_none ?_)
     | ((with_reducible refine g_id ?_); refine x_guard (h := ?_))
     | (with_reducible first | refine gx_tt ?_ | refine gx_ff ?_ | refine x_tf (h := ?_) | refine x_ft (h := ?_) | refine x_u (h := ?_) | refine x_assign (h := ?_) | refine x_box (h := ?_) | refine x_alloc (h := ?_) | refine x_store0 (h := ?_) | refine x_store (h := ?_))
     | (with_reducible refine x_q (h := ?_))
     | (with_reducible refine gx_s (fun ht => ?_) (fun ht => ?_))
     | refine x_condt (h1 := ?_) | refine x_condf (h1 := ?_)
     | (refine w_sch (id := 21) (.q 0 <| .q 1 <| .q 2 <| .q 3 <| .q 4 <| .q 5 <| .l 6 [2, 1, 0] <| .q 7 <| .l 8 [] <| .done) mixed (by kernel_rfl) (by kernel_rfl) fun K hK => ?_)
     | ((with_reducible refine a_end hK ?_); clear hK K)
     | ((with_reducible refine a_id ?_); first | refine xa_q (h := ?_) | refine xa_qt (h := ?_) | refine xa_qf (h := ?_))
     | ((with_reducible refine a_id ?_); refine xa_gq (h1 := fun ht => ?_) (h2 := fun ht => ?_))
     | refine a_l rfl ?_ | refine a_l2 ?_ ?_ | (with_reducible refine And.intro ?_ ?_) | exact st_nil | refine xa_st (h2 := ?_)
     | fail)
    all_goals try clear fx
    refine ⟨p.length - (i + 1), by omega, i + 1, rfl, by omega, by simp [h1], by simp [h2], by simp [h3], by simp [h8], by simp [hp8], by simp [hp8'], by simp [h11], by simp [hp11], by simp [h50], ⟨by simp [hc1], fun j k hj hk => by simp [hc2 j k hj hk]⟩, by simp [h51], by simp; exact wrp (by omega) (by omega), ?_⟩
    rw [← upto_step hq hto]
    refine ⟨?_, fun d k hq => ?_, fun d k hq => ?_⟩
    · rw [pRows_ren hkR]
      simp [ho1]
    all_goals
      rw [List.getElem?_set] at hq
      by_cases e : i = d
      · subst e
        rw [if_pos rfl, if_pos (List.getElem?_eq_some_iff.1 hkR).1] at hq
        obtain rfl := Option.some.inj hq
        simp [hpar, hbod, Blk.ren]
      · rw [if_neg e] at hq
        simp [(hoth d k hq (Ne.symm e)).1, (hoth d k hq (Ne.symm e)).2]
  have hge : i = p.length := by
    have : ¬ i < p.length := by simpa using hf
    omega
  subst hge
  simp only [upto_all] at ho1 ho2 ho3
  clear hf
  all_goals have fx := And.intro h8 <| And.intro hp8 <| And.intro hp8' <| And.intro h11 <| hp11
  repeat' (first
   | refine w_seq ?_ | refine w_block ?_ | refine w_skip ?_ | refine w_reg fun K hK => ?_
   | ((with_reducible refine s_end hK ?_); clear hK K)
   | (with_reducible first | refine then_normal ?_ | refine in_normal ?_ | refine then_exit ?_ | refine in_exit ?_ | refine then_ret ?_ | refine in_ret ?_ | refine s_nil ?_ | refine in_other (by decide) ?_)
   | refine w_exit ?_
   | refine w_ret ?_
   | (with_reducible refine s_none ?_)
   | ((with_reducible refine g_id ?_); refine x_guard (h := ?_))
   | (with_reducible first | refine gx_tt ?_ | refine gx_ff ?_ | refine x_tf (h := ?_) | refine x_ft (h := ?_) | refine x_u (h := ?_) | refine x_assign (h := ?_) | refine x_box (h := ?_) | refine x_alloc (h := ?_) | refine x_store0 (h := ?_) | refine x_store (h := ?_))
   | (with_reducible refine x_q (h := ?_))
   | (with_reducible refine gx_s (fun ht => ?_) (fun ht => ?_))
   | refine x_condt (h1 := ?_) | refine x_condf (h1 := ?_)
   | (refine w_sch (id := 21) (.q 0 <| .q 1 <| .q 2 <| .q 3 <| .q 4 <| .q 5 <| .l 6 [2, 1, 0] <| .q 7 <| .l 8 [] <| .done) mixed (by kernel_rfl) (by kernel_rfl) fun K hK => ?_)
   | ((with_reducible refine a_end hK ?_); clear hK K)
   | ((with_reducible refine a_id ?_); first | refine xa_q (h := ?_) | refine xa_qt (h := ?_) | refine xa_qf (h := ?_))
   | ((with_reducible refine a_id ?_); refine xa_gq (h1 := fun ht => ?_) (h2 := fun ht => ?_))
   | refine a_l rfl ?_ | refine a_l2 ?_ ?_ | (with_reducible refine And.intro ?_ ?_) | exact st_nil | refine xa_st (h2 := ?_)
   | fail)
  all_goals try clear fx
  refine e_ret [(.c (.s 11) 0 0, root)] (.one rfl) (by simp [h8]; rfl) ⟨by simp, ⟨?_, fun j r hj => ?_, fun j r hj => ?_⟩⟩
  · simp [ho1, pRows_tr (n := .c (.s 11) 0 0) (m := root) (f := finf noD [(.c (.s 11) 0 0, root)]) (p := renS (touches p B X) X Y p) (by simp)]
  · simp [ho2 j r hj]
  · simp [ho3 j r hj]
end Go.Proofs.Ytopgafhjmbfaoaa
end
