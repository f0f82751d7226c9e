/-
  Own texts, joined by merge.py: Li.
-/
import Derived.Test.YtopgafhjmbfaoaaCC
import Derived.Test.YtopgafhjmbfaoaaA6
import Derived.Test.YtopgafhjmbfaoaaBQ
import Derived.Test.YtopgafhjmbfaoaaBP

section
/-
  The law: LeanProgram returns what the reference's returns.
-/
set_option maxRecDepth 100000
set_option maxHeartbeats 1000000
set_option linter.unusedSimpArgs false
namespace Go.Proofs.Ytopgafhjmbfaoaa
open Go Go.Hm Go.Proofs

theorem FnExactLeanProgram_fn (gl) (p : Prg) (hb : Big p) : FnOk Try.prog gl 6 [pav p] (fun _ y _ => y = bv true) := by
  refine FnOk.of_sem Try.func6 rfl (by kernel_rfl) (rs := [.tmp 2]) rfl Try.ntmps6 (Nat.le_of_ble_eq_true rfl) fun C w g root => ?_
  by_cases ht : tot p ≤ 1048576
  case neg =>
    all_goals have fx :=  ht
    repeat' (first
     | refine w_seq ?_ | refine w_skip ?_ | refine w_reg fun K hK => ?_
     | ((with_reducible refine s_end hK ?_); clear hK K)
     | (with_reducible first | refine then_normal ?_ | refine then_ret ?_ | refine s_nil ?_)
     | refine w_ret ?_
     | (with_reducible refine s_none ?_)
     | ((with_reducible refine g_id ?_); refine x_guard (h := ?_))
     | (with_reducible first | refine gx_tt ?_ | refine gx_ff ?_ | refine x_tf (h := ?_) | refine x_ft (h := ?_) | refine x_u (h := ?_) | refine x_assign (h := ?_) | refine x_box (h := ?_) | refine x_alloc (h := ?_) | refine x_store0 (h := ?_) | refine x_store (h := ?_))
     | ((with_reducible refine o_id 7 rfl ?_); refine x_call (hF := szProgram_fn _ p hb) (h := ?_))
     | (with_reducible refine x_q (h := ?_))
     | (with_reducible refine gx_s (fun ht => ?_) (fun ht => ?_))
     | refine x_condt (h1 := ?_) | refine x_condf (h1 := ?_)
     | (refine w_sch (id := 10) (.q 0 <| .q 1 <| .l 2 [0] <| .l 3 [] <| .q 4 <| .done) mixed (by kernel_rfl) (by kernel_rfl) fun K hK => ?_)
     | ((with_reducible refine a_end hK ?_); clear hK K)
     | ((with_reducible refine a_id ?_); first | refine xa_q (h := ?_) | refine xa_qt (h := ?_) | refine xa_qf (h := ?_))
     | ((with_reducible refine a_id ?_); refine xa_gq (h1 := fun ht => ?_) (h2 := fun ht => ?_))
     | refine a_l rfl ?_ | refine a_l2 ?_ ?_ | (with_reducible refine And.intro ?_ ?_) | exact st_nil | refine xa_st (h2 := ?_)
     | fail)
    all_goals try clear fx
    refine e_ret [] .nil (by simp; rfl) (by simp)
  have hs := tot_sml ht
  have hge : ¬ 1048576 - (tot p : Int) < 0 := by omega
  have hsf := spec_LeanProgram_fn gl p hs
  have hif := impl_LeanProgram_fn gl p hs
  have hG := leanG_sml hs
  generalize leanG p = G at hsf hif hG
  have hGl := hG.len
  all_goals have fx := And.intro ht <| hge
  repeat' (first
   | refine w_seq ?_ | refine w_skip ?_ | refine w_reg fun K hK => ?_
   | ((with_reducible refine s_end hK ?_); clear hK K)
   | (with_reducible first | refine then_normal ?_ | refine then_ret ?_ | refine s_nil ?_)
   | refine w_ret ?_
   | (with_reducible refine s_none ?_)
   | ((with_reducible refine g_id ?_); refine x_guard (h := ?_))
   | (with_reducible first | refine gx_tt ?_ | refine gx_ff ?_ | refine x_tf (h := ?_) | refine x_ft (h := ?_) | refine x_u (h := ?_) | refine x_assign (h := ?_) | refine x_box (h := ?_) | refine x_alloc (h := ?_) | refine x_store0 (h := ?_) | refine x_store (h := ?_))
   | ((with_reducible refine o_id 7 rfl ?_); refine x_call (hF := szProgram_fn _ p hb) (h := ?_))
   | ((with_reducible refine o_id 9 rfl ?_); refine x_callg (hF := toProgram_fn _ p hs) (h := ?_))
   | (with_reducible refine x_q (h := ?_))
   | (with_reducible refine gx_s (fun ht => ?_) (fun ht => ?_))
   | refine x_condt (h1 := ?_) | refine x_condf (h1 := ?_)
   | (refine w_sch (id := 10) (.q 0 <| .q 1 <| .l 2 [0] <| .l 3 [] <| .q 4 <| .done) mixed (by kernel_rfl) (by kernel_rfl) fun K hK => ?_)
   | ((with_reducible refine a_end hK ?_); clear hK K)
   | ((with_reducible refine a_id ?_); first | refine xa_q (h := ?_) | refine xa_qt (h := ?_) | refine xa_qf (h := ?_))
   | ((with_reducible refine a_id ?_); refine xa_gq (h1 := fun ht => ?_) (h2 := fun ht => ?_))
   | refine a_l rfl ?_ | refine a_l2 ?_ ?_ | (with_reducible refine And.intro ?_ ?_) | exact st_nil | refine xa_st (h2 := ?_)
   | fail)
  all_goals try clear fx
  rintro y H1 ⟨rfl, hO⟩
  obtain ⟨ho1, ho2, ho3⟩ := hO.hcln
  refine ⟨by simp, ?_⟩
  all_goals have fx := And.intro ht <| hge
  repeat' (first
   | refine w_seq ?_ | refine w_skip ?_ | refine w_reg fun K hK => ?_
   | ((with_reducible refine s_end hK ?_); clear hK K)
   | (with_reducible first | refine then_normal ?_ | refine then_ret ?_ | refine s_nil ?_)
   | refine w_ret ?_
   | (with_reducible refine s_none ?_)
   | ((with_reducible refine g_id ?_); refine x_guard (h := ?_))
   | (with_reducible first | refine gx_tt ?_ | refine gx_ff ?_ | refine x_tf (h := ?_) | refine x_ft (h := ?_) | refine x_u (h := ?_) | refine x_assign (h := ?_) | refine x_box (h := ?_) | refine x_alloc (h := ?_) | refine x_store0 (h := ?_) | refine x_store (h := ?_))
   | ((with_reducible refine o_id 21 rfl ?_); refine x_callg (hB := (by first | ((repeat' (first | exact .nil | refine .cons ?_ ?_ | exact .refl _ | exact bw_ints (by simp [fx]; first | done | rfl) (by first | (simp [fx]; done) | (simp [fx]; omega) | omega) | exact bw_list (by simp [fx]; first | done | rfl) (by first | (simp [fx]; done) | (simp [fx]; omega) | omega) (by first | (simp; done) | fail) | exact bw_agg1 (bw_prog (p := p) ⟨by simp [ho1], fun j r hj => by simp [ho2 j r hj], fun j r hj => by simp [ho3 j r hj]⟩ rfl))); done) | fail)) (hF := hsf) (h := ?_))
   | (with_reducible refine x_q (h := ?_))
   | (with_reducible refine gx_s (fun ht => ?_) (fun ht => ?_))
   | refine x_condt (h1 := ?_) | refine x_condf (h1 := ?_)
   | (refine w_sch (id := 10) (.q 0 <| .q 1 <| .l 2 [0] <| .l 3 [] <| .q 4 <| .done) mixed (by kernel_rfl) (by kernel_rfl) fun K hK => ?_)
   | ((with_reducible refine a_end hK ?_); clear hK K)
   | ((with_reducible refine a_id ?_); first | refine xa_q (h := ?_) | refine xa_qt (h := ?_) | refine xa_qf (h := ?_))
   | ((with_reducible refine a_id ?_); refine xa_gq (h1 := fun ht => ?_) (h2 := fun ht => ?_))
   | refine a_l rfl ?_ | refine a_l2 ?_ ?_ | (with_reducible refine And.intro ?_ ?_) | exact st_nil | refine xa_st (h2 := ?_)
   | fail)
  all_goals try clear fx
  rintro y H2 ⟨rfl, hW⟩
  obtain ⟨hw1, hw2, hw3⟩ := hW.hcln
  refine ⟨by simp, ?_⟩
  clear hO ho1 ho2 ho3
  all_goals have fx :=  hw1
  repeat' (first
   | refine w_seq ?_ | refine w_skip ?_ | refine w_reg fun K hK => ?_
   | ((with_reducible refine s_end hK ?_); clear hK K)
   | (with_reducible first | refine then_normal ?_ | refine then_ret ?_ | refine s_nil ?_)
   | refine w_ret ?_
   | (with_reducible refine s_none ?_)
   | ((with_reducible refine g_id ?_); refine x_guard (h := ?_))
   | (with_reducible first | refine gx_tt ?_ | refine gx_ff ?_ | refine x_tf (h := ?_) | refine x_ft (h := ?_) | refine x_u (h := ?_) | refine x_assign (h := ?_) | refine x_box (h := ?_) | refine x_alloc (h := ?_) | refine x_store0 (h := ?_) | refine x_store (h := ?_))
   | (with_reducible refine x_q (h := ?_))
   | (with_reducible refine gx_s (fun ht => ?_) (fun ht => ?_))
   | refine x_condt (h1 := ?_) | refine x_condf (h1 := ?_)
   | (refine w_sch (id := 10) (.q 0 <| .q 1 <| .l 2 [0] <| .l 3 [] <| .q 4 <| .done) mixed (by kernel_rfl) (by kernel_rfl) fun K hK => ?_)
   | ((with_reducible refine a_end hK ?_); clear hK K)
   | ((with_reducible refine a_id ?_); first | refine xa_q (h := ?_) | refine xa_qt (h := ?_) | refine xa_qf (h := ?_))
   | ((with_reducible refine a_id ?_); refine xa_gq (h1 := fun ht => ?_) (h2 := fun ht => ?_))
   | refine a_l rfl ?_ | refine a_l2 ?_ ?_ | (with_reducible refine And.intro ?_ ?_) | exact st_nil | refine xa_st (h2 := ?_)
   | fail)
  all_goals try clear fx
  refine o_abs (fun st => st.tm 1 = .pt (.s 1) 0 ∧ st.hp (.s 1) = some (.row 1 [[ksl p]]) ∧ BoxP st 4 G ∧ st.tm 19 = pav p) ⟨by simp, by simp, ⟨by simp, by simp, ⟨by simp [hw1], fun j r hj => by simp [hw2 j r hj], fun j r hj => by simp [hw3 j r hj]⟩⟩, by simp⟩ ?_
  clear hW hw1 hw2 hw3
  rintro st ⟨h1, hp1, ⟨h4, hp4, ⟨a1, a2, a3⟩⟩, h25⟩
  all_goals have fx :=  h25
  repeat' (first
   | refine w_seq ?_ | refine w_skip ?_ | refine w_reg fun K hK => ?_
   | ((with_reducible refine s_end hK ?_); clear hK K)
   | (with_reducible first | refine then_normal ?_ | refine then_ret ?_ | refine s_nil ?_)
   | refine w_ret ?_
   | (with_reducible refine s_none ?_)
   | ((with_reducible refine g_id ?_); refine x_guard (h := ?_))
   | (with_reducible first | refine gx_tt ?_ | refine gx_ff ?_ | refine x_tf (h := ?_) | refine x_ft (h := ?_) | refine x_u (h := ?_) | refine x_assign (h := ?_) | refine x_box (h := ?_) | refine x_alloc (h := ?_) | refine x_store0 (h := ?_) | refine x_store (h := ?_))
   | ((with_reducible refine o_id 9 rfl ?_); refine x_callg (hF := toProgram_fn _ p hs) (h := ?_))
   | (with_reducible refine x_q (h := ?_))
   | (with_reducible refine gx_s (fun ht => ?_) (fun ht => ?_))
   | refine x_condt (h1 := ?_) | refine x_condf (h1 := ?_)
   | (refine w_sch (id := 10) (.q 0 <| .q 1 <| .l 2 [0] <| .l 3 [] <| .q 4 <| .done) mixed (by kernel_rfl) (by kernel_rfl) fun K hK => ?_)
   | ((with_reducible refine a_end hK ?_); clear hK K)
   | ((with_reducible refine a_id ?_); first | refine xa_q (h := ?_) | refine xa_qt (h := ?_) | refine xa_qf (h := ?_))
   | ((with_reducible refine a_id ?_); refine xa_gq (h1 := fun ht => ?_) (h2 := fun ht => ?_))
   | refine a_l rfl ?_ | refine a_l2 ?_ ?_ | (with_reducible refine And.intro ?_ ?_) | exact st_nil | refine xa_st (h2 := ?_)
   | fail)
  all_goals try clear fx
  rintro y H3 ⟨rfl, hO⟩
  obtain ⟨ho1, ho2, ho3⟩ := hO.hcln
  refine ⟨by simp, ?_⟩
  all_goals have fx :=  ho1
  repeat' (first
   | refine w_seq ?_ | refine w_skip ?_ | refine w_reg fun K hK => ?_
   | ((with_reducible refine s_end hK ?_); clear hK K)
   | (with_reducible first | refine then_normal ?_ | refine then_ret ?_ | refine s_nil ?_)
   | refine w_ret ?_
   | (with_reducible refine s_none ?_)
   | ((with_reducible refine g_id ?_); refine x_guard (h := ?_))
   | (with_reducible first | refine gx_tt ?_ | refine gx_ff ?_ | refine x_tf (h := ?_) | refine x_ft (h := ?_) | refine x_u (h := ?_) | refine x_assign (h := ?_) | refine x_box (h := ?_) | refine x_alloc (h := ?_) | refine x_store0 (h := ?_) | refine x_store (h := ?_))
   | (with_reducible refine x_q (h := ?_))
   | (with_reducible refine gx_s (fun ht => ?_) (fun ht => ?_))
   | refine x_condt (h1 := ?_) | refine x_condf (h1 := ?_)
   | (refine w_sch (id := 10) (.q 0 <| .q 1 <| .l 2 [0] <| .l 3 [] <| .q 4 <| .done) mixed (by kernel_rfl) (by kernel_rfl) fun K hK => ?_)
   | ((with_reducible refine a_end hK ?_); clear hK K)
   | ((with_reducible refine a_id ?_); first | refine xa_q (h := ?_) | refine xa_qt (h := ?_) | refine xa_qf (h := ?_))
   | ((with_reducible refine a_id ?_); refine xa_gq (h1 := fun ht => ?_) (h2 := fun ht => ?_))
   | refine a_l rfl ?_ | refine a_l2 ?_ ?_ | (with_reducible refine And.intro ?_ ?_) | exact st_nil | refine xa_st (h2 := ?_)
   | fail)
  all_goals try clear fx
  refine o_abs (fun st => st.tm 1 = .pt (.s 1) 0 ∧ st.hp (.s 1) = some (.row 1 [[ksl p]]) ∧ BoxP st 4 G ∧ BoxP st 5 p ∧ st.tm 21 = .agg [.hs (.c (.s 5) 0 0) 4 0 p.length]) ⟨by simp [h1], by simp [hp1], ⟨by simp [h4], by simp [hp4], ⟨by simp [a1], fun j r hj => by simp [a2 j r hj], fun j r hj => by simp [a3 j r hj]⟩⟩, ⟨by simp, by simp, ⟨by simp [ho1], fun j r hj => by simp [ho2 j r hj], fun j r hj => by simp [ho3 j r hj]⟩⟩, by simp⟩ ?_
  clear h1 hp1 h4 hp4 a1 a2 a3 h25 hO ho1 ho2 ho3
  rintro st ⟨h1, hp1, ⟨h4, hp4, ⟨a1, a2, a3⟩⟩, ⟨h6, hp6, ⟨b1, b2, b3⟩⟩, h28⟩
  all_goals have fx :=  h28
  repeat' (first
   | refine w_seq ?_ | refine w_skip ?_ | refine w_reg fun K hK => ?_
   | ((with_reducible refine s_end hK ?_); clear hK K)
   | (with_reducible first | refine then_normal ?_ | refine then_ret ?_ | refine s_nil ?_)
   | refine w_ret ?_
   | (with_reducible refine s_none ?_)
   | ((with_reducible refine g_id ?_); refine x_guard (h := ?_))
   | (with_reducible first | refine gx_tt ?_ | refine gx_ff ?_ | refine x_tf (h := ?_) | refine x_ft (h := ?_) | refine x_u (h := ?_) | refine x_assign (h := ?_) | refine x_box (h := ?_) | refine x_alloc (h := ?_) | refine x_store0 (h := ?_) | refine x_store (h := ?_))
   | ((with_reducible refine o_id 22 rfl ?_); refine x_callg (hB := (by first | ((repeat' (first | exact .nil | refine .cons ?_ ?_ | exact .refl _ | exact bw_ints (by simp [fx]; first | done | rfl) (by first | (simp [fx]; done) | (simp [fx]; omega) | omega) | exact bw_list (by simp [fx]; first | done | rfl) (by first | (simp [fx]; done) | (simp [fx]; omega) | omega) (by first | (simp; done) | fail) | exact bw_agg1 (bw_prog (p := p) ⟨by simp [b1], fun j r hj => by simp [b2 j r hj], fun j r hj => by simp [b3 j r hj]⟩ rfl))); done) | fail)) (hF := hif) (h := ?_))
   | (with_reducible refine x_q (h := ?_))
   | (with_reducible refine gx_s (fun ht => ?_) (fun ht => ?_))
   | refine x_condt (h1 := ?_) | refine x_condf (h1 := ?_)
   | (refine w_sch (id := 10) (.q 0 <| .q 1 <| .l 2 [0] <| .l 3 [] <| .q 4 <| .done) mixed (by kernel_rfl) (by kernel_rfl) fun K hK => ?_)
   | ((with_reducible refine a_end hK ?_); clear hK K)
   | ((with_reducible refine a_id ?_); first | refine xa_q (h := ?_) | refine xa_qt (h := ?_) | refine xa_qf (h := ?_))
   | ((with_reducible refine a_id ?_); refine xa_gq (h1 := fun ht => ?_) (h2 := fun ht => ?_))
   | refine a_l rfl ?_ | refine a_l2 ?_ ?_ | (with_reducible refine And.intro ?_ ?_) | exact st_nil | refine xa_st (h2 := ?_)
   | fail)
  all_goals try clear fx
  rintro y H4 ⟨rfl, hO⟩
  obtain ⟨ho1, ho2, ho3⟩ := hO.hcln
  refine ⟨by simp, ?_⟩
  all_goals have fx := And.intro ho1 <| And.intro h4 <| hp4
  repeat' (first
   | refine w_seq ?_ | refine w_skip ?_ | refine w_reg fun K hK => ?_
   | ((with_reducible refine s_end hK ?_); clear hK K)
   | (with_reducible first | refine then_normal ?_ | refine then_ret ?_ | refine s_nil ?_)
   | refine w_ret ?_
   | (with_reducible refine s_none ?_)
   | ((with_reducible refine g_id ?_); refine x_guard (h := ?_))
   | (with_reducible first | refine gx_tt ?_ | refine gx_ff ?_ | refine x_tf (h := ?_) | refine x_ft (h := ?_) | refine x_u (h := ?_) | refine x_assign (h := ?_) | refine x_box (h := ?_) | refine x_alloc (h := ?_) | refine x_store0 (h := ?_) | refine x_store (h := ?_))
   | (with_reducible refine x_q (h := ?_))
   | (with_reducible refine gx_s (fun ht => ?_) (fun ht => ?_))
   | refine x_condt (h1 := ?_) | refine x_condf (h1 := ?_)
   | (refine w_sch (id := 10) (.q 0 <| .q 1 <| .l 2 [0] <| .l 3 [] <| .q 4 <| .done) mixed (by kernel_rfl) (by kernel_rfl) fun K hK => ?_)
   | ((with_reducible refine a_end hK ?_); clear hK K)
   | ((with_reducible refine a_id ?_); first | refine xa_q (h := ?_) | refine xa_qt (h := ?_) | refine xa_qf (h := ?_))
   | ((with_reducible refine a_id ?_); refine xa_gq (h1 := fun ht => ?_) (h2 := fun ht => ?_))
   | refine a_l rfl ?_ | refine a_l2 ?_ ?_ | (with_reducible refine And.intro ?_ ?_) | exact st_nil | refine xa_st (h2 := ?_)
   | fail)
  all_goals try clear fx
  refine o_abs (fun st => st.tm 1 = .pt (.s 1) 0 ∧ st.hp (.s 1) = some (.row 1 [[ksl p]]) ∧ BoxP st 4 G ∧ BoxP st 5 p ∧ BoxP st 6 G ∧ st.tm 23 = .agg [.hs (.c (.s 6) 0 0) 4 0 G.length] ∧ st.tm 24 = .agg [.hs (.c (.s 4) 0 0) 4 0 G.length])
    ⟨by simp [h1], by simp [hp1], ⟨by simp [h4], by simp [hp4], ⟨by simp [a1], fun j r hj => by simp [a2 j r hj], fun j r hj => by simp [a3 j r hj]⟩⟩, ⟨by simp [h6], by simp [hp6], ⟨by simp [b1], fun j r hj => by simp [b2 j r hj], fun j r hj => by simp [b3 j r hj]⟩⟩,
      ⟨by simp, by simp, ⟨by simp [ho1], fun j r hj => by simp [ho2 j r hj], fun j r hj => by simp [ho3 j r hj]⟩⟩, by simp, by simp⟩ ?_
  clear h1 hp1 h4 hp4 a1 a2 a3 h28 hO ho1 ho2 ho3 h6 hp6 b1 b2 b3
  rintro st ⟨h1, hp1, ⟨h4, hp4, ⟨a1, a2, a3⟩⟩, ⟨h6, hp6, ⟨b1, b2, b3⟩⟩, ⟨h7, hp7, ⟨c1, c2, c3⟩⟩, h32, h33⟩
  all_goals have fx := And.intro h32 <| And.intro h33 <| And.intro h1 <| And.intro hp1 <| And.intro h6 <| And.intro hp6 <| @bne_def
  repeat' (first
   | refine w_seq ?_ | refine w_skip ?_ | refine w_reg fun K hK => ?_
   | ((with_reducible refine s_end hK ?_); clear hK K)
   | (with_reducible first | refine then_normal ?_ | refine then_ret ?_ | refine s_nil ?_)
   | refine w_ret ?_
   | (with_reducible refine s_none ?_)
   | ((with_reducible refine g_id ?_); refine x_guard (h := ?_))
   | (with_reducible first | refine gx_tt ?_ | refine gx_ff ?_ | refine x_tf (h := ?_) | refine x_ft (h := ?_) | refine x_u (h := ?_) | refine x_assign (h := ?_) | refine x_box (h := ?_) | refine x_alloc (h := ?_) | refine x_store0 (h := ?_) | refine x_store (h := ?_))
   | ((with_reducible refine o_id 11 rfl ?_); refine x_call (hB := (by first | ((repeat' (first | exact .nil | refine .cons ?_ ?_ | exact .refl _ | exact bw_ints (by simp [fx]; first | done | rfl) (by first | (simp [fx]; done) | (simp [fx]; omega) | omega) | exact bw_list (by simp [fx]; first | done | rfl) (by first | (simp [fx]; done) | (simp [fx]; omega) | omega) (by first | (simp; done) | fail) | exact bw_agg1 (bw_prog (p := G) (n := .c (.s 6) 0 0) ⟨by simp [c1], fun j r hj => by simp [c2 j r hj], fun j r hj => by simp [c3 j r hj]⟩ rfl) | exact bw_agg1 (bw_prog (p := G) (n := .c (.s 4) 0 0) ⟨by simp [a1], fun j r hj => by simp [a2 j r hj], fun j r hj => by simp [a3 j r hj]⟩ rfl))); done) | fail)) (hF := eqProgram_fn _ G G hG hG) (h := ?_))
   | ((with_reducible refine o_id 9 rfl ?_); refine x_callg (hB := (by first | ((repeat' (first | exact .nil | refine .cons ?_ ?_ | exact .refl _ | exact bw_ints (by simp [fx]; first | done | rfl) (by first | (simp [fx]; done) | (simp [fx]; omega) | omega) | exact bw_list (by simp [fx]; first | done | rfl) (by first | (simp [fx]; done) | (simp [fx]; omega) | omega) (by first | (simp; done) | fail) | exact bw_agg1 (bw_prog (p := G) (n := .c (.s 6) 0 0) ⟨by simp [c1], fun j r hj => by simp [c2 j r hj], fun j r hj => by simp [c3 j r hj]⟩ rfl) | exact bw_agg1 (bw_prog (p := G) (n := .c (.s 4) 0 0) ⟨by simp [a1], fun j r hj => by simp [a2 j r hj], fun j r hj => by simp [a3 j r hj]⟩ rfl))); done) | fail)) (hF := toProgram_fn _ p hs) (h := ?_))
   | (with_reducible refine x_q (h := ?_))
   | (with_reducible refine gx_s (fun ht => ?_) (fun ht => ?_))
   | refine x_condt (h1 := ?_) | refine x_condf (h1 := ?_)
   | (refine w_sch (id := 10) (.q 0 <| .q 1 <| .l 2 [0] <| .l 3 [] <| .q 4 <| .done) mixed (by kernel_rfl) (by kernel_rfl) fun K hK => ?_)
   | ((with_reducible refine a_end hK ?_); clear hK K)
   | ((with_reducible refine a_id ?_); first | refine xa_q (h := ?_) | refine xa_qt (h := ?_) | refine xa_qf (h := ?_))
   | ((with_reducible refine a_id ?_); refine xa_gq (h1 := fun ht => ?_) (h2 := fun ht => ?_))
   | refine a_l rfl ?_ | refine a_l2 ?_ ?_ | (with_reducible refine And.intro ?_ ?_) | exact st_nil | refine xa_st (h2 := ?_)
   | fail)
  all_goals try clear fx
  rintro y H5 ⟨rfl, hO⟩
  obtain ⟨ho1, ho2, ho3⟩ := hO.hcln
  refine ⟨by simp, ?_⟩
  all_goals have fx := And.intro h6 <| And.intro hp6 <| And.intro h1 <| hp1
  repeat' (first
   | refine w_seq ?_ | refine w_skip ?_ | refine w_reg fun K hK => ?_
   | ((with_reducible refine s_end hK ?_); clear hK K)
   | (with_reducible first | refine then_normal ?_ | refine then_ret ?_ | refine s_nil ?_)
   | refine w_ret ?_
   | (with_reducible refine s_none ?_)
   | ((with_reducible refine g_id ?_); refine x_guard (h := ?_))
   | (with_reducible first | refine gx_tt ?_ | refine gx_ff ?_ | refine x_tf (h := ?_) | refine x_ft (h := ?_) | refine x_u (h := ?_) | refine x_assign (h := ?_) | refine x_box (h := ?_) | refine x_alloc (h := ?_) | refine x_store0 (h := ?_) | refine x_store (h := ?_))
   | ((with_reducible refine o_id 11 rfl ?_); refine x_call (hB := (by first | ((repeat' (first | exact .nil | refine .cons ?_ ?_ | exact .refl _ | exact bw_ints (by simp [fx]; first | done | rfl) (by first | (simp [fx]; done) | (simp [fx]; omega) | omega) | exact bw_list (by simp [fx]; first | done | rfl) (by first | (simp [fx]; done) | (simp [fx]; omega) | omega) (by first | (simp; done) | fail) | exact bw_agg1 (bw_prog (p := p) (n := .c (.s 5) 0 0) ⟨by simp [b1], fun j r hj => by simp [b2 j r hj], fun j r hj => by simp [b3 j r hj]⟩ rfl) | exact bw_agg1 (bw_prog (p := p) (n := .s 29) ⟨by simp [ho1], fun j r hj => by simp [ho2 j r hj], fun j r hj => by simp [ho3 j r hj]⟩ rfl))); done) | fail)) (hF := eqProgram_fn _ p p hs hs) (h := ?_))
   | (with_reducible refine x_q (h := ?_))
   | (with_reducible refine gx_s (fun ht => ?_) (fun ht => ?_))
   | refine x_condt (h1 := ?_) | refine x_condf (h1 := ?_)
   | (refine w_sch (id := 10) (.q 0 <| .q 1 <| .l 2 [0] <| .l 3 [] <| .q 4 <| .done) mixed (by kernel_rfl) (by kernel_rfl) fun K hK => ?_)
   | ((with_reducible refine a_end hK ?_); clear hK K)
   | ((with_reducible refine a_id ?_); first | refine xa_q (h := ?_) | refine xa_qt (h := ?_) | refine xa_qf (h := ?_))
   | ((with_reducible refine a_id ?_); refine xa_gq (h1 := fun ht => ?_) (h2 := fun ht => ?_))
   | refine a_l rfl ?_ | refine a_l2 ?_ ?_ | (with_reducible refine And.intro ?_ ?_) | exact st_nil | refine xa_st (h2 := ?_)
   | fail)
  all_goals try clear fx
  refine o_abs (fun st => st.tm 1 = .pt (.s 1) 0 ∧ st.hp (.s 1) = some (.row 1 [[ksl p]]) ∧ BoxP st 4 G ∧ BoxP st 5 p ∧ BoxP st 6 G ∧ st.tm 32 = .agg [.hs (.c (.s 5) 0 0) 4 0 p.length] ∧ st.tm 33 = iv 1)
    ⟨by simp [h1], by simp [hp1], ⟨by simp [h4], by simp [hp4], ⟨by simp [a1], fun j r hj => by simp [a2 j r hj], fun j r hj => by simp [a3 j r hj]⟩⟩, ⟨by simp [h6], by simp [hp6], ⟨by simp [b1], fun j r hj => by simp [b2 j r hj], fun j r hj => by simp [b3 j r hj]⟩⟩,
      ⟨by simp [h7], by simp [hp7], ⟨by simp [c1], fun j r hj => by simp [c2 j r hj], fun j r hj => by simp [c3 j r hj]⟩⟩, by simp [h6, hp6], by simp⟩ ?_
  clear h1 hp1 h4 hp4 a1 a2 a3 h32 h33 hO ho1 ho2 ho3 h6 hp6 b1 b2 b3 h7 hp7 c1 c2 c3
  rintro st ⟨h1, hp1, ⟨h4, hp4, ⟨a1, a2, a3⟩⟩, ⟨h6, hp6, ⟨b1, b2, b3⟩⟩, ⟨h7, hp7, ⟨c1, c2, c3⟩⟩, h46, h47⟩
  have hcp := cntTo_le hs p.length
  have hpl := hs.len
  have hcG := cntTo_le hG G.length
  have fx := And.intro h46 h47
  refine x_mutc (.c (.s 5) 0 0) (.u 0 0 0) (hext := rfl) (hs := by simp [b1]) (hF := markProgram_fn _ _ p 1 hs ⟨by simp [b1], fun j r hj => by simp [b2 j r hj], fun j r hj => by simp [b3 j r hj]⟩ (by simp) (by decide)) (h := ?_)
  rintro y H6 ⟨rfl, ⟨d1, d2, d3⟩⟩
  clear fx
  refine s_abs (fun st => st.tm 1 = .pt (.s 1) 0 ∧ st.hp (.s 1) = some (.row 1 [[ksl p]]) ∧ BoxP st 4 G ∧ BoxP st 6 G ∧ st.tm 34 = iv (1 + cnt p))
    ⟨by simp [h1], by simp [hp1], ⟨by simp [h4], by simp [hp4], ⟨by simp [a1], fun j r hj => by simp [a2 j r hj], fun j r hj => by simp [a3 j r hj]⟩⟩,
      ⟨by simp [h7], by simp [hp7], ⟨by simp [c1], fun j r hj => by simp [c2 j r hj], fun j r hj => by simp [c3 j r hj]⟩⟩, by simp⟩ ?_
  clear h1 hp1 h4 hp4 a1 a2 a3 h46 h47 d1 d2 d3 h6 hp6 b1 b2 b3 h7 hp7 c1 c2 c3
  rintro st ⟨h1, hp1, ⟨h4, hp4, ⟨a1, a2, a3⟩⟩, ⟨h7, hp7, ⟨c1, c2, c3⟩⟩, h48⟩
  have hk1 : ¬ 1 + (cnt p : Int) < 0 := by omega
  all_goals have fx := And.intro h48 <| And.intro hk1 <| And.intro h7 <| And.intro hp7 <| And.intro h4 <| And.intro hp4 <| @bne_def
  repeat' (first
   | refine w_seq ?_ | refine w_skip ?_ | refine w_reg fun K hK => ?_
   | ((with_reducible refine s_end hK ?_); clear hK K)
   | (with_reducible first | refine then_normal ?_ | refine then_ret ?_ | refine s_nil ?_)
   | refine w_ret ?_
   | (with_reducible refine s_none ?_)
   | ((with_reducible refine g_id ?_); refine x_guard (h := ?_))
   | (with_reducible first | refine gx_tt ?_ | refine gx_ff ?_ | refine x_tf (h := ?_) | refine x_ft (h := ?_) | refine x_u (h := ?_) | refine x_assign (h := ?_) | refine x_box (h := ?_) | refine x_alloc (h := ?_) | refine x_store0 (h := ?_) | refine x_store (h := ?_))
   | ((with_reducible refine o_id 11 rfl ?_); refine x_call (hB := (by first | ((repeat' (first | exact .nil | refine .cons ?_ ?_ | exact .refl _ | exact bw_ints (by simp [fx]; first | done | rfl) (by first | (simp [fx]; done) | (simp [fx]; omega) | omega) | exact bw_list (by simp [fx]; first | done | rfl) (by first | (simp [fx]; done) | (simp [fx]; omega) | omega) (by first | (simp; done) | fail) | exact bw_agg1 (bw_prog (p := G) (n := .c (.s 6) 0 0) ⟨by simp [c1], fun j r hj => by simp [c2 j r hj], fun j r hj => by simp [c3 j r hj]⟩ rfl) | exact bw_agg1 (bw_prog (p := G) (n := .c (.s 4) 0 0) ⟨by simp [a1], fun j r hj => by simp [a2 j r hj], fun j r hj => by simp [a3 j r hj]⟩ rfl))); done) | fail)) (hF := eqProgram_fn _ G G hG hG) (h := ?_))
   | (with_reducible refine x_q (h := ?_))
   | (with_reducible refine gx_s (fun ht => ?_) (fun ht => ?_))
   | refine x_condt (h1 := ?_) | refine x_condf (h1 := ?_)
   | (refine w_sch (id := 10) (.q 0 <| .q 1 <| .l 2 [0] <| .l 3 [] <| .q 4 <| .done) mixed (by kernel_rfl) (by kernel_rfl) fun K hK => ?_)
   | ((with_reducible refine a_end hK ?_); clear hK K)
   | ((with_reducible refine a_id ?_); first | refine xa_q (h := ?_) | refine xa_qt (h := ?_) | refine xa_qf (h := ?_))
   | ((with_reducible refine a_id ?_); refine xa_gq (h1 := fun ht => ?_) (h2 := fun ht => ?_))
   | refine a_l rfl ?_ | refine a_l2 ?_ ?_ | (with_reducible refine And.intro ?_ ?_) | exact st_nil | refine xa_st (h2 := ?_)
   | fail)
  all_goals try clear fx
  refine o_abs (fun st => st.tm 1 = .pt (.s 1) 0 ∧ st.hp (.s 1) = some (.row 1 [[ksl p]]) ∧ BoxP st 4 G ∧ BoxP st 6 G ∧ st.tm 43 = .agg [.hs (.c (.s 6) 0 0) 4 0 G.length] ∧ st.tm 44 = iv 1)
    ⟨by simp [h1], by simp [hp1], ⟨by simp [h4], by simp [hp4], ⟨by simp [a1], fun j r hj => by simp [a2 j r hj], fun j r hj => by simp [a3 j r hj]⟩⟩,
      ⟨by simp [h7], by simp [hp7], ⟨by simp [c1], fun j r hj => by simp [c2 j r hj], fun j r hj => by simp [c3 j r hj]⟩⟩, by simp [h7, hp7], by simp⟩ ?_
  clear h1 hp1 h4 hp4 a1 a2 a3 h48 h7 hp7 c1 c2 c3
  rintro st ⟨h1, hp1, ⟨h4, hp4, ⟨a1, a2, a3⟩⟩, ⟨h7, hp7, ⟨c1, c2, c3⟩⟩, h62, h63⟩
  have fx := And.intro h62 h63
  refine x_mutc (.c (.s 6) 0 0) (.u 0 0 0) (hext := rfl) (hs := by simp [c1]) (hF := markProgram_fn _ _ G 1 hG ⟨by simp [c1], fun j r hj => by simp [c2 j r hj], fun j r hj => by simp [c3 j r hj]⟩ (by simp) (by decide)) (h := ?_)
  rintro y H7 ⟨rfl, ⟨d1, d2, d3⟩⟩
  clear fx
  have hMl : (markP G 1).length = G.length := by simp [markP]
  refine s_abs (fun st => st.tm 1 = .pt (.s 1) 0 ∧ st.hp (.s 1) = some (.row 1 [[ksl p]]) ∧ BoxP st 4 G ∧ BoxP st 6 (markP G 1) ∧ st.tm 45 = iv (1 + cnt G))
    ⟨by simp [h1], by simp [hp1], ⟨by simp [h4], by simp [hp4], ⟨by simp [a1], fun j r hj => by simp [a2 j r hj], fun j r hj => by simp [a3 j r hj]⟩⟩,
      ⟨by simp [h7], by simp [hp7, hMl], ⟨by simp [d1], fun j r hj => by simp [d2 j r hj], fun j r hj => by simp [d3 j r hj]⟩⟩, by simp⟩ ?_
  clear h1 hp1 h4 hp4 a1 a2 a3 h62 h63 h7 hp7 c1 c2 c3 d1 d2 d3
  rintro st ⟨h1, hp1, ⟨h4, hp4, ⟨a1, a2, a3⟩⟩, ⟨h7, hp7, ⟨c1, c2, c3⟩⟩, h64⟩
  have hk2 : ¬ 1 + (cnt G : Int) < 0 := by omega
  all_goals have fx := And.intro h64 <| And.intro hk2 <| And.intro h7 <| And.intro hp7 <| And.intro h1 <| And.intro hp1 <| @bne_def
  repeat' (first
   | refine w_seq ?_ | refine w_skip ?_ | refine w_reg fun K hK => ?_
   | ((with_reducible refine s_end hK ?_); clear hK K)
   | (with_reducible first | refine then_normal ?_ | refine then_ret ?_ | refine s_nil ?_)
   | refine w_ret ?_
   | (with_reducible refine s_none ?_)
   | ((with_reducible refine g_id ?_); refine x_guard (h := ?_))
   | (with_reducible first | refine gx_tt ?_ | refine gx_ff ?_ | refine x_tf (h := ?_) | refine x_ft (h := ?_) | refine x_u (h := ?_) | refine x_assign (h := ?_) | refine x_box (h := ?_) | refine x_alloc (h := ?_) | refine x_store0 (h := ?_) | refine x_store (h := ?_))
   | ((with_reducible refine o_id 13 rfl ?_); refine x_call (hB := (by first | ((repeat' (first | exact .nil | refine .cons ?_ ?_ | exact .refl _ | exact bw_ints (by simp [fx]; first | done | rfl) (by first | (simp [fx]; done) | (simp [fx]; omega) | omega) | exact bw_list (by simp [fx]; first | done | rfl) (by first | (simp [fx]; done) | (simp [fx]; omega) | omega) (by first | (simp; done) | fail) | exact bw_agg1 (bw_prog (p := markP G 1) (n := .c (.s 6) 0 0) ⟨by simp [c1], fun j r hj => by simp [c2 j r hj], fun j r hj => by simp [c3 j r hj]⟩ rfl))); done) | fail)) (hF := heldProgram_fn _ G 1 hG (by decide)) (h := ?_))
   | ((with_reducible refine o_id 9 rfl ?_); refine x_callg (hB := (by first | ((repeat' (first | exact .nil | refine .cons ?_ ?_ | exact .refl _ | exact bw_ints (by simp [fx]; first | done | rfl) (by first | (simp [fx]; done) | (simp [fx]; omega) | omega) | exact bw_list (by simp [fx]; first | done | rfl) (by first | (simp [fx]; done) | (simp [fx]; omega) | omega) (by first | (simp; done) | fail) | exact bw_agg1 (bw_prog (p := markP G 1) (n := .c (.s 6) 0 0) ⟨by simp [c1], fun j r hj => by simp [c2 j r hj], fun j r hj => by simp [c3 j r hj]⟩ rfl))); done) | fail)) (hF := toProgram_fn _ p hs) (h := ?_))
   | (with_reducible refine x_q (h := ?_))
   | (with_reducible refine gx_s (fun ht => ?_) (fun ht => ?_))
   | refine x_condt (h1 := ?_) | refine x_condf (h1 := ?_)
   | (refine w_sch (id := 10) (.q 0 <| .q 1 <| .l 2 [0] <| .l 3 [] <| .q 4 <| .done) mixed (by kernel_rfl) (by kernel_rfl) fun K hK => ?_)
   | ((with_reducible refine a_end hK ?_); clear hK K)
   | ((with_reducible refine a_id ?_); first | refine xa_q (h := ?_) | refine xa_qt (h := ?_) | refine xa_qf (h := ?_))
   | ((with_reducible refine a_id ?_); refine xa_gq (h1 := fun ht => ?_) (h2 := fun ht => ?_))
   | refine a_l rfl ?_ | refine a_l2 ?_ ?_ | (with_reducible refine And.intro ?_ ?_) | exact st_nil | refine xa_st (h2 := ?_)
   | fail)
  all_goals try clear fx
  rintro y H8 ⟨rfl, hO⟩
  obtain ⟨ho1, ho2, ho3⟩ := hO.hcln
  refine ⟨by simp, ?_⟩
  refine s_abs (fun st => BoxP st 4 G ∧ BoxP st 6 (markP G 1) ∧ st.tm 8 = iv (1 + cnt G) ∧ st.tm 55 = .agg [.hs (.s 55) 4 0 p.length] ∧ OwnP st.hp (.s 55) p)
    ⟨⟨by simp [h4], by simp [hp4], ⟨by simp [a1], fun j r hj => by simp [a2 j r hj], fun j r hj => by simp [a3 j r hj]⟩⟩,
      ⟨by simp [h7], by simp [hp7], ⟨by simp [c1], fun j r hj => by simp [c2 j r hj], fun j r hj => by simp [c3 j r hj]⟩⟩, by simp [h64], by simp, ⟨by simp [ho1], fun j r hj => by simp [ho2 j r hj], fun j r hj => by simp [ho3 j r hj]⟩⟩ ?_
  clear h1 hp1 h4 hp4 a1 a2 a3 h64 h7 hp7 c1 c2 c3 hO ho1 ho2 ho3
  rintro st ⟨⟨h4, hp4, ⟨a1, a2, a3⟩⟩, ⟨h7, hp7, ⟨c1, c2, c3⟩⟩, h10, h75, ⟨b1, b2, b3⟩⟩
  all_goals have fx :=  h75
  repeat' (first
   | refine w_seq ?_ | refine w_skip ?_ | refine w_reg fun K hK => ?_
   | ((with_reducible refine s_end hK ?_); clear hK K)
   | (with_reducible first | refine then_normal ?_ | refine then_ret ?_ | refine s_nil ?_)
   | refine w_ret ?_
   | (with_reducible refine s_none ?_)
   | ((with_reducible refine g_id ?_); refine x_guard (h := ?_))
   | (with_reducible first | refine gx_tt ?_ | refine gx_ff ?_ | refine x_tf (h := ?_) | refine x_ft (h := ?_) | refine x_u (h := ?_) | refine x_assign (h := ?_) | refine x_box (h := ?_) | refine x_alloc (h := ?_) | refine x_store0 (h := ?_) | refine x_store (h := ?_))
   | ((with_reducible refine o_id 22 rfl ?_); refine x_callg (hB := (by first | ((repeat' (first | exact .nil | refine .cons ?_ ?_ | exact .refl _ | exact bw_ints (by simp [fx]; first | done | rfl) (by first | (simp [fx]; done) | (simp [fx]; omega) | omega) | exact bw_list (by simp [fx]; first | done | rfl) (by first | (simp [fx]; done) | (simp [fx]; omega) | omega) (by first | (simp; done) | fail) | exact bw_agg1 (bw_prog (p := p) (n := .s 55) ⟨by simp [b1], fun j r hj => by simp [b2 j r hj], fun j r hj => by simp [b3 j r hj]⟩ rfl))); done) | fail)) (hF := hif) (h := ?_))
   | (with_reducible refine x_q (h := ?_))
   | (with_reducible refine gx_s (fun ht => ?_) (fun ht => ?_))
   | refine x_condt (h1 := ?_) | refine x_condf (h1 := ?_)
   | (refine w_sch (id := 10) (.q 0 <| .q 1 <| .l 2 [0] <| .l 3 [] <| .q 4 <| .done) mixed (by kernel_rfl) (by kernel_rfl) fun K hK => ?_)
   | ((with_reducible refine a_end hK ?_); clear hK K)
   | ((with_reducible refine a_id ?_); first | refine xa_q (h := ?_) | refine xa_qt (h := ?_) | refine xa_qf (h := ?_))
   | ((with_reducible refine a_id ?_); refine xa_gq (h1 := fun ht => ?_) (h2 := fun ht => ?_))
   | refine a_l rfl ?_ | refine a_l2 ?_ ?_ | (with_reducible refine And.intro ?_ ?_) | exact st_nil | refine xa_st (h2 := ?_)
   | fail)
  all_goals try clear fx
  rintro y H9 ⟨rfl, hO⟩
  obtain ⟨ho1, ho2, ho3⟩ := hO.hcln
  refine ⟨by simp, ?_⟩
  all_goals have fx := And.intro ho1 <| And.intro h4 <| hp4
  repeat' (first
   | refine w_seq ?_ | refine w_skip ?_ | refine w_reg fun K hK => ?_
   | ((with_reducible refine s_end hK ?_); clear hK K)
   | (with_reducible first | refine then_normal ?_ | refine then_ret ?_ | refine s_nil ?_)
   | refine w_ret ?_
   | (with_reducible refine s_none ?_)
   | ((with_reducible refine g_id ?_); refine x_guard (h := ?_))
   | (with_reducible first | refine gx_tt ?_ | refine gx_ff ?_ | refine x_tf (h := ?_) | refine x_ft (h := ?_) | refine x_u (h := ?_) | refine x_assign (h := ?_) | refine x_box (h := ?_) | refine x_alloc (h := ?_) | refine x_store0 (h := ?_) | refine x_store (h := ?_))
   | (with_reducible refine x_q (h := ?_))
   | (with_reducible refine gx_s (fun ht => ?_) (fun ht => ?_))
   | refine x_condt (h1 := ?_) | refine x_condf (h1 := ?_)
   | (refine w_sch (id := 10) (.q 0 <| .q 1 <| .l 2 [0] <| .l 3 [] <| .q 4 <| .done) mixed (by kernel_rfl) (by kernel_rfl) fun K hK => ?_)
   | ((with_reducible refine a_end hK ?_); clear hK K)
   | ((with_reducible refine a_id ?_); first | refine xa_q (h := ?_) | refine xa_qt (h := ?_) | refine xa_qf (h := ?_))
   | ((with_reducible refine a_id ?_); refine xa_gq (h1 := fun ht => ?_) (h2 := fun ht => ?_))
   | refine a_l rfl ?_ | refine a_l2 ?_ ?_ | (with_reducible refine And.intro ?_ ?_) | exact st_nil | refine xa_st (h2 := ?_)
   | fail)
  all_goals try clear fx
  refine o_abs (fun st => BoxP st 4 G ∧ BoxP st 6 (markP G 1) ∧ st.tm 8 = iv (1 + cnt G) ∧ BoxP st 10 G ∧ st.tm 57 = .agg [.hs (.c (.s 10) 0 0) 4 0 G.length] ∧ st.tm 58 = .agg [.hs (.c (.s 4) 0 0) 4 0 G.length])
    ⟨⟨by simp [h4], by simp [hp4], ⟨by simp [a1], fun j r hj => by simp [a2 j r hj], fun j r hj => by simp [a3 j r hj]⟩⟩,
      ⟨by simp [h7], by simp [hp7], ⟨by simp [c1], fun j r hj => by simp [c2 j r hj], fun j r hj => by simp [c3 j r hj]⟩⟩, by simp [h10],
      ⟨by simp, by simp, ⟨by simp [ho1], fun j r hj => by simp [ho2 j r hj], fun j r hj => by simp [ho3 j r hj]⟩⟩, by simp, by simp⟩ ?_
  clear h4 hp4 a1 a2 a3 h7 hp7 c1 c2 c3 hO ho1 ho2 ho3 h75 b1 b2 b3 h10
  rintro st ⟨⟨h4, hp4, ⟨a1, a2, a3⟩⟩, ⟨h7, hp7, ⟨c1, c2, c3⟩⟩, h10, ⟨h12, hp12, ⟨b1, b2, b3⟩⟩, h79, h80⟩
  all_goals have fx := And.intro h79 <| And.intro h80 <| And.intro h7 <| And.intro hp7 <| And.intro h10 <| And.intro hk2 <| @bne_def
  repeat' (first
   | refine w_seq ?_ | refine w_skip ?_ | refine w_reg fun K hK => ?_
   | ((with_reducible refine s_end hK ?_); clear hK K)
   | (with_reducible first | refine then_normal ?_ | refine then_ret ?_ | refine s_nil ?_)
   | refine w_ret ?_
   | (with_reducible refine s_none ?_)
   | ((with_reducible refine g_id ?_); refine x_guard (h := ?_))
   | (with_reducible first | refine gx_tt ?_ | refine gx_ff ?_ | refine x_tf (h := ?_) | refine x_ft (h := ?_) | refine x_u (h := ?_) | refine x_assign (h := ?_) | refine x_box (h := ?_) | refine x_alloc (h := ?_) | refine x_store0 (h := ?_) | refine x_store (h := ?_))
   | ((with_reducible refine o_id 11 rfl ?_); refine x_call (hB := (by first | ((repeat' (first | exact .nil | refine .cons ?_ ?_ | exact .refl _ | exact bw_ints (by simp [fx]; first | done | rfl) (by first | (simp [fx]; done) | (simp [fx]; omega) | omega) | exact bw_list (by simp [fx]; first | done | rfl) (by first | (simp [fx]; done) | (simp [fx]; omega) | omega) (by first | (simp; done) | fail) | exact bw_agg1 (bw_prog (p := G) (n := .c (.s 10) 0 0) ⟨by simp [b1], fun j r hj => by simp [b2 j r hj], fun j r hj => by simp [b3 j r hj]⟩ rfl) | exact bw_agg1 (bw_prog (p := G) (n := .c (.s 4) 0 0) ⟨by simp [a1], fun j r hj => by simp [a2 j r hj], fun j r hj => by simp [a3 j r hj]⟩ rfl) | exact bw_agg1 (bw_prog (p := markP G 1) (n := .c (.s 6) 0 0) ⟨by simp [c1], fun j r hj => by simp [c2 j r hj], fun j r hj => by simp [c3 j r hj]⟩ rfl))); done) | fail)) (hF := eqProgram_fn _ G G hG hG) (h := ?_))
   | ((with_reducible refine o_id 13 rfl ?_); refine x_call (hB := (by first | ((repeat' (first | exact .nil | refine .cons ?_ ?_ | exact .refl _ | exact bw_ints (by simp [fx]; first | done | rfl) (by first | (simp [fx]; done) | (simp [fx]; omega) | omega) | exact bw_list (by simp [fx]; first | done | rfl) (by first | (simp [fx]; done) | (simp [fx]; omega) | omega) (by first | (simp; done) | fail) | exact bw_agg1 (bw_prog (p := G) (n := .c (.s 10) 0 0) ⟨by simp [b1], fun j r hj => by simp [b2 j r hj], fun j r hj => by simp [b3 j r hj]⟩ rfl) | exact bw_agg1 (bw_prog (p := G) (n := .c (.s 4) 0 0) ⟨by simp [a1], fun j r hj => by simp [a2 j r hj], fun j r hj => by simp [a3 j r hj]⟩ rfl) | exact bw_agg1 (bw_prog (p := markP G 1) (n := .c (.s 6) 0 0) ⟨by simp [c1], fun j r hj => by simp [c2 j r hj], fun j r hj => by simp [c3 j r hj]⟩ rfl))); done) | fail)) (hF := heldProgram_fn _ G 1 hG (by decide)) (h := ?_))
   | (with_reducible refine x_q (h := ?_))
   | (with_reducible refine gx_s (fun ht => ?_) (fun ht => ?_))
   | refine x_condt (h1 := ?_) | refine x_condf (h1 := ?_)
   | (refine w_sch (id := 10) (.q 0 <| .q 1 <| .l 2 [0] <| .l 3 [] <| .q 4 <| .done) mixed (by kernel_rfl) (by kernel_rfl) fun K hK => ?_)
   | ((with_reducible refine a_end hK ?_); clear hK K)
   | ((with_reducible refine a_id ?_); first | refine xa_q (h := ?_) | refine xa_qt (h := ?_) | refine xa_qf (h := ?_))
   | ((with_reducible refine a_id ?_); refine xa_gq (h1 := fun ht => ?_) (h2 := fun ht => ?_))
   | refine a_l rfl ?_ | refine a_l2 ?_ ?_ | (with_reducible refine And.intro ?_ ?_) | exact st_nil | refine xa_st (h2 := ?_)
   | fail)
  all_goals try clear fx
  refine e_ret [] .nil (by simp; rfl) (by simp)
end Go.Proofs.Ytopgafhjmbfaoaa
end
