/-
  Own texts, joined by merge.py: Gi.
-/
import Derived.Test.YtopgafhjmbfaoaaBC
import Derived.Test.YtopgafhjmbfaoaaA4

section
/-
  Functions of the reference on names in blocks: what they return.
-/
set_option maxRecDepth 100000
set_option maxHeartbeats 1000000
set_option linter.unusedSimpArgs false
namespace Go.Proofs.Ytopgafhjmbfaoaa
open Go Go.Hm Go.Proofs

theorem validProgram_fn (gl) (p : Prg) (hs : Sml p) : FnOk Try.prog gl 24 [pav p] (fun _ y _ => y = bv (progOk p)) := by
  have hpl := hs.len
  refine FnOk.of_sem Try.func24 rfl (by kernel_rfl) (rs := [.tmp 2]) rfl Try.ntmps24 (Nat.le_of_ble_eq_true rfl) fun C w g root => ?_
  all_goals have fx := fx0
  repeat' (first
   | refine w_seq ?_ | refine w_block ?_ | refine w_skip ?_ | refine w_reg fun K hK => ?_
   | ((with_reducible refine s_end hK ?_); clear hK K)
   | (with_reducible first | refine then_normal ?_ | refine in_normal ?_ | refine then_exit ?_ | refine in_exit ?_ | refine then_ret ?_ | refine in_ret ?_ | refine in_other (by decide) ?_)
   | refine w_exit ?_
   | refine w_ret ?_
   | (with_reducible refine s_none ?_)
   | ((with_reducible refine g_id ?_); refine x_guard (h := ?_))
   | (with_reducible first | refine gx_tt ?_ | refine gx_ff ?_ | refine x_tf (h := ?_) | refine x_ft (h := ?_) | refine x_u (h := ?_) | refine x_assign (h := ?_) | refine x_box (h := ?_))
   | ((with_reducible refine o_id 67 rfl ?_); refine x_call (hF := validShape_fn _ p hs) (h := ?_))
   | (with_reducible refine x_q (h := ?_))
   | (with_reducible refine gx_s (fun ht => ?_) (fun ht => ?_))
   | refine x_condt (h1 := ?_) | refine x_condf (h1 := ?_)
   | refine x_if (h1 := fun ht => ?_) (h2 := fun ht => ?_)
   | fail)
  all_goals try clear fx
  · refine e_ret [] .nil (by simp; rfl) ?_
    have : shapeOk p = false := by simpa using ht
    simp only [progOk, this]
    rfl
  have hsh : shapeOk p = true := by simpa using ht
  obtain ⟨hh, hl1, hl7, _, _⟩ := shapeOk_heads hsh
  have hpo : progOk p = (List.range p.length).all (fun b => b == 0 || declsOk p b) := by simp only [progOk, hsh, Bool.true_and]
  rw [hpo]
  clear hpo ht
  refine w_loop (fun n st => ∃ i : Nat, n = p.length - i ∧ i ≤ p.length ∧ 1 ≤ i ∧ st.tm 1 = .pt (.s 1) 0 ∧ st.hp (.s 1) = some (.row 1 [[ksl p]]) ∧ st.tm 3 = iv i ∧ (List.range i).all (fun b => b == 0 || declsOk p b) = true) (p.length - 1) ?_ ?_
  · exact ⟨1, rfl, hl1, by omega, by simp⟩
  rintro n st - - ⟨i, rfl, hi, hi1, h1, hp1, h3, hal⟩
  all_goals have fx := And.intro h1 <| And.intro hp1 <| h3
  repeat' (first
   | refine w_seq ?_ | refine w_block ?_ | refine w_skip ?_ | refine w_reg fun K hK => ?_
   | ((with_reducible refine s_end hK ?_); clear hK K)
   | (with_reducible first | refine then_normal ?_ | refine in_normal ?_ | refine then_exit ?_ | refine in_exit ?_ | refine then_ret ?_ | refine in_ret ?_ | refine in_other (by decide) ?_)
   | refine w_exit ?_
   | refine w_ret ?_
   | (with_reducible refine s_none ?_)
   | ((with_reducible refine g_id ?_); refine x_guard (h := ?_))
   | (with_reducible first | refine gx_tt ?_ | refine gx_ff ?_ | refine x_tf (h := ?_) | refine x_ft (h := ?_) | refine x_u (h := ?_) | refine x_assign (h := ?_) | refine x_box (h := ?_))
   | (with_reducible refine x_q (h := ?_))
   | (with_reducible refine gx_s (fun ht => ?_) (fun ht => ?_))
   | refine x_condt (h1 := ?_) | refine x_condf (h1 := ?_)
   | fail)
  all_goals try clear fx
  refine w_if (by simp []; first | done | rfl | exact (Bool.not_not _).symm) (fun ht => ?_) (fun hf => ?_)
  · have hlt : i < p.length := by simpa using ht
    obtain ⟨k, hk⟩ : ∃ k, p[i]? = some k := ⟨_, List.getElem?_eq_getElem hlt⟩
    have hpar := (hs.bsm hk).params
    have hdo : declsOk p i = (List.range 8).all (fun x => declOk p i k (x : Int)) := by simp only [declsOk, hk]
    all_goals have fx := And.intro h1 <| And.intro hp1 <| And.intro h3 <| hk
    repeat' (first
     | refine w_seq ?_ | refine w_block ?_ | refine w_skip ?_ | refine w_reg fun K hK => ?_
     | ((with_reducible refine s_end hK ?_); clear hK K)
     | (with_reducible first | refine then_normal ?_ | refine in_normal ?_ | refine then_exit ?_ | refine in_exit ?_ | refine then_ret ?_ | refine in_ret ?_ | refine in_other (by decide) ?_)
     | refine w_exit ?_
     | refine w_ret ?_
     | (with_reducible refine s_none ?_)
     | ((with_reducible refine g_id ?_); refine x_guard (h := ?_))
     | (with_reducible first | refine gx_tt ?_ | refine gx_ff ?_ | refine x_tf (h := ?_) | refine x_ft (h := ?_) | refine x_u (h := ?_) | refine x_assign (h := ?_) | refine x_box (h := ?_))
     | ((with_reducible refine o_id 68 rfl ?_); refine x_callh (hF := declared_fn _ p i k _ hk (hs.bsm hk)) (h := ?_))
     | (with_reducible refine x_q (h := ?_))
     | (with_reducible refine gx_s (fun ht => ?_) (fun ht => ?_))
     | refine x_condt (h1 := ?_) | refine x_condf (h1 := ?_)
     | fail)
    all_goals try clear fx
    refine w_loop (fun n st => ∃ x : Nat, n = 8 - x ∧ x ≤ 8 ∧ st.tm 1 = .pt (.s 1) 0 ∧ st.hp (.s 1) = some (.row 1 [[ksl p]]) ∧ st.tm 3 = iv i ∧ st.tm 4 = .hs (.s 4) 1 0 (k.dc 9).length ∧ st.hp (.s 4) = some (.row 1 (irows (k.dc 9))) ∧ st.tm 5 = .hs (.s 5) 1 0 (k.dc 10).length ∧ st.hp (.s 5) = some (.row 1 (irows (k.dc 10))) ∧ st.tm 6 = iv x ∧ (List.range x).all (fun x => declOk p i k (x : Int)) = true) 8 ?_ ?_
    · exact ⟨0, by simp [h1, hp1, h3]⟩
    clear h1 hp1 h3 ht
    rintro n st - - ⟨x, rfl, hx, h1, hp1, h3, h4, hp4, h5, hp5, h6, hax⟩
    all_goals have fx := And.intro h1 <| And.intro hp1 <| And.intro h3 <| And.intro h4 <| And.intro hp4 <| And.intro h5 <| And.intro hp5 <| h6
    repeat' (first
     | refine w_seq ?_ | refine w_block ?_ | refine w_skip ?_ | refine w_reg fun K hK => ?_
     | ((with_reducible refine s_end hK ?_); clear hK K)
     | (with_reducible first | refine then_normal ?_ | refine in_normal ?_ | refine then_exit ?_ | refine in_exit ?_ | refine then_ret ?_ | refine in_ret ?_ | refine in_other (by decide) ?_)
     | refine w_exit ?_
     | refine w_ret ?_
     | (with_reducible refine s_none ?_)
     | ((with_reducible refine g_id ?_); refine x_guard (h := ?_))
     | (with_reducible first | refine gx_tt ?_ | refine gx_ff ?_ | refine x_tf (h := ?_) | refine x_ft (h := ?_) | refine x_u (h := ?_) | refine x_assign (h := ?_) | refine x_box (h := ?_))
     | (with_reducible refine x_q (h := ?_))
     | (with_reducible refine gx_s (fun ht => ?_) (fun ht => ?_))
     | refine x_condt (h1 := ?_) | refine x_condf (h1 := ?_)
     | fail)
    all_goals try clear fx
    refine w_if (by simp []; first | done | rfl | exact (Bool.not_not _).symm) (fun ht => ?_) (fun hf => ?_)
    · have hx7 : (x : Int) ≤ 7 := by simpa using ht
      have hx8 : x < 8 := by omega
      all_goals have fx := And.intro h1 <| And.intro hp1 <| And.intro h3 <| And.intro h4 <| And.intro hp4 <| And.intro h5 <| And.intro hp5 <| And.intro h6 <| hk
      repeat' (first
       | refine w_seq ?_ | refine w_block ?_ | refine w_skip ?_ | refine w_reg fun K hK => ?_
       | ((with_reducible refine s_end hK ?_); clear hK K)
       | (with_reducible first | refine then_normal ?_ | refine in_normal ?_ | refine then_exit ?_ | refine in_exit ?_ | refine then_ret ?_ | refine in_ret ?_ | refine in_other (by decide) ?_)
       | refine w_exit ?_
       | refine w_ret ?_
       | (with_reducible refine s_none ?_)
       | ((with_reducible refine g_id ?_); refine x_guard (h := ?_))
       | (with_reducible first | refine gx_tt ?_ | refine gx_ff ?_ | refine x_tf (h := ?_) | refine x_ft (h := ?_) | refine x_u (h := ?_) | refine x_assign (h := ?_) | refine x_box (h := ?_))
       | ((with_reducible refine o_id 43 rfl ?_); refine x_call (hF := has_fn _ _ _ (by first | exact Nat.le_trans (Blk.dc_len _ _) (by decide) | omega)) (h := ?_))
       | ((with_reducible refine o_id 69 rfl ?_); refine x_call (hF := outer_fn _ p i k _ hk hs hh) (h := ?_))
       | (with_reducible refine x_q (h := ?_))
       | (with_reducible refine gx_s (fun ht => ?_) (fun ht => ?_))
       | refine x_condt (h1 := ?_) | refine x_condf (h1 := ?_)
       | refine x_if (h1 := fun ht => ?_) (h2 := fun ht => ?_)
       | fail)
      all_goals try clear fx
      all_goals first
        | (have hd : declOk p i k x = false := by
             simp only [declOk]
             clear hal hax hpar hs hh h1 hp1 h3 h4 hp4 h5 hp5 h6 hdo hsh hk
             simp_all
           refine e_ret [] .nil (by simp; rfl) ?_
           rw [range_false hlt (show (i == 0 || declsOk p i) = false by rw [hdo, range_false hx8 hd]; simp; omega)]
           rfl)
        | (have hd : declOk p i k x = true := by
             simp only [declOk]
             clear hal hax hpar hs hh h1 hp1 h3 h4 hp4 h5 hp5 h6 hdo hsh hk
             simp_all
           refine ⟨8 - (x + 1), by omega, x + 1, rfl, by omega, by simp [h1], by simp [hp1], by simp [h3], by simp [h4], by simp [hp4], by simp [h5], by simp [hp5], by simp; exact wrp (by omega) (by omega), ?_⟩
           rw [all_range_succ, hax, hd]
           rfl)
    · have hge : x = 8 := by
        have : ¬ (x : Int) ≤ 7 := by simpa using hf
        omega
      subst hge
      all_goals have fx := And.intro h1 <| And.intro hp1 <| h3
      repeat' (first
       | refine w_seq ?_ | refine w_block ?_ | refine w_skip ?_ | refine w_reg fun K hK => ?_
       | ((with_reducible refine s_end hK ?_); clear hK K)
       | (with_reducible first | refine then_normal ?_ | refine in_normal ?_ | refine then_exit ?_ | refine in_exit ?_ | refine then_ret ?_ | refine in_ret ?_ | refine in_other (by decide) ?_)
       | refine w_exit ?_
       | refine w_ret ?_
       | (with_reducible refine s_none ?_)
       | ((with_reducible refine g_id ?_); refine x_guard (h := ?_))
       | (with_reducible first | refine gx_tt ?_ | refine gx_ff ?_ | refine x_tf (h := ?_) | refine x_ft (h := ?_) | refine x_u (h := ?_) | refine x_assign (h := ?_) | refine x_box (h := ?_))
       | (with_reducible refine x_q (h := ?_))
       | (with_reducible refine gx_s (fun ht => ?_) (fun ht => ?_))
       | refine x_condt (h1 := ?_) | refine x_condf (h1 := ?_)
       | fail)
      all_goals try clear fx
      refine ⟨p.length - (i + 1), by omega, i + 1, rfl, by omega, by omega, by simp [h1], by simp [hp1], by simp; exact wrp (by omega) (by omega), ?_⟩
      rw [all_range_succ, hal, hdo, hax]
      simp
  · have hge : i = p.length := by
      have : ¬ i < p.length := by simpa using hf
      omega
    subst hge
    all_goals have fx := fx0
    repeat' (first
     | refine w_seq ?_ | refine w_block ?_ | refine w_skip ?_ | refine w_reg fun K hK => ?_
     | ((with_reducible refine s_end hK ?_); clear hK K)
     | (with_reducible first | refine then_normal ?_ | refine in_normal ?_ | refine then_exit ?_ | refine in_exit ?_ | refine then_ret ?_ | refine in_ret ?_ | refine in_other (by decide) ?_)
     | refine w_exit ?_
     | refine w_ret ?_
     | (with_reducible refine s_none ?_)
     | ((with_reducible refine g_id ?_); refine x_guard (h := ?_))
     | (with_reducible first | refine gx_tt ?_ | refine gx_ff ?_ | refine x_tf (h := ?_) | refine x_ft (h := ?_) | refine x_u (h := ?_) | refine x_assign (h := ?_) | refine x_box (h := ?_))
     | (with_reducible refine x_q (h := ?_))
     | (with_reducible refine gx_s (fun ht => ?_) (fun ht => ?_))
     | refine x_condt (h1 := ?_) | refine x_condf (h1 := ?_)
     | fail)
    all_goals try clear fx
    refine e_ret [] .nil (by simp []; rfl) (by simp [hal])
end Go.Proofs.Ytopgafhjmbfaoaa
end
