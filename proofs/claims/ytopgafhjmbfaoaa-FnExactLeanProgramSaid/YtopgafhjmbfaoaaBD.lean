/-
  Own texts, joined by merge.py: Gi, Gj.
-/
import Derived.Test.YtopgafhjmbfaoaaBC
import Derived.Test.YtopgafhjmbfaoaaA4

section
/-
  Functions of the reference on names in blocks: what they return.
-/
set_option maxRecDepth 100000
set_option maxHeartbeats 1000000
set_option linter.unusedSimpArgs false
namespace Go.Proofs.Ytopgafhjmbfaoaa
open Go Go.Hm Go.Proofs

theorem validProgram_fn (gl) (p : Prg) (hs : Sml p) : FnOk Try.prog gl 24 [pav p] (fun _ y _ => y = bv (progOk p)) := by
  have hpl := hs.len
  refine FnOk.of_sem Try.func24 rfl (by kernel_rfl) (rs := [.tmp 2]) rfl Try.ntmps24 (Nat.le_of_ble_eq_true rfl) fun C w g root => ?_
  all_goals have fx := fx0
  repeat' (first
   | refine w_seq ?_ | refine w_block ?_ | refine w_skip ?_ | refine w_reg fun K hK => ?_
   | ((with_reducible refine s_end hK ?_); clear hK K)
   | (with_reducible first | refine then_normal ?_ | refine in_normal ?_ | refine then_exit ?_ | refine in_exit ?_ | refine then_ret ?_ | refine in_ret ?_ | refine in_other (by decide) ?_)
   | refine w_exit ?_
   | refine w_ret ?_
   | (with_reducible refine s_none ?_)
   | ((with_reducible refine g_id ?_); refine x_guard (h := ?_))
   | (with_reducible first | refine gx_tt ?_ | refine gx_ff ?_ | refine x_tf (h := ?_) | refine x_ft (h := ?_) | refine x_u (h := ?_) | refine x_assign (h := ?_) | refine x_box (h := ?_))
   | ((with_reducible refine o_id 67 rfl ?_); refine x_call (hF := validShape_fn _ p hs) (h := ?_))
   | (with_reducible refine x_q (h := ?_))
   | (with_reducible refine gx_s (fun ht => ?_) (fun ht => ?_))
   | refine x_condt (h1 := ?_) | refine x_condf (h1 := ?_)
   | refine x_if (h1 := fun ht => ?_) (h2 := fun ht => ?_)
   | fail)
  all_goals try clear fx
  · refine e_ret [] .nil (by simp; rfl) ?_
    have : shapeOk p = false := by simpa using ht
    simp only [progOk, this]
    rfl
  have hsh : shapeOk p = true := by simpa using ht
  obtain ⟨hh, hl1, hl7, _, _⟩ := shapeOk_heads hsh
  have hpo : progOk p = (List.range p.length).all (fun b => b == 0 || declsOk p b) := by simp only [progOk, hsh, Bool.true_and]
  rw [hpo]
  clear hpo ht
  refine w_loop (fun n st => ∃ i : Nat, n = p.length - i ∧ i ≤ p.length ∧ 1 ≤ i ∧ st.tm 1 = .pt (.s 1) 0 ∧ st.hp (.s 1) = some (.row 1 [[ksl p]]) ∧ st.tm 3 = iv i ∧ (List.range i).all (fun b => b == 0 || declsOk p b) = true) (p.length - 1) ?_ ?_
  · exact ⟨1, rfl, hl1, by omega, by simp⟩
  rintro n st - - ⟨i, rfl, hi, hi1, h1, hp1, h3, hal⟩
  all_goals have fx := And.intro h1 <| And.intro hp1 <| h3
  repeat' (first
   | refine w_seq ?_ | refine w_block ?_ | refine w_skip ?_ | refine w_reg fun K hK => ?_
   | ((with_reducible refine s_end hK ?_); clear hK K)
   | (with_reducible first | refine then_normal ?_ | refine in_normal ?_ | refine then_exit ?_ | refine in_exit ?_ | refine then_ret ?_ | refine in_ret ?_ | refine in_other (by decide) ?_)
   | refine w_exit ?_
   | refine w_ret ?_
   | (with_reducible refine s_none ?_)
   | ((with_reducible refine g_id ?_); refine x_guard (h := ?_))
   | (with_reducible first | refine gx_tt ?_ | refine gx_ff ?_ | refine x_tf (h := ?_) | refine x_ft (h := ?_) | refine x_u (h := ?_) | refine x_assign (h := ?_) | refine x_box (h := ?_))
   | (with_reducible refine x_q (h := ?_))
   | (with_reducible refine gx_s (fun ht => ?_) (fun ht => ?_))
   | refine x_condt (h1 := ?_) | refine x_condf (h1 := ?_)
   | fail)
  all_goals try clear fx
  refine w_if (by simp []; first | done | rfl | exact (Bool.not_not _).symm) (fun ht => ?_) (fun hf => ?_)
  · have hlt : i < p.length := by simpa using ht
    obtain ⟨k, hk⟩ : ∃ k, p[i]? = some k := ⟨_, List.getElem?_eq_getElem hlt⟩
    have hpar := (hs.bsm hk).params
    have hdo : declsOk p i = (List.range 8).all (fun x => declOk p i k (x : Int)) := by simp only [declsOk, hk]
    all_goals have fx := And.intro h1 <| And.intro hp1 <| And.intro h3 <| hk
    repeat' (first
     | refine w_seq ?_ | refine w_block ?_ | refine w_skip ?_ | refine w_reg fun K hK => ?_
     | ((with_reducible refine s_end hK ?_); clear hK K)
     | (with_reducible first | refine then_normal ?_ | refine in_normal ?_ | refine then_exit ?_ | refine in_exit ?_ | refine then_ret ?_ | refine in_ret ?_ | refine in_other (by decide) ?_)
     | refine w_exit ?_
     | refine w_ret ?_
     | (with_reducible refine s_none ?_)
     | ((with_reducible refine g_id ?_); refine x_guard (h := ?_))
     | (with_reducible first | refine gx_tt ?_ | refine gx_ff ?_ | refine x_tf (h := ?_) | refine x_ft (h := ?_) | refine x_u (h := ?_) | refine x_assign (h := ?_) | refine x_box (h := ?_))
     | ((with_reducible refine o_id 68 rfl ?_); refine x_callh (hF := declared_fn _ p i k _ hk (hs.bsm hk)) (h := ?_))
     | (with_reducible refine x_q (h := ?_))
     | (with_reducible refine gx_s (fun ht => ?_) (fun ht => ?_))
     | refine x_condt (h1 := ?_) | refine x_condf (h1 := ?_)
     | fail)
    all_goals try clear fx
    refine w_loop (fun n st => ∃ x : Nat, n = 8 - x ∧ x ≤ 8 ∧ st.tm 1 = .pt (.s 1) 0 ∧ st.hp (.s 1) = some (.row 1 [[ksl p]]) ∧ st.tm 3 = iv i ∧ st.tm 4 = .hs (.s 4) 1 0 (k.dc 9).length ∧ st.hp (.s 4) = some (.row 1 (irows (k.dc 9))) ∧ st.tm 5 = .hs (.s 5) 1 0 (k.dc 10).length ∧ st.hp (.s 5) = some (.row 1 (irows (k.dc 10))) ∧ st.tm 6 = iv x ∧ (List.range x).all (fun x => declOk p i k (x : Int)) = true) 8 ?_ ?_
    · exact ⟨0, by simp [h1, hp1, h3]⟩
    clear h1 hp1 h3 ht
    rintro n st - - ⟨x, rfl, hx, h1, hp1, h3, h4, hp4, h5, hp5, h6, hax⟩
    all_goals have fx := And.intro h1 <| And.intro hp1 <| And.intro h3 <| And.intro h4 <| And.intro hp4 <| And.intro h5 <| And.intro hp5 <| h6
    repeat' (first
     | refine w_seq ?_ | refine w_block ?_ | refine w_skip ?_ | refine w_reg fun K hK => ?_
     | ((with_reducible refine s_end hK ?_); clear hK K)
     | (with_reducible first | refine then_normal ?_ | refine in_normal ?_ | refine then_exit ?_ | refine in_exit ?_ | refine then_ret ?_ | refine in_ret ?_ | refine in_other (by decide) ?_)
     | refine w_exit ?_
     | refine w_ret ?_
     | (with_reducible refine s_none ?_)
     | ((with_reducible refine g_id ?_); refine x_guard (h := ?_))
     | (with_reducible first | refine gx_tt ?_ | refine gx_ff ?_ | refine x_tf (h := ?_) | refine x_ft (h := ?_) | refine x_u (h := ?_) | refine x_assign (h := ?_) | refine x_box (h := ?_))
     | (with_reducible refine x_q (h := ?_))
     | (with_reducible refine gx_s (fun ht => ?_) (fun ht => ?_))
     | refine x_condt (h1 := ?_) | refine x_condf (h1 := ?_)
     | fail)
    all_goals try clear fx
    refine w_if (by simp []; first | done | rfl | exact (Bool.not_not _).symm) (fun ht => ?_) (fun hf => ?_)
    · have hx7 : (x : Int) ≤ 7 := by simpa using ht
      have hx8 : x < 8 := by omega
      all_goals have fx := And.intro h1 <| And.intro hp1 <| And.intro h3 <| And.intro h4 <| And.intro hp4 <| And.intro h5 <| And.intro hp5 <| And.intro h6 <| hk
      repeat' (first
       | refine w_seq ?_ | refine w_block ?_ | refine w_skip ?_ | refine w_reg fun K hK => ?_
       | ((with_reducible refine s_end hK ?_); clear hK K)
       | (with_reducible first | refine then_normal ?_ | refine in_normal ?_ | refine then_exit ?_ | refine in_exit ?_ | refine then_ret ?_ | refine in_ret ?_ | refine in_other (by decide) ?_)
       | refine w_exit ?_
       | refine w_ret ?_
       | (with_reducible refine s_none ?_)
       | ((with_reducible refine g_id ?_); refine x_guard (h := ?_))
       | (with_reducible first | refine gx_tt ?_ | refine gx_ff ?_ | refine x_tf (h := ?_) | refine x_ft (h := ?_) | refine x_u (h := ?_) | refine x_assign (h := ?_) | refine x_box (h := ?_))
       | ((with_reducible refine o_id 43 rfl ?_); refine x_call (hF := has_fn _ _ _ (by first | exact Nat.le_trans (Blk.dc_len _ _) (by decide) | omega)) (h := ?_))
       | ((with_reducible refine o_id 69 rfl ?_); refine x_call (hF := outer_fn _ p i k _ hk hs hh) (h := ?_))
       | (with_reducible refine x_q (h := ?_))
       | (with_reducible refine gx_s (fun ht => ?_) (fun ht => ?_))
       | refine x_condt (h1 := ?_) | refine x_condf (h1 := ?_)
       | refine x_if (h1 := fun ht => ?_) (h2 := fun ht => ?_)
       | fail)
      all_goals try clear fx
      all_goals first
        | (have hd : declOk p i k x = false := by
             simp only [declOk]
             clear hal hax hpar hs hh h1 hp1 h3 h4 hp4 h5 hp5 h6 hdo hsh hk
             simp_all
           refine e_ret [] .nil (by simp; rfl) ?_
           rw [range_false hlt (show (i == 0 || declsOk p i) = false by rw [hdo, range_false hx8 hd]; simp; omega)]
           rfl)
        | (have hd : declOk p i k x = true := by
             simp only [declOk]
             clear hal hax hpar hs hh h1 hp1 h3 h4 hp4 h5 hp5 h6 hdo hsh hk
             simp_all
           refine ⟨8 - (x + 1), by omega, x + 1, rfl, by omega, by simp [h1], by simp [hp1], by simp [h3], by simp [h4], by simp [hp4], by simp [h5], by simp [hp5], by simp; exact wrp (by omega) (by omega), ?_⟩
           rw [all_range_succ, hax, hd]
           rfl)
    · have hge : x = 8 := by
        have : ¬ (x : Int) ≤ 7 := by simpa using hf
        omega
      subst hge
      all_goals have fx := And.intro h1 <| And.intro hp1 <| h3
      repeat' (first
       | refine w_seq ?_ | refine w_block ?_ | refine w_skip ?_ | refine w_reg fun K hK => ?_
       | ((with_reducible refine s_end hK ?_); clear hK K)
       | (with_reducible first | refine then_normal ?_ | refine in_normal ?_ | refine then_exit ?_ | refine in_exit ?_ | refine then_ret ?_ | refine in_ret ?_ | refine in_other (by decide) ?_)
       | refine w_exit ?_
       | refine w_ret ?_
       | (with_reducible refine s_none ?_)
       | ((with_reducible refine g_id ?_); refine x_guard (h := ?_))
       | (with_reducible first | refine gx_tt ?_ | refine gx_ff ?_ | refine x_tf (h := ?_) | refine x_ft (h := ?_) | refine x_u (h := ?_) | refine x_assign (h := ?_) | refine x_box (h := ?_))
       | (with_reducible refine x_q (h := ?_))
       | (with_reducible refine gx_s (fun ht => ?_) (fun ht => ?_))
       | refine x_condt (h1 := ?_) | refine x_condf (h1 := ?_)
       | fail)
      all_goals try clear fx
      refine ⟨p.length - (i + 1), by omega, i + 1, rfl, by omega, by omega, by simp [h1], by simp [hp1], by simp; exact wrp (by omega) (by omega), ?_⟩
      rw [all_range_succ, hal, hdo, hax]
      simp
  · have hge : i = p.length := by
      have : ¬ i < p.length := by simpa using hf
      omega
    subst hge
    all_goals have fx := fx0
    repeat' (first
     | refine w_seq ?_ | refine w_block ?_ | refine w_skip ?_ | refine w_reg fun K hK => ?_
     | ((with_reducible refine s_end hK ?_); clear hK K)
     | (with_reducible first | refine then_normal ?_ | refine in_normal ?_ | refine then_exit ?_ | refine in_exit ?_ | refine then_ret ?_ | refine in_ret ?_ | refine in_other (by decide) ?_)
     | refine w_exit ?_
     | refine w_ret ?_
     | (with_reducible refine s_none ?_)
     | ((with_reducible refine g_id ?_); refine x_guard (h := ?_))
     | (with_reducible first | refine gx_tt ?_ | refine gx_ff ?_ | refine x_tf (h := ?_) | refine x_ft (h := ?_) | refine x_u (h := ?_) | refine x_assign (h := ?_) | refine x_box (h := ?_))
     | (with_reducible refine x_q (h := ?_))
     | (with_reducible refine gx_s (fun ht => ?_) (fun ht => ?_))
     | refine x_condt (h1 := ?_) | refine x_condf (h1 := ?_)
     | fail)
    all_goals try clear fx
    refine e_ret [] .nil (by simp []; rfl) (by simp [hal])
end Go.Proofs.Ytopgafhjmbfaoaa
end

section
/-
  Functions of the reference on names in blocks: what they return.
-/
set_option maxRecDepth 100000
set_option maxHeartbeats 1000000
set_option linter.unusedSimpArgs false
namespace Go.Proofs.Ytopgafhjmbfaoaa
open Go Go.Hm Go.Proofs

theorem explicit_fn (gl) (p : Prg) (b : Nat) (k : Blk) (hk : p[b]? = some k) (hs : Sml p) (hh : Heads p) : FnOk Try.prog gl 26 [pav p, iv b] (fun r y H' => y = .hs r 4 0 (explicitL p b k).length ∧ H' r = some (.row 4 (srows (explicitL p b k)))) := by
  refine FnOk.of_sem Try.func26 rfl (by kernel_rfl) (rs := [.tmp 4]) rfl Try.ntmps26 (Nat.le_of_ble_eq_true rfl) fun C w g root => ?_
  all_goals have fx :=  hk
  repeat' (first
   | refine w_seq ?_ | refine w_block ?_ | refine w_skip ?_ | refine w_reg fun K hK => ?_
   | ((with_reducible refine s_end hK ?_); clear hK K)
   | (with_reducible first | refine then_normal ?_ | refine in_normal ?_ | refine then_exit ?_ | refine in_exit ?_ | refine then_ret ?_ | refine in_ret ?_ | refine in_other (by decide) ?_)
   | refine w_exit ?_
   | refine w_ret ?_
   | (with_reducible refine s_none ?_)
   | ((with_reducible refine g_id ?_); refine x_guard (h := ?_))
   | (with_reducible first | refine gx_tt ?_ | refine gx_ff ?_ | refine x_tf (h := ?_) | refine x_ft (h := ?_) | refine x_u (h := ?_) | refine x_assign (h := ?_) | refine x_box (h := ?_) | refine x_append0 (T := 47) (h := ?_) | refine x_append (T := 47) (h := ?_) | refine x_build (h := ?_))
   | ((with_reducible refine o_id 71 rfl ?_); refine x_callh (hF := read_fn _ p b k hk (hs.bsm hk).body) (h := ?_))
   | (with_reducible refine x_q (h := ?_))
   | (with_reducible refine gx_s (fun ht => ?_) (fun ht => ?_))
   | refine x_condt (h1 := ?_) | refine x_condf (h1 := ?_)
   | refine x_if (h1 := fun ht => ?_) (h2 := fun ht => ?_)
   | fail)
  all_goals try clear fx
  · have hb : b = 0 := by simpa using ht
    simp only [explicitL, if_pos hb]
    exact e_list (t := 4) (by first | (simp []; done) | (simp []; rfl)) (by first | (simp []; done) | (simp []; rfl)) (by simp)
  have hb : ¬ b = 0 := by simpa using ht
  have hel : explicitL p b k = k.rd.flatMap (explicitOf p b k) := by simp only [explicitL, if_neg hb]
  rw [hel]
  have hrl := k.rd_len
  refine w_loop (fun n st => ∃ i : Nat, n = k.rd.length - i ∧ i ≤ k.rd.length ∧ st.tm 1 = iv b ∧ st.tm 2 = .pt (.s 2) 0 ∧ st.hp (.s 2) = some (.row 1 [[ksl p]]) ∧ st.tm 6 = .hs (.s 6) 1 0 k.rd.length ∧ st.hp (.s 6) = some (.row 1 (irows k.rd)) ∧ st.tm 7 = iv i ∧ ∃ L : List Stm, L = (k.rd.take i).flatMap (explicitOf p b k) ∧ L.length ≤ i ∧ st.tm 5 = .hs (.s 5) 4 0 L.length ∧ st.hp (.s 5) = some (.row 4 (srows L))) k.rd.length ?_ ?_
  · exact ⟨0, by simp [Blk.rd]⟩
  clear ht
  rintro n st - - ⟨i, rfl, hi, h1, h2, hp2, h6, hp6, h7, L, hL, hLi, h5, hp5⟩
  all_goals have fx := And.intro h1 <| And.intro h2 <| And.intro hp2 <| And.intro h6 <| And.intro hp6 <| And.intro h7 <| And.intro h5 <| hp5
  repeat' (first
   | refine w_seq ?_ | refine w_block ?_ | refine w_skip ?_ | refine w_reg fun K hK => ?_
   | ((with_reducible refine s_end hK ?_); clear hK K)
   | (with_reducible first | refine then_normal ?_ | refine in_normal ?_ | refine then_exit ?_ | refine in_exit ?_ | refine then_ret ?_ | refine in_ret ?_ | refine in_other (by decide) ?_)
   | refine w_exit ?_
   | refine w_ret ?_
   | (with_reducible refine s_none ?_)
   | ((with_reducible refine g_id ?_); refine x_guard (h := ?_))
   | (with_reducible first | refine gx_tt ?_ | refine gx_ff ?_ | refine x_tf (h := ?_) | refine x_ft (h := ?_) | refine x_u (h := ?_) | refine x_assign (h := ?_) | refine x_box (h := ?_) | refine x_append0 (T := 47) (h := ?_) | refine x_append (T := 47) (h := ?_) | refine x_build (h := ?_))
   | (with_reducible refine x_q (h := ?_))
   | (with_reducible refine gx_s (fun ht => ?_) (fun ht => ?_))
   | refine x_condt (h1 := ?_) | refine x_condf (h1 := ?_)
   | fail)
  all_goals try clear fx
  refine w_if (by simp []; first | done | rfl | exact (Bool.not_not _).symm) (fun ht => ?_) (fun hf => ?_)
  · have hlt : i < k.rd.length := by simpa using ht
    obtain ⟨x, hx⟩ : ∃ x, k.rd[i]? = some x := ⟨_, List.getElem?_eq_getElem hlt⟩
    obtain ⟨_, hx'⟩ := List.getElem?_eq_some_iff.1 hx
    clear ht
    all_goals have fx := And.intro h1 <| And.intro h2 <| And.intro hp2 <| And.intro h6 <| And.intro hp6 <| And.intro h7 <| And.intro h5 <| And.intro hp5 <| And.intro hx' <| hlt
    repeat' (first
     | refine w_seq ?_ | refine w_block ?_ | refine w_skip ?_ | refine w_reg fun K hK => ?_
     | ((with_reducible refine s_end hK ?_); clear hK K)
     | (with_reducible first | refine then_normal ?_ | refine in_normal ?_ | refine then_exit ?_ | refine in_exit ?_ | refine then_ret ?_ | refine in_ret ?_ | refine in_other (by decide) ?_)
     | refine w_exit ?_
     | refine w_ret ?_
     | (with_reducible refine s_none ?_)
     | ((with_reducible refine g_id ?_); refine x_guard (h := ?_))
     | (with_reducible first | refine gx_tt ?_ | refine gx_ff ?_ | refine x_tf (h := ?_) | refine x_ft (h := ?_) | refine x_u (h := ?_) | refine x_assign (h := ?_) | refine x_box (h := ?_) | refine x_append0 (T := 47) (h := ?_) | refine x_append (T := 47) (h := ?_) | refine x_build (h := ?_))
     | ((with_reducible refine o_id 72 rfl ?_); refine x_call (hF := owner_fn _ p b k _ hk hs hh) (h := ?_))
     | ((with_reducible refine o_id 68 rfl ?_); refine x_callh (hF := declared_fn _ p b k _ hk (hs.bsm hk)) (h := ?_))
     | ((with_reducible refine o_id 43 rfl ?_); refine x_call (hF := has_fn _ _ _ (Nat.le_trans (Blk.dc_len _ _) (by decide))) (h := ?_))
     | (with_reducible refine x_q (h := ?_))
     | (with_reducible refine gx_s (fun ht => ?_) (fun ht => ?_))
     | refine x_condt (h1 := ?_) | refine x_condf (h1 := ?_)
     | refine x_if (h1 := fun ht => ?_) (h2 := fun ht => ?_)
     | fail)
    all_goals try clear fx
    all_goals refine ⟨k.rd.length - (i + 1), by omega, i + 1, rfl, by omega, by simp [h1], by simp [h2], by simp [hp2], by simp [h6], by simp [hp6], by simp; exact wrp (by omega) (by omega), L ++ explicitOf p b k x, by rw [flatMap_take_succ hx, hL], by have := explicitOf_len (p := p) (b := b) (k := k) (x := x); simp only [List.length_append]; omega, ?_⟩
    all_goals clear hL hLi hel hh hs
    all_goals simp_all [explicitOf]
    all_goals rw [if_neg (by omega)]
  · have hge : i = k.rd.length := by
      have : ¬ i < k.rd.length := by simpa using hf
      omega
    subst hge
    rw [List.take_length] at hL
    rw [← hL]
    all_goals have fx := And.intro h5 <| hp5
    repeat' (first
     | refine w_seq ?_ | refine w_block ?_ | refine w_skip ?_ | refine w_reg fun K hK => ?_
     | ((with_reducible refine s_end hK ?_); clear hK K)
     | (with_reducible first | refine then_normal ?_ | refine in_normal ?_ | refine then_exit ?_ | refine in_exit ?_ | refine then_ret ?_ | refine in_ret ?_ | refine in_other (by decide) ?_)
     | refine w_exit ?_
     | refine w_ret ?_
     | (with_reducible refine s_none ?_)
     | ((with_reducible refine g_id ?_); refine x_guard (h := ?_))
     | (with_reducible first | refine gx_tt ?_ | refine gx_ff ?_ | refine x_tf (h := ?_) | refine x_ft (h := ?_) | refine x_u (h := ?_) | refine x_assign (h := ?_) | refine x_box (h := ?_) | refine x_append0 (T := 47) (h := ?_) | refine x_append (T := 47) (h := ?_) | refine x_build (h := ?_))
     | (with_reducible refine x_q (h := ?_))
     | (with_reducible refine gx_s (fun ht => ?_) (fun ht => ?_))
     | refine x_condt (h1 := ?_) | refine x_condf (h1 := ?_)
     | fail)
    all_goals try clear fx
    exact e_list (t := 4) (by first | (simp [hp5]; done) | (simp [hp5]; rfl)) (by first | (simp [hp5]; done) | (simp [hp5]; rfl)) (by simp)

theorem sameTable_fn (gl) (s t : List (List Int)) (hst : s.length = t.length) (hsl : s.length ≤ 1048576) (hrr : ∀ (i : Nat) r r', s[i]? = some r → t[i]? = some r' → r.length = r'.length ∧ r.length ≤ 1048576) : FnOk Try.prog gl 27 [tsl s, tsl t] (fun _ y _ => y = bv (decide (s = t))) := by
  refine FnOk.of_sem Try.func27 rfl (by kernel_rfl) (rs := [.tmp 4]) rfl Try.ntmps27 (Nat.le_of_ble_eq_true rfl) fun C w g root => ?_
  all_goals have fx := fx0
  repeat' (first
   | refine w_seq ?_ | refine w_block ?_ | refine w_skip ?_ | refine w_reg fun K hK => ?_
   | ((with_reducible refine s_end hK ?_); clear hK K)
   | (with_reducible first | refine then_normal ?_ | refine in_normal ?_ | refine then_exit ?_ | refine in_exit ?_ | refine then_ret ?_ | refine in_ret ?_ | refine s_nil ?_ | refine in_other (by decide) ?_)
   | refine w_exit ?_
   | refine w_ret ?_
   | (with_reducible first | refine s_none ?_ | refine x_assign (h := ?_))
   | (with_reducible refine x_q (h := ?_))
   | refine x_condt (h1 := ?_) | refine x_condf (h1 := ?_)
   | (refine w_sch (id := 7) (.q 0 <| .q 1 <| .q 2 <| .q 3 <| .q 4 <| .q 5 <| .q 6 <| .q 7 <| .q 8 <| .q 9 <| .q 10 <| .q 11 <| .q 12 <| .q 13 <| .q 14 <| .done) mixed (by kernel_rfl) (by kernel_rfl) fun K hK => ?_)
   | ((with_reducible refine a_end hK ?_); clear hK K)
   | ((with_reducible refine a_id ?_); first | refine xa_q (h := ?_) | refine xa_qt (h := ?_) | refine xa_qf (h := ?_))
   | ((with_reducible refine a_id ?_); refine xa_gq (h1 := fun ht => ?_) (h2 := fun ht => ?_))
   | refine a_l rfl ?_ | refine a_l2 ?_ ?_ | (with_reducible refine And.intro ?_ ?_) | exact st_nil | refine xa_st (h2 := ?_)
   | fail)
  all_goals try clear fx
  refine w_loop (fun n st => ∃ i : Nat, n = s.length - i ∧ i ≤ s.length ∧ st.tm 0 = tsl s ∧ st.tm 1 = tsl t ∧ st.tm 5 = iv i ∧ ∀ j < i, s[j]? = t[j]?) s.length ?_ ?_
  · exact ⟨0, by simp⟩
  rintro n st - - ⟨i, rfl, hi, h0, h1, h5, heq⟩
  all_goals have fx := And.intro h0 <| And.intro h1 <| h5
  repeat' (first
   | refine w_seq ?_ | refine w_block ?_ | refine w_skip ?_ | refine w_reg fun K hK => ?_
   | ((with_reducible refine s_end hK ?_); clear hK K)
   | (with_reducible first | refine then_normal ?_ | refine in_normal ?_ | refine then_exit ?_ | refine in_exit ?_ | refine then_ret ?_ | refine in_ret ?_ | refine s_nil ?_ | refine in_other (by decide) ?_)
   | refine w_exit ?_
   | refine w_ret ?_
   | (with_reducible first | refine s_none ?_ | refine x_assign (h := ?_))
   | (with_reducible refine x_q (h := ?_))
   | refine x_condt (h1 := ?_) | refine x_condf (h1 := ?_)
   | (refine w_sch (id := 7) (.q 0 <| .q 1 <| .q 2 <| .q 3 <| .q 4 <| .q 5 <| .q 6 <| .q 7 <| .q 8 <| .q 9 <| .q 10 <| .q 11 <| .q 12 <| .q 13 <| .q 14 <| .done) mixed (by kernel_rfl) (by kernel_rfl) fun K hK => ?_)
   | ((with_reducible refine a_end hK ?_); clear hK K)
   | ((with_reducible refine a_id ?_); first | refine xa_q (h := ?_) | refine xa_qt (h := ?_) | refine xa_qf (h := ?_))
   | ((with_reducible refine a_id ?_); refine xa_gq (h1 := fun ht => ?_) (h2 := fun ht => ?_))
   | refine a_l rfl ?_ | refine a_l2 ?_ ?_ | (with_reducible refine And.intro ?_ ?_) | exact st_nil | refine xa_st (h2 := ?_)
   | fail)
  all_goals try clear fx
  refine w_if (by simp []; first | done | rfl | exact (Bool.not_not _).symm) (fun ht => ?_) (fun hf => ?_)
  · have hlt : i < s.length := by simpa using ht
    obtain ⟨r, hr⟩ : ∃ r, s[i]? = some r := ⟨_, List.getElem?_eq_getElem hlt⟩
    obtain ⟨r', hr'⟩ : ∃ r', t[i]? = some r' := ⟨_, List.getElem?_eq_getElem (by omega)⟩
    obtain ⟨hl, hl2⟩ := hrr i r r' hr hr'
    clear ht
    all_goals have fx := And.intro h0 <| And.intro h1 <| h5
    repeat' (first
     | refine w_seq ?_ | refine w_block ?_ | refine w_skip ?_ | refine w_reg fun K hK => ?_
     | ((with_reducible refine s_end hK ?_); clear hK K)
     | (with_reducible first | refine then_normal ?_ | refine in_normal ?_ | refine then_exit ?_ | refine in_exit ?_ | refine then_ret ?_ | refine in_ret ?_ | refine s_nil ?_ | refine in_other (by decide) ?_)
     | refine w_exit ?_
     | refine w_ret ?_
     | (with_reducible first | refine s_none ?_ | refine x_assign (h := ?_))
     | (with_reducible refine x_q (h := ?_))
     | refine x_condt (h1 := ?_) | refine x_condf (h1 := ?_)
     | (refine w_sch (id := 7) (.q 0 <| .q 1 <| .q 2 <| .q 3 <| .q 4 <| .q 5 <| .q 6 <| .q 7 <| .q 8 <| .q 9 <| .q 10 <| .q 11 <| .q 12 <| .q 13 <| .q 14 <| .done) mixed (by kernel_rfl) (by kernel_rfl) fun K hK => ?_)
     | ((with_reducible refine a_end hK ?_); clear hK K)
     | ((with_reducible refine a_id ?_); first | refine xa_q (h := ?_) | refine xa_qt (h := ?_) | refine xa_qf (h := ?_))
     | ((with_reducible refine a_id ?_); refine xa_gq (h1 := fun ht => ?_) (h2 := fun ht => ?_))
     | refine a_l rfl ?_ | refine a_l2 ?_ ?_ | (with_reducible refine And.intro ?_ ?_) | exact st_nil | refine xa_st (h2 := ?_)
     | fail)
    all_goals try clear fx
    refine w_loop (fun n st => ∃ j : Nat, n = r.length - j ∧ j ≤ r.length ∧ st.tm 0 = tsl s ∧ st.tm 1 = tsl t ∧ st.tm 5 = iv i ∧ st.tm 6 = iv j ∧ ∀ a < j, r[a]? = r'[a]?) r.length ?_ ?_
    · exact ⟨0, by simp [h0, h1, h5]⟩
    clear h0 h1 h5
    rintro n st - - ⟨j, rfl, hj, h0, h1, h5, h6, hej⟩
    all_goals have fx := And.intro h0 <| And.intro h1 <| And.intro h5 <| And.intro h6 <| hr
    repeat' (first
     | refine w_seq ?_ | refine w_block ?_ | refine w_skip ?_ | refine w_reg fun K hK => ?_
     | ((with_reducible refine s_end hK ?_); clear hK K)
     | (with_reducible first | refine then_normal ?_ | refine in_normal ?_ | refine then_exit ?_ | refine in_exit ?_ | refine then_ret ?_ | refine in_ret ?_ | refine s_nil ?_ | refine in_other (by decide) ?_)
     | refine w_exit ?_
     | refine w_ret ?_
     | (with_reducible first | refine s_none ?_ | refine x_assign (h := ?_))
     | (with_reducible refine x_q (h := ?_))
     | refine x_condt (h1 := ?_) | refine x_condf (h1 := ?_)
     | (refine w_sch (id := 7) (.q 0 <| .q 1 <| .q 2 <| .q 3 <| .q 4 <| .q 5 <| .q 6 <| .q 7 <| .q 8 <| .q 9 <| .q 10 <| .q 11 <| .q 12 <| .q 13 <| .q 14 <| .done) mixed (by kernel_rfl) (by kernel_rfl) fun K hK => ?_)
     | ((with_reducible refine a_end hK ?_); clear hK K)
     | ((with_reducible refine a_id ?_); first | refine xa_q (h := ?_) | refine xa_qt (h := ?_) | refine xa_qf (h := ?_))
     | ((with_reducible refine a_id ?_); refine xa_gq (h1 := fun ht => ?_) (h2 := fun ht => ?_))
     | refine a_l rfl ?_ | refine a_l2 ?_ ?_ | (with_reducible refine And.intro ?_ ?_) | exact st_nil | refine xa_st (h2 := ?_)
     | fail)
    all_goals try clear fx
    refine w_if (by simp []; first | done | rfl | exact (Bool.not_not _).symm) (fun ht => ?_) (fun hf => ?_)
    · have hlj : j < r.length := by simpa using ht
      obtain ⟨x, hx⟩ : ∃ x, r[j]? = some x := ⟨_, List.getElem?_eq_getElem hlj⟩
      obtain ⟨y, hy⟩ : ∃ y, r'[j]? = some y := ⟨_, List.getElem?_eq_getElem (by omega)⟩
      clear ht
      all_goals have fx := And.intro h0 <| And.intro h1 <| And.intro h5 <| And.intro h6 <| And.intro hr <| And.intro hr' <| And.intro hx <| hy
      repeat' (first
       | refine w_seq ?_ | refine w_block ?_ | refine w_skip ?_ | refine w_reg fun K hK => ?_
       | ((with_reducible refine s_end hK ?_); clear hK K)
       | (with_reducible first | refine then_normal ?_ | refine in_normal ?_ | refine then_exit ?_ | refine in_exit ?_ | refine then_ret ?_ | refine in_ret ?_ | refine s_nil ?_ | refine in_other (by decide) ?_)
       | refine w_exit ?_
       | refine w_ret ?_
       | (with_reducible first | refine s_none ?_ | refine x_assign (h := ?_))
       | (with_reducible refine x_q (h := ?_))
       | refine x_condt (h1 := ?_) | refine x_condf (h1 := ?_)
       | (refine w_sch (id := 7) (.q 0 <| .q 1 <| .q 2 <| .q 3 <| .q 4 <| .q 5 <| .q 6 <| .q 7 <| .q 8 <| .q 9 <| .q 10 <| .q 11 <| .q 12 <| .q 13 <| .q 14 <| .done) mixed (by kernel_rfl) (by kernel_rfl) fun K hK => ?_)
       | ((with_reducible refine a_end hK ?_); clear hK K)
       | ((with_reducible refine a_id ?_); first | refine xa_q (h := ?_) | refine xa_qt (h := ?_) | refine xa_qf (h := ?_))
       | ((with_reducible refine a_id ?_); refine xa_gq (h1 := fun ht => ?_) (h2 := fun ht => ?_))
       | refine a_l rfl ?_ | refine a_l2 ?_ ?_ | (with_reducible refine And.intro ?_ ?_) | exact st_nil | refine xa_st (h2 := ?_)
       | refine x_if (h1 := fun ht => ?_) (h2 := fun ht => ?_)
       | fail)
      all_goals try clear fx
      · refine e_ret [] .nil (by simp; rfl) ?_
        have : s ≠ t := by
          rintro rfl
          rw [hr] at hr'
          obtain rfl := Option.some.inj hr'
          rw [hx] at hy
          obtain rfl := Option.some.inj hy
          simp at ht
        simp [this]
      · refine ⟨r.length - (j + 1), by omega, j + 1, rfl, by omega, by simp [h0], by simp [h1], by simp [h5], by simp; exact wrp (by omega) (by omega), fun a ha => ?_⟩
        rcases Nat.lt_succ_iff_lt_or_eq.1 ha with h | rfl
        · exact hej a h
        · rw [hx, hy]
          simpa using ht
    · have hge : j = r.length := by
        have : ¬ j < r.length := by simpa using hf
        omega
      subst hge
      have hre : r = r' := by
        apply List.ext_getElem?
        intro a
        by_cases ha : a < r.length
        · exact hej a ha
        · rw [List.getElem?_eq_none (by omega), List.getElem?_eq_none (by omega)]
      all_goals have fx := And.intro h0 <| And.intro h1 <| And.intro h5 <| h6
      repeat' (first
       | refine w_seq ?_ | refine w_block ?_ | refine w_skip ?_ | refine w_reg fun K hK => ?_
       | ((with_reducible refine s_end hK ?_); clear hK K)
       | (with_reducible first | refine then_normal ?_ | refine in_normal ?_ | refine then_exit ?_ | refine in_exit ?_ | refine then_ret ?_ | refine in_ret ?_ | refine s_nil ?_ | refine in_other (by decide) ?_)
       | refine w_exit ?_
       | refine w_ret ?_
       | (with_reducible first | refine s_none ?_ | refine x_assign (h := ?_))
       | (with_reducible refine x_q (h := ?_))
       | refine x_condt (h1 := ?_) | refine x_condf (h1 := ?_)
       | (refine w_sch (id := 7) (.q 0 <| .q 1 <| .q 2 <| .q 3 <| .q 4 <| .q 5 <| .q 6 <| .q 7 <| .q 8 <| .q 9 <| .q 10 <| .q 11 <| .q 12 <| .q 13 <| .q 14 <| .done) mixed (by kernel_rfl) (by kernel_rfl) fun K hK => ?_)
       | ((with_reducible refine a_end hK ?_); clear hK K)
       | ((with_reducible refine a_id ?_); first | refine xa_q (h := ?_) | refine xa_qt (h := ?_) | refine xa_qf (h := ?_))
       | ((with_reducible refine a_id ?_); refine xa_gq (h1 := fun ht => ?_) (h2 := fun ht => ?_))
       | refine a_l rfl ?_ | refine a_l2 ?_ ?_ | (with_reducible refine And.intro ?_ ?_) | exact st_nil | refine xa_st (h2 := ?_)
       | fail)
      all_goals try clear fx
      refine ⟨s.length - (i + 1), by omega, i + 1, rfl, by omega, by simp [h0], by simp [h1], by simp; exact wrp (by omega) (by omega), fun a ha => ?_⟩
      rcases Nat.lt_succ_iff_lt_or_eq.1 ha with h | rfl
      · exact heq a h
      · rw [hr, hr', hre]
  · have hge : i = s.length := by
      have : ¬ i < s.length := by simpa using hf
      omega
    subst hge
    have hee : s = t := by
      apply List.ext_getElem?
      intro a
      by_cases ha : a < s.length
      · exact heq a ha
      · rw [List.getElem?_eq_none (by omega), List.getElem?_eq_none (by omega)]
    all_goals have fx := And.intro h0 <| h1
    repeat' (first
     | refine w_seq ?_ | refine w_block ?_ | refine w_skip ?_ | refine w_reg fun K hK => ?_
     | ((with_reducible refine s_end hK ?_); clear hK K)
     | (with_reducible first | refine then_normal ?_ | refine in_normal ?_ | refine then_exit ?_ | refine in_exit ?_ | refine then_ret ?_ | refine in_ret ?_ | refine s_nil ?_ | refine in_other (by decide) ?_)
     | refine w_exit ?_
     | refine w_ret ?_
     | (with_reducible first | refine s_none ?_ | refine x_assign (h := ?_))
     | (with_reducible refine x_q (h := ?_))
     | refine x_condt (h1 := ?_) | refine x_condf (h1 := ?_)
     | (refine w_sch (id := 7) (.q 0 <| .q 1 <| .q 2 <| .q 3 <| .q 4 <| .q 5 <| .q 6 <| .q 7 <| .q 8 <| .q 9 <| .q 10 <| .q 11 <| .q 12 <| .q 13 <| .q 14 <| .done) mixed (by kernel_rfl) (by kernel_rfl) fun K hK => ?_)
     | ((with_reducible refine a_end hK ?_); clear hK K)
     | ((with_reducible refine a_id ?_); first | refine xa_q (h := ?_) | refine xa_qt (h := ?_) | refine xa_qf (h := ?_))
     | ((with_reducible refine a_id ?_); refine xa_gq (h1 := fun ht => ?_) (h2 := fun ht => ?_))
     | refine a_l rfl ?_ | refine a_l2 ?_ ?_ | (with_reducible refine And.intro ?_ ?_) | exact st_nil | refine xa_st (h2 := ?_)
     | fail)
    all_goals try clear fx
    refine e_ret [] .nil (by simp; rfl) (by simp [hee])
end Go.Proofs.Ytopgafhjmbfaoaa
end
