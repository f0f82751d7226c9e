/-
  Own texts, joined by mkclaim.py: Gh, Gi, Gl, Ha, Hb, Hc.
-/
import Derived.Test.YtmaoicgfcngciaaGreatDoorY18
import Derived.Test.YtmaoicgfcngciaaGreatDoorY08
import Derived.Test.YtmaoicgfcngciaaGreatDoorY11
import Derived.Test.YtmaoicgfcngciaaGreatDoorY09
set_option linter.unusedSimpArgs false
set_option linter.unusedVariables false
set_option maxRecDepth 100000
set_option maxHeartbeats 4000000

section
namespace Go.Proofs.YtmaoicgfcngciaaGreatDoor
open Go Go.Hm Go.Proofs
theorem madeIn_fn (gl) (p : Prg) (b : Nat) (k : Blk) (hk : p[b]? = some k) (h0 : 0 < b) (hh : Heads p) (hs : Sml p) : FnOk Tryz.prog gl 137 [pav p, iv b] (fun _ y _ => y = iv (madeIn p b)) := by
  refine FnOk.of_sem Tryz.func137 rfl (by kernel_rfl) (rs := [.tmp 4]) rfl Tryz.ntmps137 (Nat.le_of_ble_eq_true rfl) fun C w g root => ?_
  obtain ⟨hp1, hp2, hp3⟩ := hh b k hk
  have hbl : b < p.length := (gS hk).1
  have hkp := hp3 h0
  obtain ⟨q, hq⟩ : ∃ q, p[k.parent.toNat]? = some q := ⟨_, gE (by omega)⟩
  have hmi : madeIn p b = ((q.body.filter (fun s => makes s b)).length : Int) := by simp only [madeIn, hk, hq]
  rw [hmi]
  have hql := (hs.bsm hq).body
  all_goals have fx := And.intro hk <| And.intro hq <| hkp
  repeat' (first
   | refine w_seq ?_ | refine w_block ?_ | refine w_reg fun K hK => ?_
   | ((with_reducible refine s_end hK ?_); clear hK K)
   | (with_reducible first | refine s_nil ?_)
   | (with_reducible refine s_none ?_)
   | (with_reducible first | refine x_assign (h := ?_) | refine x_box (h := ?_))
   | (refine wSc (id := 2) (.q 0 <| .q 1 <| .q 2 <| .q 3 <| .q 4 <| .q 5 <| .q 6 <| .q 7 <| .q 8 <| .q 9 <| .q 10 <| .l 11 [] <| .done) mixed fun K hK => ?_)
   | ((with_reducible refine a_end hK ?_); clear hK K)
   | ((with_reducible refine a_id ?_); first | refine xa_q (h := ?_))
   | refine a_l rfl ?_ | (with_reducible refine And.intro ?_ ?_) | exact st_nil
   | fail)
  all_goals try clear fx
  refine w_loop (fun n st => ∃ i : Nat, n = q.body.length - i ∧ i ≤ q.body.length ∧ st.tm 1 = iv b ∧ st.tm 6 = ssl q.body ∧ st.tm 7 = iv i ∧ ∃ c : Nat, c = ((q.body.take i).filter (fun s => makes s b)).length ∧ c ≤ i ∧ st.tm 5 = iv c) q.body.length ?_ ?_
  · exact ⟨0, by simp⟩
  rintro n st - - ⟨i, rfl, hi, h1, h6, h7, c, hc, hci, h5⟩
  all_goals have fx := And.intro h1 <| And.intro h6 <| And.intro h7 <| h5
  repeat' (first
   | refine w_seq ?_ | refine w_reg fun K hK => ?_
   | ((with_reducible refine s_end hK ?_); clear hK K)
   | (with_reducible first | refine then_normal ?_)
   | (with_reducible refine s_none ?_)
   | (with_reducible refine x_q (h := ?_))
   | fail)
  all_goals try clear fx
  refine w_if (by simp []; first | done | rfl | exact (Bool.not_not _).symm) (fun ht => ?_) (fun hf => ?_)
  · have hlt : i < q.body.length := by simpa using ht
    obtain ⟨s, hs⟩ : ∃ s, q.body[i]? = some s := ⟨_, gE hlt⟩
    all_goals have fx := And.intro h1 <| And.intro h6 <| And.intro h7 <| And.intro h5 <| hs
    repeat' (first
     | refine w_seq ?_ | refine w_block ?_ | refine w_skip ?_ | refine w_reg fun K hK => ?_
     | ((with_reducible refine s_end hK ?_); clear hK K)
     | (with_reducible first | refine then_normal ?_)
     | (with_reducible refine s_none ?_)
     | ((with_reducible refine g_id ?_); refine x_guard (h := ?_))
     | (with_reducible first | refine gx_tt ?_ | refine gx_ff ?_ | refine x_tf (h := ?_) | refine x_ft (h := ?_) | refine x_assign (h := ?_))
     | (with_reducible refine x_q (h := ?_))
     | (with_reducible refine gx_s (fun ht => ?_) (fun ht => ?_))
     | refine x_condf (h1 := ?_)
     | refine x_if (h1 := fun ht => ?_) (h2 := fun ht => ?_)
     | fail)
    all_goals try clear fx
    all_goals refine ⟨q.body.length - (i + 1), by omega, i + 1, rfl, by omega, by simp [h1], by simp [h6], by simp; exact wrp (by omega) (by omega), ?_⟩
    all_goals refine ⟨_, rfl, ?_⟩
    all_goals simp only [take_succ_filter hs, List.length_append]
    all_goals simp_all [makes]
    all_goals first | exact wrp (by omega) (by omega) | omega
  · have hge : i = q.body.length := by
      have : ¬ i < q.body.length := by simpa using hf
      omega
    subst hge
    rw [List.take_length] at hc
    all_goals have fx :=  h5
    repeat' (first
     | refine w_seq ?_ | refine w_reg fun K hK => ?_
     | ((with_reducible refine s_end hK ?_); clear hK K)
     | (with_reducible first | refine then_normal ?_)
     | refine w_exit ?_
     | refine w_ret ?_
     | (with_reducible refine s_none ?_)
     | (with_reducible first | refine x_assign (h := ?_))
     | (with_reducible refine x_q (h := ?_))
     | fail)
    all_goals try clear fx
    refine e_ret [] .nil (by simp []; rfl) (by simp [hc])
theorem validBlock_fn' (gl) (p : Prg) (b : Nat) (k : Blk) (hk : p[b]? = some k) (hb : b < p.length) (hs : Sml p) : FnOk Tryz.prog gl 135 [pav p, iv b] (fun _ y _ => y = bv (headOk b k)) := validBlock_fn gl p b k hk hb hs
theorem validShape_fn (gl) (p : Prg) (hs : Sml p) : FnOk Tryz.prog gl 86 [pav p] (fun _ y _ => y = bv (shapeOk p)) := by
  have hpl := hs.len
  refine FnOk.of_sem Tryz.func86 rfl (by kernel_rfl) (rs := [.tmp 2]) rfl Tryz.ntmps86 (Nat.le_of_ble_eq_true rfl) fun C w g root => ?_
  all_goals have fx := fx0
  repeat' (first
   | refine w_seq ?_ | refine w_block ?_ | refine w_skip ?_ | refine w_reg fun K hK => ?_
   | ((with_reducible refine s_end hK ?_); clear hK K)
   | (with_reducible first | refine then_normal ?_ | refine then_ret ?_)
   | refine w_ret ?_
   | (with_reducible refine s_none ?_)
   | (with_reducible first | refine x_assign (h := ?_) | refine x_box (h := ?_))
   | ((with_reducible refine o_id 39 rfl ?_); refine x_call (hF := inRange_fn _ _ _ _) (h := ?_))
   | (with_reducible refine x_q (h := ?_))
   | refine x_if (h1 := fun ht => ?_) (h2 := fun ht => ?_)
   | fail)
  all_goals try clear fx
  · refine e_ret [] .nil (by simp; rfl) ?_
    have hno : (decide (1 ≤ p.length) && decide (p.length ≤ 7)) = false := by
      rw [Bool.eq_false_iff]
      intro h
      simp at h ht
      omega
    simp only [shapeOk, hno]
    rfl
  have hyes : (decide (1 ≤ p.length) && decide (p.length ≤ 7)) = true := by
    simp at ht ⊢
    omega
  have hsh : shapeOk p = ((List.range p.length).all (blkOk p) && (List.range p.length).all (fun i => i == 0 || madeIn p i == 1)) := by
    simp only [shapeOk, hyes, Bool.true_and]
  rw [hsh]
  clear hsh
  refine w_loop (fun n st => ∃ i : Nat, n = p.length - i ∧ i ≤ p.length ∧ st.tm 1 = .pt (.s 1) 0 ∧ st.hp (.s 1) = some (.row 1 [[ksl p]]) ∧ st.tm 3 = iv i ∧ (List.range i).all (blkOk p) = true) p.length ?_ ?_
  · exact ⟨0, by simp⟩
  rintro n st - - ⟨i, rfl, hi, h1, hp1, h3, hal⟩
  all_goals have fx := And.intro h1 <| And.intro hp1 <| h3
  repeat' (first
   | refine w_seq ?_ | refine w_reg fun K hK => ?_
   | ((with_reducible refine s_end hK ?_); clear hK K)
   | (with_reducible first | refine then_normal ?_)
   | (with_reducible refine s_none ?_)
   | (with_reducible refine x_q (h := ?_))
   | fail)
  all_goals try clear fx
  refine w_if (by simp []; first | done | rfl | exact (Bool.not_not _).symm) (fun ht => ?_) (fun hf => ?_)
  · have hlt : i < p.length := by simpa using ht
    obtain ⟨k, hk⟩ : ∃ k, p[i]? = some k := ⟨_, gE hlt⟩
    have hbf : blkOk p i = (headOk i k && decide (k.body.length ≤ 12) && k.body.all (StmOk p i k)) := by simp only [blkOk, hk]
    have fin : ∀ R : Bool, blkOk p i = false → ((List.range p.length).all (blkOk p) && R) = false := fun R h => by rw [range_false hlt h]; rfl
    have hbl := (hs.bsm hk).body
    all_goals have fx := And.intro h1 <| And.intro hp1 <| And.intro h3 <| hk
    repeat' (first
     | refine w_seq ?_ | refine w_block ?_ | refine w_skip ?_ | refine w_reg fun K hK => ?_
     | ((with_reducible refine s_end hK ?_); clear hK K)
     | (with_reducible first | refine then_normal ?_ | refine then_ret ?_ | refine in_ret ?_)
     | refine w_ret ?_
     | (with_reducible refine s_none ?_)
     | ((with_reducible refine g_id ?_); refine x_guard (h := ?_))
     | (with_reducible first | refine gx_ff ?_ | refine x_ft (h := ?_) | refine x_assign (h := ?_))
     | ((with_reducible refine o_id 135 rfl ?_); refine x_call (hF := validBlock_fn' _ p i k hk hlt hs) (h := ?_))
     | (with_reducible refine x_q (h := ?_))
     | (with_reducible refine gx_s (fun ht => ?_) (fun ht => ?_))
     | refine x_condt (h1 := ?_)
     | refine x_if (h1 := fun ht => ?_) (h2 := fun ht => ?_)
     | fail)
    all_goals try clear fx
    · refine e_ret [] .nil (by simp; rfl) ?_
      rw [fin _ (by rw [hbf, show headOk i k = false by simpa using ht]; rfl)]
      rfl
    · refine e_ret [] .nil (by simp; rfl) ?_
      rw [fin _ (by rw [hbf, show decide (k.body.length ≤ 12) = false by simp at ht ⊢; omega]; simp)]
      rfl
    rename_i ht1
    have hhd : headOk i k = true := by simpa using ht1
    have hbd : k.body.length ≤ 12 := by simp at ht; omega
    refine w_loop (fun n st => ∃ j : Nat, n = k.body.length - j ∧ j ≤ k.body.length ∧ st.tm 1 = .pt (.s 1) 0 ∧ st.hp (.s 1) = some (.row 1 [[ksl p]]) ∧ st.tm 3 = iv i ∧ st.tm 4 = iv j ∧ (k.body.take j).all (StmOk p i k) = true) k.body.length ?_ ?_
    · exact ⟨0, by simp [h1, hp1, h3]⟩
    clear h1 hp1 h3 ht ht1
    rintro n st - - ⟨j, rfl, hj, h1, hp1, h3, h4, haj⟩
    all_goals have fx := And.intro h1 <| And.intro hp1 <| And.intro h3 <| And.intro h4 <| hk
    repeat' (first
     | refine w_seq ?_ | refine w_reg fun K hK => ?_
     | ((with_reducible refine s_end hK ?_); clear hK K)
     | (with_reducible first | refine then_normal ?_)
     | (with_reducible refine s_none ?_)
     | (with_reducible refine x_q (h := ?_))
     | fail)
    all_goals try clear fx
    refine w_if (by simp []; first | done | rfl | exact (Bool.not_not _).symm) (fun ht => ?_) (fun hf => ?_)
    · have hlj : j < k.body.length := by simpa using ht
      obtain ⟨s, hsj⟩ : ∃ s, k.body[j]? = some s := ⟨_, gE hlj⟩
      all_goals have fx := And.intro h1 <| And.intro hp1 <| And.intro h3 <| And.intro h4 <| And.intro hk <| hsj
      repeat' (first
       | refine w_seq ?_ | refine w_block ?_ | refine w_skip ?_ | refine w_reg fun K hK => ?_
       | ((with_reducible refine s_end hK ?_); clear hK K)
       | (with_reducible first | refine then_normal ?_ | refine then_ret ?_ | refine in_ret ?_ | refine s_nil ?_)
       | refine w_ret ?_
       | (with_reducible refine s_none ?_)
       | (with_reducible first | refine x_assign (h := ?_))
       | ((with_reducible refine o_id 136 rfl ?_); refine x_call (hF := validStmt_fn _ p i k s hk hs hlt) (h := ?_))
       | (with_reducible refine x_q (h := ?_))
       | (refine wSc (id := 11) (.q 0 <| .q 1 <| .q 2 <| .q 3 <| .q 4 <| .q 5 <| .q 6 <| .q 7 <| .q 8 <| .q 9 <| .q 10 <| .l 11 [9, 8, 7, 6, 5, 4, 3, 2] <| .q 12 <| .done) mixed fun K hK => ?_)
       | ((with_reducible refine a_end hK ?_); clear hK K)
       | ((with_reducible refine a_id ?_); first | refine xa_q (h := ?_))
       | refine a_l rfl ?_ | (with_reducible refine And.intro ?_ ?_) | exact st_nil | refine xa_st (h2 := ?_)
       | refine x_if (h1 := fun ht => ?_) (h2 := fun ht => ?_)
       | fail)
      all_goals try clear fx
      · refine e_ret [] .nil (by simp; rfl) ?_
        rw [fin _ (by rw [hbf, all_false (List.mem_of_getElem? hsj) (show StmOk p i k s = false by simpa using ht)]; simp)]
        rfl
      · refine ⟨k.body.length - (j + 1), by omega, j + 1, rfl, by omega, by simp [h1], by simp [hp1], by simp [h3], by simp; exact wrp (by omega) (by omega), ?_⟩
        rw [List.take_add_one, hsj, List.all_append, haj]
        simpa using ht
    · have hge : j = k.body.length := by
        have : ¬ j < k.body.length := by simpa using hf
        omega
      subst hge
      rw [List.take_length] at haj
      all_goals have fx := And.intro h1 <| And.intro hp1 <| And.intro h3 <| And.intro h4 <| hk
      repeat' (first
       | refine w_reg fun K hK => ?_
       | ((with_reducible refine s_end hK ?_); clear hK K)
       | (with_reducible first | refine then_normal ?_)
       | refine w_exit ?_
       | (with_reducible refine s_none ?_)
       | (with_reducible first | refine x_assign (h := ?_))
       | (with_reducible refine x_q (h := ?_))
       | fail)
      all_goals try clear fx
      refine ⟨p.length - (i + 1), by omega, i + 1, rfl, by omega, by simp [h1], by simp [hp1], by simp; exact wrp (by omega) (by omega), ?_⟩
      rw [all_range_succ, hal, hbf, hhd, haj]
      simpa using hbd
  · have hge : i = p.length := by
      have : ¬ i < p.length := by simpa using hf
      omega
    subst hge
    have hh := heads_of hal
    rw [hal, Bool.true_and]
    all_goals have fx := And.intro h1 <| hp1
    repeat' (first
     | refine w_seq ?_ | refine w_block ?_ | refine w_reg fun K hK => ?_
     | ((with_reducible refine s_end hK ?_); clear hK K)
     | refine w_exit ?_
     | (with_reducible refine s_none ?_)
     | (with_reducible first | refine x_assign (h := ?_))
     | fail)
    all_goals try clear fx
    refine w_loop (fun n st => ∃ i : Nat, n = p.length - i ∧ i ≤ p.length ∧ 1 ≤ i ∧ st.tm 1 = .pt (.s 1) 0 ∧ st.hp (.s 1) = some (.row 1 [[ksl p]]) ∧ st.tm 5 = iv i ∧ (List.range i).all (fun i => i == 0 || madeIn p i == 1) = true) (p.length - 1) ?_ ?_
    · refine ⟨1, by omega, ?_, by omega, by simp [h1, hp1]⟩
      simp at hyes
      omega
    clear h1 hp1 h3 hi
    rintro n st - - ⟨i, rfl, hi, hi1, h1, hp1, h5, hmi⟩
    all_goals have fx := And.intro h1 <| And.intro hp1 <| h5
    repeat' (first
     | refine w_seq ?_ | refine w_reg fun K hK => ?_
     | ((with_reducible refine s_end hK ?_); clear hK K)
     | (with_reducible first | refine then_normal ?_)
     | (with_reducible refine s_none ?_)
     | (with_reducible refine x_q (h := ?_))
     | fail)
    all_goals try clear fx
    refine w_if (by simp []; first | done | rfl | exact (Bool.not_not _).symm) (fun ht => ?_) (fun hf => ?_)
    · have hlt : i < p.length := by simpa using ht
      obtain ⟨k, hk⟩ : ∃ k, p[i]? = some k := ⟨_, gE hlt⟩
      all_goals have fx := And.intro h1 <| And.intro hp1 <| And.intro h5 <| @bne_def
      repeat' (first
       | refine w_seq ?_ | refine w_block ?_ | refine w_skip ?_ | refine w_reg fun K hK => ?_
       | ((with_reducible refine s_end hK ?_); clear hK K)
       | (with_reducible first | refine then_normal ?_ | refine then_ret ?_ | refine in_ret ?_)
       | refine w_ret ?_
       | (with_reducible refine s_none ?_)
       | (with_reducible first | refine x_assign (h := ?_))
       | ((with_reducible refine o_id 137 rfl ?_); refine x_call (hF := madeIn_fn _ p i k hk hi1 hh hs) (h := ?_))
       | (with_reducible refine x_q (h := ?_))
       | refine x_if (h1 := fun ht => ?_) (h2 := fun ht => ?_)
       | fail)
      all_goals try clear fx
      · refine e_ret [] .nil (by simp; rfl) ?_
        rw [range_false hlt (show (i == 0 || madeIn p i == 1) = false by simp at ht ⊢; exact ⟨by omega, ht⟩)]
        rfl
      · refine ⟨p.length - (i + 1), by omega, i + 1, rfl, by omega, by omega, by simp [h1], by simp [hp1], by simp; exact wrp (by omega) (by omega), ?_⟩
        rw [all_range_succ, hmi]
        simp at ht ⊢
        exact .inr ht
    · have hge : i = p.length := by
        have : ¬ i < p.length := by simpa using hf
        omega
      subst hge
      all_goals have fx := fx0
      repeat' (first
       | refine w_seq ?_ | refine w_reg fun K hK => ?_
       | ((with_reducible refine s_end hK ?_); clear hK K)
       | (with_reducible first | refine then_normal ?_)
       | refine w_exit ?_
       | refine w_ret ?_
       | (with_reducible refine s_none ?_)
       | (with_reducible first | refine x_assign (h := ?_))
       | fail)
      all_goals try clear fx
      refine e_ret [] .nil (by simp []; rfl) (by simp [hmi])
theorem validProgram_fn (gl) (p : Prg) (hs : Sml p) : FnOk Tryz.prog gl 38 [pav p] (fun _ y _ => y = bv (progOk p)) := by
  have hpl := hs.len
  refine FnOk.of_sem Tryz.func38 rfl (by kernel_rfl) (rs := [.tmp 2]) rfl Tryz.ntmps38 (Nat.le_of_ble_eq_true rfl) fun C w g root => ?_
  all_goals have fx := fx0
  repeat' (first
   | refine w_seq ?_ | refine w_block ?_ | refine w_skip ?_ | refine w_reg fun K hK => ?_
   | ((with_reducible refine s_end hK ?_); clear hK K)
   | (with_reducible first | refine then_normal ?_ | refine in_normal ?_ | refine then_exit ?_ | refine in_exit ?_ | refine then_ret ?_ | refine in_ret ?_ | refine in_other (by decide) ?_)
   | refine w_exit ?_
   | refine w_ret ?_
   | (with_reducible refine s_none ?_)
   | ((with_reducible refine g_id ?_); refine x_guard (h := ?_))
   | (with_reducible first | refine gx_tt ?_ | refine gx_ff ?_ | refine x_tf (h := ?_) | refine x_ft (h := ?_) | refine x_u (h := ?_) | refine x_assign (h := ?_) | refine x_box (h := ?_))
   | ((with_reducible refine o_id 86 rfl ?_); refine x_call (hF := validShape_fn _ p hs) (h := ?_))
   | (with_reducible refine x_q (h := ?_))
   | (with_reducible refine gx_s (fun ht => ?_) (fun ht => ?_))
   | refine x_condt (h1 := ?_) | refine x_condf (h1 := ?_)
   | refine x_if (h1 := fun ht => ?_) (h2 := fun ht => ?_)
   | fail)
  all_goals try clear fx
  · refine e_ret [] .nil (by simp; rfl) ?_
    have : shapeOk p = false := by simpa using ht
    simp only [progOk, this]
    rfl
  have hsh : shapeOk p = true := by simpa using ht
  obtain ⟨hh, hl1, hl7, _, _⟩ := shapeOk_heads hsh
  have hpo : progOk p = (List.range p.length).all (fun b => b == 0 || declsOk p b) := by simp only [progOk, hsh, Bool.true_and]
  rw [hpo]
  clear hpo ht
  refine w_loop (fun n st => ∃ i : Nat, n = p.length - i ∧ i ≤ p.length ∧ 1 ≤ i ∧ st.tm 1 = .pt (.s 1) 0 ∧ st.hp (.s 1) = some (.row 1 [[ksl p]]) ∧ st.tm 3 = iv i ∧ (List.range i).all (fun b => b == 0 || declsOk p b) = true) (p.length - 1) ?_ ?_
  · exact ⟨1, rfl, hl1, by omega, by simp⟩
  rintro n st - - ⟨i, rfl, hi, hi1, h1, hp1, h3, hal⟩
  have fx := And.intro h1 <| And.intro hp1 <| h3
  refine k_run ?_
  clear fx
  refine w_if (by simp []; first | done | rfl | exact (Bool.not_not _).symm) (fun ht => ?_) (fun hf => ?_)
  · have hlt : i < p.length := by simpa using ht
    obtain ⟨k, hk⟩ : ∃ k, p[i]? = some k := ⟨_, gE hlt⟩
    have hpar := (hs.bsm hk).params
    have hdo : declsOk p i = (List.range 8).all (fun x => declOk p i k (x : Int)) := by simp only [declsOk, hk]
    all_goals have fx := And.intro h1 <| And.intro hp1 <| And.intro h3 <| hk
    repeat' (first
     | refine w_seq ?_ | refine w_block ?_ | refine w_skip ?_ | refine w_reg fun K hK => ?_
     | ((with_reducible refine s_end hK ?_); clear hK K)
     | (with_reducible first | refine then_normal ?_ | refine in_normal ?_ | refine then_exit ?_ | refine in_exit ?_ | refine then_ret ?_ | refine in_ret ?_ | refine in_other (by decide) ?_)
     | refine w_exit ?_
     | refine w_ret ?_
     | (with_reducible refine s_none ?_)
     | ((with_reducible refine g_id ?_); refine x_guard (h := ?_))
     | (with_reducible first | refine gx_tt ?_ | refine gx_ff ?_ | refine x_tf (h := ?_) | refine x_ft (h := ?_) | refine x_u (h := ?_) | refine x_assign (h := ?_) | refine x_box (h := ?_))
     | ((with_reducible refine o_id 87 rfl ?_); refine x_callh (hF := declared_fn _ p i k _ hk (hs.bsm hk)) (h := ?_))
     | (with_reducible refine x_q (h := ?_))
     | (with_reducible refine gx_s (fun ht => ?_) (fun ht => ?_))
     | refine x_condt (h1 := ?_) | refine x_condf (h1 := ?_)
     | fail)
    all_goals try clear fx
    refine w_loop (fun n st => ∃ x : Nat, n = 8 - x ∧ x ≤ 8 ∧ st.tm 1 = .pt (.s 1) 0 ∧ st.hp (.s 1) = some (.row 1 [[ksl p]]) ∧ st.tm 3 = iv i ∧ st.tm 4 = .hs (.s 4) 1 0 (k.dc 9).length ∧ st.hp (.s 4) = some (.row 1 (irows (k.dc 9))) ∧ st.tm 5 = .hs (.s 5) 1 0 (k.dc 10).length ∧ st.hp (.s 5) = some (.row 1 (irows (k.dc 10))) ∧ st.tm 6 = iv x ∧ (List.range x).all (fun x => declOk p i k (x : Int)) = true) 8 ?_ ?_
    · exact ⟨0, by simp [h1, hp1, h3]⟩
    clear h1 hp1 h3 ht
    rintro n st - - ⟨x, rfl, hx, h1, hp1, h3, h4, hp4, h5, hp5, h6, hax⟩
    have fx := And.intro h1 <| And.intro hp1 <| And.intro h3 <| And.intro h4 <| And.intro hp4 <| And.intro h5 <| And.intro hp5 <| h6
    refine k_run ?_
    clear fx
    refine w_if (by simp []; first | done | rfl | exact (Bool.not_not _).symm) (fun ht => ?_) (fun hf => ?_)
    · have hx7 : (x : Int) ≤ 7 := by simpa using ht
      have hx8 : x < 8 := by omega
      all_goals have fx := And.intro h1 <| And.intro hp1 <| And.intro h3 <| And.intro h4 <| And.intro hp4 <| And.intro h5 <| And.intro hp5 <| And.intro h6 <| hk
      repeat' (first
       | refine w_seq ?_ | refine w_block ?_ | refine w_skip ?_ | refine w_reg fun K hK => ?_
       | ((with_reducible refine s_end hK ?_); clear hK K)
       | (with_reducible first | refine then_normal ?_ | refine in_normal ?_ | refine then_exit ?_ | refine in_exit ?_ | refine then_ret ?_ | refine in_ret ?_ | refine in_other (by decide) ?_)
       | refine w_exit ?_
       | refine w_ret ?_
       | (with_reducible refine s_none ?_)
       | ((with_reducible refine g_id ?_); refine x_guard (h := ?_))
       | (with_reducible first | refine gx_tt ?_ | refine gx_ff ?_ | refine x_tf (h := ?_) | refine x_ft (h := ?_) | refine x_u (h := ?_) | refine x_assign (h := ?_) | refine x_box (h := ?_))
       | ((with_reducible refine o_id 88 rfl ?_); refine x_call (hF := has_fn _ _ _ (by first | exact Nat.le_trans (Blk.dc_len _ _) (by decide) | omega)) (h := ?_))
       | ((with_reducible refine o_id 89 rfl ?_); refine x_call (hF := outer_fn _ p i k _ hk hs hh) (h := ?_))
       | (with_reducible refine x_q (h := ?_))
       | (with_reducible refine gx_s (fun ht => ?_) (fun ht => ?_))
       | refine x_condt (h1 := ?_) | refine x_condf (h1 := ?_)
       | refine x_if (h1 := fun ht => ?_) (h2 := fun ht => ?_)
       | fail)
      all_goals try clear fx
      all_goals first
        | (have hd : declOk p i k x = false := by
             simp only [declOk]
             clear hal hax hpar hs hh h1 hp1 h3 h4 hp4 h5 hp5 h6 hdo hsh hk
             simp_all
           refine e_ret [] .nil (by simp; rfl) ?_
           rw [range_false hlt (show (i == 0 || declsOk p i) = false by rw [hdo, range_false hx8 hd]; simp; omega)]
           rfl)
        | (have hd : declOk p i k x = true := by
             simp only [declOk]
             clear hal hax hpar hs hh h1 hp1 h3 h4 hp4 h5 hp5 h6 hdo hsh hk
             simp_all
           refine ⟨8 - (x + 1), by omega, x + 1, rfl, by omega, by simp [h1], by simp [hp1], by simp [h3], by simp [h4], by simp [hp4], by simp [h5], by simp [hp5], by simp; exact wrp (by omega) (by omega), ?_⟩
           rw [all_range_succ, hax, hd]
           rfl)
    · have hge : x = 8 := by
        have : ¬ (x : Int) ≤ 7 := by simpa using hf
        omega
      subst hge
      have fx := And.intro h1 <| And.intro hp1 <| h3
      refine k_run ?_
      clear fx
      refine ⟨p.length - (i + 1), by omega, i + 1, rfl, by omega, by omega, by simp [h1], by simp [hp1], by simp; exact wrp (by omega) (by omega), ?_⟩
      rw [all_range_succ, hal, hdo, hax]
      simp
  · have hge : i = p.length := by
      have : ¬ i < p.length := by simpa using hf
      omega
    subst hge
    have fx := fx0
    refine k_run ?_
    clear fx
    refine e_ret [] .nil (by simp []; rfl) (by simp [hal])
end Go.Proofs.YtmaoicgfcngciaaGreatDoor
end
section
namespace Go.Proofs.YtmaoicgfcngciaaGreatDoor
open Go Go.Hm Go.Proofs
abbrev qsGl0 : Sch := .q 0 <| .q 1 <| .q 2 <| .q 3 <| .q 4 <| .q 5 <| .q 6 <| .q 7 <| .q 10 <| .q 11 <| .l2 8 [11, 10, 6, 5, 4, 3, 2, 1, 0] (.l 9 [11, 10, 6, 5, 4, 3, 2, 1, 0] <| .l 12 [10, 6, 5, 4, 3, 2, 1, 0] <| .q 13 <| .l 14 [10, 6, 5, 4, 3, 2, 1, 0] <| .l 15 [10, 6, 5, 4, 3, 2, 0] <| .q 16 <| .l 17 [] <| .done) 9 [11, 10, 7, 6, 5, 4, 3, 2, 1, 0] (.l 8 [11, 10, 6, 5, 4, 3, 2, 1, 0] <| .l 12 [10, 6, 5, 4, 3, 2, 1, 0] <| .q 13 <| .l 14 [10, 6, 5, 4, 3, 2, 1, 0] <| .l 15 [10, 6, 5, 4, 3, 2, 0] <| .q 16 <| .l 17 [] <| .done)
theorem copyProgram_fn (gl) (p : Prg) (hs : Sml p) : FnOk Tryz.prog gl 179 [pav p] (fun r y H' => y = .agg [.hs r 4 0 p.length] ∧ OwnP H' r p) := by
  have hpl := hs.len
  refine FnOk.of_sem Tryz.func179 rfl (by kernel_rfl) (rs := [.cell 2 24]) rfl Tryz.ntmps179 (Nat.le_of_ble_eq_true rfl) fun C w g root => ?_
  have fx := fx0
  refine k_run ?_
  repeat ((first | refine wSc (id := 6) qsGl0 mixed ?_); refine k_rund ?_; refine k_run ?_)
  clear fx
  refine w_loop (fun n st => ∃ i : Nat, n = p.length - i ∧ i ≤ p.length ∧ st.tm 1 = .pt (.s 1) 0 ∧ st.hp (.s 1) = some (.row 1 [[ksl p]]) ∧ st.tm 2 = .pt (.s 2) 0 ∧ st.hp (.s 2) = some (.row 1 [[.hs (.c (.s 2) 0 0) 4 0 0]]) ∧ st.tm 3 = .pt (.s 3) 0 ∧ st.tm 4 = iv i ∧ ∃ q : Prg, q = p.take i ∧ q.length = i ∧ st.hp (.s 3) = some (.row 1 [[.hs (.c (.s 3) 0 0) 4 0 q.length]]) ∧ OwnP st.hp (.c (.s 3) 0 0) q) p.length ?_ ?_
  · refine ⟨0, by omega, by omega, by simp, by simp, by simp, by simp, by simp, by simp, [], rfl, rfl, by simp, by simp, by simp, by simp⟩
  rintro n st - - ⟨i, rfl, hi, h1, hp1, h2, hp2, h3, h4, q, hq, hql, hp3, ⟨ht1, ht2, ht3⟩⟩
  have fx := And.intro h1 <| And.intro hp1 <| h4
  refine k_run ?_
  repeat ((first | refine wSc (id := 6) qsGl0 mixed ?_); refine k_rund ?_; refine k_run ?_)
  clear fx
  refine w_if (by simp []; first | done | rfl | exact (Bool.not_not _).symm) (fun ht => ?_) (fun hf => ?_)
  · have hlt : i < p.length := by simpa using ht
    obtain ⟨k, hk⟩ : ∃ k, p[i]? = some k := ⟨_, gE hlt⟩
    obtain ⟨hkp, hkb⟩ := hs.bsm hk
    clear ht
    all_goals have fx := And.intro h1 <| And.intro hp1 <| And.intro h4 <| And.intro h3 <| And.intro hp3 <| And.intro ht1 <| hk
    repeat' (first
     | refine w_seq ?_ | refine w_block ?_ | refine w_skip ?_ | refine w_reg fun K hK => ?_
     | ((with_reducible refine s_end hK ?_); clear hK K)
     | (with_reducible first | refine then_normal ?_ | refine in_normal ?_ | refine then_exit ?_ | refine in_exit ?_ | refine then_ret ?_ | refine in_ret ?_ | refine s_nil ?_ | refine in_other (by decide) ?_)
     | refine w_exit ?_
     | refine w_ret ?_
     | (with_reducible first | refine s_none ?_ | refine x_assign (h := ?_) | refine x_box (h := ?_) | refine x_alloc (h := ?_) | refine x_store0 (h := ?_) | refine x_append0 (T := 42) (h := ?_) | refine x_append (T := 42) (h := ?_) | refine x_append0 (T := 22) (h := ?_) | refine x_appendC (T := 22) (h := ?_) | refine x_store (h := ?_) | refine x_build (h := ?_))
     | ((with_reducible refine o_id 90 rfl ?_); refine x_callh (hF := copyInts_fn _ k.params (by omega)) (h := ?_))
     | (with_reducible refine x_q (h := ?_))
     | refine x_condt (h1 := ?_) | refine x_condf (h1 := ?_)
     | (refine wSc (id := 6) qsGl0 mixed fun K hK => ?_)
     | ((with_reducible refine a_end hK ?_); clear hK K)
     | ((with_reducible refine a_id ?_); first | refine xa_q (h := ?_) | refine xa_qt (h := ?_) | refine xa_qf (h := ?_) | refine xa_qu (h := ?_))
     | ((with_reducible refine a_id ?_); refine xa_gq (h1 := fun ht => ?_) (h2 := fun ht => ?_))
     | refine a_l rfl ?_ | refine a_l2 ?_ ?_ | (with_reducible refine And.intro ?_ ?_) | exact st_nil | refine xa_st (h2 := ?_)
     | fail)
    all_goals try clear fx
    all_goals
      refine ⟨p.length - (i + 1), by omega, i + 1, rfl, by omega, by simp [h1], by simp [hp1], by simp [h2], by simp [hp2], by simp [h3], by simp; exact wrp (by omega) (by omega), q ++ [k], by rw [List.take_add_one, hk, hq]; rfl, by simp [hql], by simp, ⟨?_, ?_, ?_⟩⟩
      · simp [ht1, pRows_app]
      · intro j r hj
        rcases Nat.lt_or_ge j q.length with hlj | hgj
        · rw [List.getElem?_append_left hlj] at hj
          have hne : ¬ j = q.length := by omega
          simp [ht2 j r hj, hne]
        · rw [List.getElem?_append_right hgj] at hj
          obtain rfl : j = q.length := by
            have := (gS hj).1
            simp at this
            omega
          simp at hj
          subst hj
          simp
      · intro j r hj
        rcases Nat.lt_or_ge j q.length with hlj | hgj
        · rw [List.getElem?_append_left hlj] at hj
          have hne : ¬ j = q.length := by omega
          simp [ht3 j r hj, hne]
        · rw [List.getElem?_append_right hgj] at hj
          obtain rfl : j = q.length := by
            have := (gS hj).1
            simp at this
            omega
          simp at hj
          subst hj
          simp
  · have hge : i = p.length := by
      have : ¬ i < p.length := by simpa using hf
      omega
    have hqp : q = p := by rw [hq, hge, List.take_length]
    subst hqp
    have fx := And.intro h1 <| And.intro h2 <| And.intro hp2 <| And.intro h3 <| hp3
    refine k_run ?_
    repeat ((first | refine wSc (id := 6) qsGl0 mixed ?_); refine k_rund ?_; refine k_run ?_)
    clear fx
    refine e_ret [(.c (.s 3) 0 0, root)] (.one rfl) (by simp [h2]; rfl) ⟨by simp, ⟨?_, fun j r hj => ?_, fun j r hj => ?_⟩⟩
    · simp [ht1, pRows_tr (n := .c (.s 3) 0 0) (m := root) (f := finf noD [(.c (.s 3) 0 0, root)]) (p := q) (by simp)]
    · simp [ht2 j r hj]
    · simp [ht3 j r hj]
def formAV (s : Stm) : AV :=
  if s.kind = 0 then .ifc 201 (.agg [iv s.a]) else if s.kind = 1 then .ifc 203 (.agg [iv s.a]) else if s.kind = 2 then .ifc 205 (.agg [iv s.a, iv s.b])
  else if s.kind = 3 then .ifc 148 (.agg [iv 1, iv s.a]) else if s.kind = 4 then .ifc 148 (.agg [iv 2, iv s.a]) else if s.kind = 5 then .ifc 207 (.agg [iv s.a, iv s.b])
  else if s.kind = 6 then .ifc 209 (.agg [iv s.a, iv s.b]) else if s.kind = 7 then .ifc 211 (.agg [iv s.a]) else if s.kind = 8 then .ifc 212 (.agg [iv s.a])
  else if s.kind = 9 ∨ s.kind = 10 then .ifc 213 (.agg []) else if s.kind = 11 then .ifc 214 (.agg []) else .sc .nilIface
@[simp] theorem formAV_cln (s : Stm) : (formAV s).cln = true := by
  unfold formAV
  repeat' split
  all_goals simp
section
variable {n : Int} {to a b : Int}
@[simp] theorem formAV_0 : formAV ⟨0, to, a, b⟩ = .ifc 201 (.agg [iv a]) := by simp [formAV]
@[simp] theorem formAV_1 : formAV ⟨1, to, a, b⟩ = .ifc 203 (.agg [iv a]) := by simp [formAV]
@[simp] theorem formAV_2 : formAV ⟨2, to, a, b⟩ = .ifc 205 (.agg [iv a, iv b]) := by simp [formAV]
@[simp] theorem formAV_3 : formAV ⟨3, to, a, b⟩ = .ifc 148 (.agg [iv 1, iv a]) := by simp [formAV]
@[simp] theorem formAV_4 : formAV ⟨4, to, a, b⟩ = .ifc 148 (.agg [iv 2, iv a]) := by simp [formAV]
@[simp] theorem formAV_5 : formAV ⟨5, to, a, b⟩ = .ifc 207 (.agg [iv a, iv b]) := by simp [formAV]
@[simp] theorem formAV_6 : formAV ⟨6, to, a, b⟩ = .ifc 209 (.agg [iv a, iv b]) := by simp [formAV]
@[simp] theorem formAV_7 : formAV ⟨7, to, a, b⟩ = .ifc 211 (.agg [iv a]) := by simp [formAV]
@[simp] theorem formAV_8 : formAV ⟨8, to, a, b⟩ = .ifc 212 (.agg [iv a]) := by simp [formAV]
@[simp] theorem formAV_9 : formAV ⟨9, to, a, b⟩ = .ifc 213 (.agg []) := by simp [formAV]
@[simp] theorem formAV_10 : formAV ⟨10, to, a, b⟩ = .ifc 213 (.agg []) := by simp [formAV]
@[simp] theorem formAV_11 : formAV ⟨11, to, a, b⟩ = .ifc 214 (.agg []) := by simp [formAV]
theorem formAV_no {s : Stm} (h : ¬ (0 ≤ s.kind ∧ s.kind ≤ 11)) : formAV s = .sc .nilIface := by
  unfold formAV
  repeat' split
  all_goals first | rfl | omega
theorem kind_cases (n : Int) : n = 0 ∨ n = 1 ∨ n = 2 ∨ n = 3 ∨ n = 4 ∨ n = 5 ∨ n = 6 ∨ n = 7 ∨ n = 8 ∨ n = 9 ∨ n = 10 ∨ n = 11 ∨ ¬ (0 ≤ n ∧ n ≤ 11) := by omega
end
theorem formOf_fn (gl) (s : Stm) : FnOk Tryz.prog gl 105 [s.av] (fun _ x _ => x = formAV s) := by
  refine FnOk.of_sem Tryz.func105 rfl (by kernel_rfl) (rs := [.tmp 2]) rfl Tryz.ntmps105 (Nat.le_of_ble_eq_true rfl) fun C w g root => ?_
  all_goals have fx := fx0
  repeat' (first
   | refine w_seq ?_ | refine w_block ?_ | refine w_skip ?_ | refine w_reg fun K hK => ?_
   | ((with_reducible refine s_end hK ?_); clear hK K)
   | (with_reducible first | refine then_normal ?_ | refine then_ret ?_ | refine in_ret ?_)
   | refine w_ret ?_
   | (with_reducible first | refine s_none ?_ | refine x_assign (h := ?_) | refine x_box (h := ?_))
   | (with_reducible refine x_q (h := ?_))
   | refine x_condt (h1 := ?_)
   | refine x_if (h1 := fun ht => ?_) (h2 := fun ht => ?_)
   | fail)
  all_goals try clear fx
  all_goals refine e_ret [] .nil (by simp; rfl) ?_
  all_goals simp_all [formAV]
theorem binds_fn (gl) (s : Stm) : FnOk Tryz.prog gl 154 [s.av] (fun _ x _ => x = bv (decide (s.sets ∨ s.kind = 11))) := by
  obtain ⟨n, to, a, b⟩ := s
  refine FnOk.of_sem Tryz.func154 rfl (by kernel_rfl) (rs := [.tmp 2]) rfl Tryz.ntmps154 (Nat.le_of_ble_eq_true rfl) fun C w g root => ?_
  rcases kind_cases n with rfl | rfl | rfl | rfl | rfl | rfl | rfl | rfl | rfl | rfl | rfl | rfl | hn
  case inr.inr.inr.inr.inr.inr.inr.inr.inr.inr.inr.inr =>
    have hf : formAV ⟨n, to, a, b⟩ = .sc .nilIface := formAV_no hn
    have fx :=  hf
    have c1 := formOf_fn gl ⟨n, to, a, b⟩
    refine k_run ?_
    clear fx c1
    refine e_ret [] .nil (by simp; rfl) ?_
    have h1 : ¬ (0 ≤ n ∧ n ≤ 6 ∨ n = 11) := by omega
    simp [h1]
  all_goals
    all_goals have fx := fx0
    repeat' (first
     | refine w_seq ?_ | refine w_block ?_ | refine w_skip ?_ | refine w_reg fun K hK => ?_
     | ((with_reducible refine s_end hK ?_); clear hK K)
     | (with_reducible first | refine then_normal ?_ | refine in_normal ?_ | refine then_ret ?_ | refine in_ret ?_)
     | refine w_ret ?_
     | (with_reducible first | refine s_none ?_ | refine x_assign (h := ?_) | refine x_box (h := ?_))
     | ((with_reducible refine o_id 105 rfl ?_); refine x_call (hF := formOf_fn _ ⟨_, to, a, b⟩) (h := ?_))
     | (with_reducible refine x_q (h := ?_))
     | refine x_condt (h1 := ?_) | refine x_condf (h1 := ?_)
     | fail)
    all_goals try clear fx
  all_goals refine e_ret [] .nil (by simp; rfl) ?_
  all_goals simp
theorem impl_isBlock_fn (gl) (p : Prg) (b : Int) : FnOk Tryz.prog gl 63 [pav p, iv b] (fun _ x _ => x = bv (decide (0 ≤ b ∧ b < p.length))) := by
  refine FnOk.of_sem Tryz.func63 rfl (by kernel_rfl) (rs := [.tmp 4]) rfl Tryz.ntmps63 (Nat.le_of_ble_eq_true rfl) fun C w g root => ?_
  all_goals have fx := fx0
  repeat' (first
   | refine w_seq ?_ | refine w_reg fun K hK => ?_
   | ((with_reducible refine s_end hK ?_); clear hK K)
   | (with_reducible first | refine then_normal ?_)
   | refine w_ret ?_
   | (with_reducible refine s_none ?_)
   | ((with_reducible refine g_id ?_); refine x_guard (h := ?_))
   | (with_reducible first | refine gx_tt ?_ | refine x_tf (h := ?_) | refine x_assign (h := ?_) | refine x_box (h := ?_))
   | (with_reducible refine x_q (h := ?_))
   | (with_reducible refine gx_s (fun ht => ?_) (fun ht => ?_))
   | fail)
  all_goals try clear fx
  all_goals refine e_ret [] .nil (by simp; rfl) ?_
  all_goals simp_all
  all_goals omega
end Go.Proofs.YtmaoicgfcngciaaGreatDoor
end
section
namespace Go.Proofs.YtmaoicgfcngciaaGreatDoor
open Go Go.Hm Go.Proofs
theorem fitsHead_fn (gl) (i : Nat) (k : Blk) : FnOk Tryz.prog gl 103 [iv i, k.av] (fun _ x _ => x = bv (headOk i k)) := by
  obtain ⟨kind, parent, params, body⟩ := k
  refine FnOk.of_sem Tryz.func103 rfl (by kernel_rfl) (rs := [.tmp 4]) rfl Tryz.ntmps103 (Nat.le_of_ble_eq_true rfl) fun C w g root => ?_
  rcases params with _ | ⟨x, _ | ⟨y, l⟩⟩
  · skip
    all_goals have fx := fx0
    repeat' (first
     | refine w_seq ?_ | refine w_block ?_ | refine w_skip ?_ | refine w_reg fun K hK => ?_
     | ((with_reducible refine s_end hK ?_); clear hK K)
     | (with_reducible first | refine then_normal ?_ | refine then_ret ?_ | refine in_ret ?_)
     | refine w_ret ?_
     | (with_reducible refine s_none ?_)
     | ((with_reducible refine g_id ?_); refine x_guard (h := ?_))
     | (with_reducible first | refine gx_tt ?_ | refine gx_ff ?_ | refine x_tf (h := ?_) | refine x_ft (h := ?_) | refine x_u (h := ?_) | refine x_assign (h := ?_) | refine x_box (h := ?_))
     | (with_reducible refine x_q (h := ?_))
     | (with_reducible refine gx_s (fun ht => ?_) (fun ht => ?_))
     | refine x_condt (h1 := ?_)
     | refine x_if (h1 := fun ht => ?_) (h2 := fun ht => ?_)
     | fail)
    all_goals try clear fx
    all_goals refine e_ret [] .nil (by simp; rfl) ?_
    all_goals simp_all [headOk, HeadOk]
    all_goals grind
  · skip
    all_goals have fx := fx0
    repeat' (first
     | refine w_seq ?_ | refine w_block ?_ | refine w_skip ?_ | refine w_reg fun K hK => ?_
     | ((with_reducible refine s_end hK ?_); clear hK K)
     | (with_reducible first | refine then_normal ?_ | refine then_ret ?_ | refine in_ret ?_)
     | refine w_ret ?_
     | (with_reducible refine s_none ?_)
     | ((with_reducible refine g_id ?_); refine x_guard (h := ?_))
     | (with_reducible first | refine gx_tt ?_ | refine gx_ff ?_ | refine x_tf (h := ?_) | refine x_ft (h := ?_) | refine x_assign (h := ?_) | refine x_box (h := ?_))
     | ((with_reducible refine o_id 153 rfl ?_); refine x_call (hF := impl_isName_fn _ x) (h := ?_))
     | (with_reducible refine x_q (h := ?_))
     | (with_reducible refine gx_s (fun ht => ?_) (fun ht => ?_))
     | refine x_condt (h1 := ?_)
     | refine x_if (h1 := fun ht => ?_) (h2 := fun ht => ?_)
     | fail)
    all_goals try clear fx
    all_goals refine e_ret [] .nil (by simp; rfl) ?_
    all_goals simp_all [headOk, HeadOk]
    all_goals grind
  · have h1 : ((l.length : Int) + 1 + 1 == 1) = false := by simp; omega
    have h0 : ((l.length : Int) + 1 + 1 == 0) = false := by simp; omega
    all_goals have fx := And.intro h0 <| h1
    repeat' (first
     | refine w_seq ?_ | refine w_block ?_ | refine w_skip ?_ | refine w_reg fun K hK => ?_
     | ((with_reducible refine s_end hK ?_); clear hK K)
     | (with_reducible first | refine then_normal ?_ | refine then_ret ?_ | refine in_ret ?_)
     | refine w_ret ?_
     | (with_reducible refine s_none ?_)
     | ((with_reducible refine g_id ?_); refine x_guard (h := ?_))
     | (with_reducible first | refine gx_tt ?_ | refine gx_ff ?_ | refine x_tf (h := ?_) | refine x_ft (h := ?_) | refine x_assign (h := ?_) | refine x_box (h := ?_))
     | (with_reducible refine x_q (h := ?_))
     | (with_reducible refine gx_s (fun ht => ?_) (fun ht => ?_))
     | refine x_condt (h1 := ?_)
     | refine x_if (h1 := fun ht => ?_) (h2 := fun ht => ?_)
     | fail)
    all_goals try clear fx
    all_goals refine e_ret [] .nil (by simp; rfl) ?_
    all_goals simp_all [headOk, HeadOk]
    all_goals grind
theorem madeAs_at {p : Prg} {b j : Nat} {q : Blk} {d : Int} (hh : Heads p) (hq : p[j]? = some q) : madeAs p b j d = ((q.kind == d) && (q.parent == b)) := by
  have hj : j < p.length := (gS hq).1
  obtain ⟨_, h2, _⟩ := hh j q hq
  simp only [madeAs, Int.toNat_natCast, hq]
  by_cases h : q.parent = b
  · have : (b : Int) + 1 ≤ j ∧ (j : Int) ≤ p.length - 1 := by omega
    simp [this]
  · simp [h]
theorem madeAs_no {p : Prg} {b : Nat} {j d : Int} (h : ¬ (0 ≤ j ∧ j < p.length)) : madeAs p b j d = false := by
  have : ¬ ((b : Int) + 1 ≤ j ∧ j ≤ (p.length : Int) - 1) := by omega
  simp [madeAs, this]
theorem fitsStmt_fn (gl) (p : Prg) (b : Nat) (k : Blk) (s : Stm) (hk : p[b]? = some k) (hh : Heads p) (hd : HeadOk b k) : FnOk Tryz.prog gl 104 [pav p, iv b, s.av] (fun _ x _ => x = bv (StmOk p b k s)) := by
  obtain ⟨n, to, a, c⟩ := s
  have hb0 : (k.kind = 0) ↔ b = 0 := by
    unfold HeadOk at hd
    split at hd <;> omega
  refine FnOk.of_sem Tryz.func104 rfl (by kernel_rfl) (rs := [.tmp 6]) rfl Tryz.ntmps104 (Nat.le_of_ble_eq_true rfl) fun C w g root => ?_
  by_cases hto : 0 ≤ to ∧ to ≤ 7
  case neg =>
    have h1 : (decide (0 ≤ to) && decide (to ≤ 7)) = false := by simp; omega
    have fx :=  h1
    have c1 := impl_isName_fn gl to
    refine k_run ?_
    clear fx c1
    refine e_ret [] .nil (by simp; rfl) ?_
    simp [StmOk, h1]
  have h1 : (decide (0 ≤ to) && decide (to ≤ 7)) = true := by simp; omega
  rcases kind_cases n with rfl | rfl | rfl | rfl | rfl | rfl | rfl | rfl | rfl | rfl | rfl | rfl | hn
  case inr.inr.inr.inr.inr.inr.inr.inr.inr.inr.inr.inr =>
    have hf : formAV ⟨n, to, a, c⟩ = .sc .nilIface := formAV_no hn
    have fx := And.intro h1 <| hf
    have c1 := impl_isName_fn gl to
    have c2 := formOf_fn gl ⟨n, to, a, c⟩
    refine k_run ?_
    clear fx c1 c2
    refine e_ret [] .nil (by simp; rfl) ?_
    have h2 : ¬ (n = 0 ∨ n = 1 ∨ n = 2 ∨ n = 3 ∨ n = 4 ∨ n = 5 ∨ n = 6 ∨ n = 7 ∨ n = 8 ∨ n = 9 ∨ n = 10 ∨ n = 11) := by omega
    simp only [not_or] at h2
    simp [StmOk, h2]
  case inr.inr.inr.inl =>
    by_cases ha : 0 ≤ a ∧ a < p.length
    · obtain ⟨j, rfl⟩ : ∃ j : Nat, a = j := ⟨a.toNat, by omega⟩
      obtain ⟨q, hq⟩ : ∃ q, p[j]? = some q := ⟨_, gE (by omega)⟩
      obtain ⟨h2, h3⟩ := gS hq
      all_goals have fx := And.intro h1 <| And.intro hq <| And.intro h2 <| h3
      repeat' (first
       | refine w_seq ?_ | refine w_block ?_ | refine w_skip ?_ | refine w_reg fun K hK => ?_
       | ((with_reducible refine s_end hK ?_); clear hK K)
       | (with_reducible first | refine then_normal ?_ | refine in_normal ?_ | refine then_ret ?_ | refine in_ret ?_)
       | refine w_ret ?_
       | (with_reducible refine s_none ?_)
       | ((with_reducible refine g_id ?_); refine x_guard (h := ?_))
       | (with_reducible first | refine gx_tt ?_ | refine gx_ff ?_ | refine x_tf (h := ?_) | refine x_ft (h := ?_) | refine x_u (h := ?_) | refine x_assign (h := ?_) | refine x_box (h := ?_) | refine x_alloc (h := ?_) | refine x_store0 (h := ?_) | refine x_store (h := ?_))
       | ((with_reducible refine o_id 153 rfl ?_); refine x_call (hF := impl_isName_fn _ to) (h := ?_))
       | ((with_reducible refine o_id 105 rfl ?_); refine x_call (hF := formOf_fn _ ⟨_, to, _, c⟩) (h := ?_))
       | ((with_reducible refine o_id 63 rfl ?_); refine x_call (hF := impl_isBlock_fn _ p _) (h := ?_))
       | (with_reducible refine x_q (h := ?_))
       | (with_reducible refine gx_s (fun ht => ?_) (fun ht => ?_))
       | refine x_condt (h1 := ?_) | refine x_condf (h1 := ?_)
       | refine x_if (h1 := fun ht => ?_) (h2 := fun ht => ?_)
       | fail)
      all_goals try clear fx
      all_goals refine e_ret [] .nil (by simp; rfl) ?_
      all_goals simp_all [StmOk, madeAs_at, Stm.reads]
    · have h2 : ¬ (0 ≤ a ∧ a < p.length) := ha
      all_goals have fx := And.intro h1 <| h2
      repeat' (first
       | refine w_seq ?_ | refine w_block ?_ | refine w_skip ?_ | refine w_reg fun K hK => ?_
       | ((with_reducible refine s_end hK ?_); clear hK K)
       | (with_reducible first | refine then_normal ?_ | refine in_normal ?_ | refine then_ret ?_ | refine in_ret ?_)
       | refine w_ret ?_
       | (with_reducible refine s_none ?_)
       | ((with_reducible refine g_id ?_); refine x_guard (h := ?_))
       | (with_reducible first | refine gx_tt ?_ | refine gx_ff ?_ | refine x_tf (h := ?_) | refine x_ft (h := ?_) | refine x_u (h := ?_) | refine x_assign (h := ?_) | refine x_box (h := ?_) | refine x_alloc (h := ?_) | refine x_store0 (h := ?_) | refine x_store (h := ?_))
       | ((with_reducible refine o_id 153 rfl ?_); refine x_call (hF := impl_isName_fn _ to) (h := ?_))
       | ((with_reducible refine o_id 105 rfl ?_); refine x_call (hF := formOf_fn _ ⟨_, to, _, c⟩) (h := ?_))
       | ((with_reducible refine o_id 63 rfl ?_); refine x_call (hF := impl_isBlock_fn _ p _) (h := ?_))
       | (with_reducible refine x_q (h := ?_))
       | (with_reducible refine gx_s (fun ht => ?_) (fun ht => ?_))
       | refine x_condt (h1 := ?_) | refine x_condf (h1 := ?_)
       | refine x_if (h1 := fun ht => ?_) (h2 := fun ht => ?_)
       | fail)
      all_goals try clear fx
      all_goals refine e_ret [] .nil (by simp; rfl) ?_
      all_goals simp [StmOk, madeAs_no h2]
  case inr.inr.inr.inr.inl =>
    by_cases ha : 0 ≤ a ∧ a < p.length
    · obtain ⟨j, rfl⟩ : ∃ j : Nat, a = j := ⟨a.toNat, by omega⟩
      obtain ⟨q, hq⟩ : ∃ q, p[j]? = some q := ⟨_, gE (by omega)⟩
      obtain ⟨h2, h3⟩ := gS hq
      all_goals have fx := And.intro h1 <| And.intro hq <| And.intro h2 <| h3
      repeat' (first
       | refine w_seq ?_ | refine w_block ?_ | refine w_skip ?_ | refine w_reg fun K hK => ?_
       | ((with_reducible refine s_end hK ?_); clear hK K)
       | (with_reducible first | refine then_normal ?_ | refine in_normal ?_ | refine then_ret ?_ | refine in_ret ?_)
       | refine w_ret ?_
       | (with_reducible refine s_none ?_)
       | ((with_reducible refine g_id ?_); refine x_guard (h := ?_))
       | (with_reducible first | refine gx_tt ?_ | refine gx_ff ?_ | refine x_tf (h := ?_) | refine x_ft (h := ?_) | refine x_u (h := ?_) | refine x_assign (h := ?_) | refine x_box (h := ?_) | refine x_alloc (h := ?_) | refine x_store0 (h := ?_) | refine x_store (h := ?_))
       | ((with_reducible refine o_id 153 rfl ?_); refine x_call (hF := impl_isName_fn _ to) (h := ?_))
       | ((with_reducible refine o_id 105 rfl ?_); refine x_call (hF := formOf_fn _ ⟨_, to, _, c⟩) (h := ?_))
       | ((with_reducible refine o_id 63 rfl ?_); refine x_call (hF := impl_isBlock_fn _ p _) (h := ?_))
       | (with_reducible refine x_q (h := ?_))
       | (with_reducible refine gx_s (fun ht => ?_) (fun ht => ?_))
       | refine x_condt (h1 := ?_) | refine x_condf (h1 := ?_)
       | refine x_if (h1 := fun ht => ?_) (h2 := fun ht => ?_)
       | fail)
      all_goals try clear fx
      all_goals refine e_ret [] .nil (by simp; rfl) ?_
      all_goals simp_all [StmOk, madeAs_at, Stm.reads]
    · have h2 : ¬ (0 ≤ a ∧ a < p.length) := ha
      all_goals have fx := And.intro h1 <| h2
      repeat' (first
       | refine w_seq ?_ | refine w_block ?_ | refine w_skip ?_ | refine w_reg fun K hK => ?_
       | ((with_reducible refine s_end hK ?_); clear hK K)
       | (with_reducible first | refine then_normal ?_ | refine in_normal ?_ | refine then_ret ?_ | refine in_ret ?_)
       | refine w_ret ?_
       | (with_reducible refine s_none ?_)
       | ((with_reducible refine g_id ?_); refine x_guard (h := ?_))
       | (with_reducible first | refine gx_tt ?_ | refine gx_ff ?_ | refine x_tf (h := ?_) | refine x_ft (h := ?_) | refine x_u (h := ?_) | refine x_assign (h := ?_) | refine x_box (h := ?_) | refine x_alloc (h := ?_) | refine x_store0 (h := ?_) | refine x_store (h := ?_))
       | ((with_reducible refine o_id 153 rfl ?_); refine x_call (hF := impl_isName_fn _ to) (h := ?_))
       | ((with_reducible refine o_id 105 rfl ?_); refine x_call (hF := formOf_fn _ ⟨_, to, _, c⟩) (h := ?_))
       | ((with_reducible refine o_id 63 rfl ?_); refine x_call (hF := impl_isBlock_fn _ p _) (h := ?_))
       | (with_reducible refine x_q (h := ?_))
       | (with_reducible refine gx_s (fun ht => ?_) (fun ht => ?_))
       | refine x_condt (h1 := ?_) | refine x_condf (h1 := ?_)
       | refine x_if (h1 := fun ht => ?_) (h2 := fun ht => ?_)
       | fail)
      all_goals try clear fx
      all_goals refine e_ret [] .nil (by simp; rfl) ?_
      all_goals simp [StmOk, madeAs_no h2]
  all_goals
    all_goals have fx := And.intro h1 <| hk
    repeat' (first
     | refine w_seq ?_ | refine w_block ?_ | refine w_skip ?_ | refine w_reg fun K hK => ?_
     | ((with_reducible refine s_end hK ?_); clear hK K)
     | (with_reducible first | refine then_normal ?_ | refine in_normal ?_ | refine then_ret ?_ | refine in_ret ?_)
     | refine w_ret ?_
     | (with_reducible refine s_none ?_)
     | ((with_reducible refine g_id ?_); refine x_guard (h := ?_))
     | (with_reducible first | refine gx_tt ?_ | refine gx_ff ?_ | refine x_tf (h := ?_) | refine x_ft (h := ?_) | refine x_u (h := ?_) | refine x_assign (h := ?_) | refine x_box (h := ?_) | refine x_alloc (h := ?_) | refine x_store0 (h := ?_) | refine x_store (h := ?_))
     | ((with_reducible refine o_id 153 rfl ?_); refine x_call (hF := impl_isName_fn _ _) (h := ?_))
     | ((with_reducible refine o_id 105 rfl ?_); refine x_call (hF := formOf_fn _ ⟨_, to, a, c⟩) (h := ?_))
     | (with_reducible refine x_q (h := ?_))
     | (with_reducible refine gx_s (fun ht => ?_) (fun ht => ?_))
     | refine x_condt (h1 := ?_) | refine x_condf (h1 := ?_)
     | refine x_if (h1 := fun ht => ?_) (h2 := fun ht => ?_)
     | fail)
    all_goals try clear fx
  all_goals refine e_ret [] .nil (by simp [hk]; rfl) ?_
  all_goals simp_all [StmOk, Stm.reads]
  all_goals first | omega | grind
end Go.Proofs.YtmaoicgfcngciaaGreatDoor
end
