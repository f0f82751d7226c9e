/-
  Own texts, joined by mkclaim.py: Gh, Gi, Gl, Gn, Ka.
-/
import Derived.Test.YtmaoicgfcngciaaDoorQ16
import Derived.Test.YtmaoicgfcngciaaDoorQ08
import Derived.Test.YtmaoicgfcngciaaDoorQ11
import Derived.Test.YtmaoicgfcngciaaDoorQ09
import Derived.Test.YtmaoicgfcngciaaDoorQ10
set_option linter.unusedSimpArgs false
set_option linter.unusedVariables false
set_option maxRecDepth 100000
set_option maxHeartbeats 4000000

section
namespace Go.Proofs.YtmaoicgfcngciaaDoor
open Go Go.Hm Go.Proofs
theorem madeIn_fn (gl) (p : Prg) (b : Nat) (k : Blk) (hk : p[b]? = some k) (h0 : 0 < b) (hh : Heads p) (hs : Sml p) : FnOk Tryd.prog gl 69 [pav p, iv b] (fun _ y _ => y = iv (madeIn p b)) := by
  refine FnOk.of_sem Tryd.func69 rfl (by kernel_rfl) (rs := [.tmp 4]) rfl Tryd.ntmps69 (Nat.le_of_ble_eq_true rfl) fun C w g root => ?_
  obtain ⟨hp1, hp2, hp3⟩ := hh b k hk
  have hbl : b < p.length := (gS hk).1
  have hkp := hp3 h0
  obtain ⟨q, hq⟩ : ∃ q, p[k.parent.toNat]? = some q := ⟨_, gE (by omega)⟩
  have hmi : madeIn p b = ((q.body.filter (fun s => makes s b)).length : Int) := by simp only [madeIn, hk, hq]
  rw [hmi]
  have hql := (hs.bsm hq).body
  all_goals have fx := And.intro hk <| And.intro hq <| hkp
  repeat' (first
   | refine w_seq ?_ | refine w_block ?_ | refine w_reg fun K hK => ?_
   | ((with_reducible refine s_end hK ?_); clear hK K)
   | (with_reducible first | refine s_nil ?_)
   | (with_reducible refine s_none ?_)
   | (with_reducible first | refine x_assign (h := ?_) | refine x_box (h := ?_))
   | (refine wSc (id := 2) (.q 0 <| .q 1 <| .q 2 <| .q 3 <| .q 4 <| .q 5 <| .q 6 <| .q 7 <| .q 8 <| .q 9 <| .q 10 <| .l 11 [] <| .done) mixed fun K hK => ?_)
   | ((with_reducible refine a_end hK ?_); clear hK K)
   | ((with_reducible refine a_id ?_); first | refine xa_q (h := ?_))
   | refine a_l rfl ?_ | (with_reducible refine And.intro ?_ ?_) | exact st_nil
   | fail)
  all_goals try clear fx
  refine w_loop (fun n st => ∃ i : Nat, n = q.body.length - i ∧ i ≤ q.body.length ∧ st.tm 1 = iv b ∧ st.tm 6 = ssl q.body ∧ st.tm 7 = iv i ∧ ∃ c : Nat, c = ((q.body.take i).filter (fun s => makes s b)).length ∧ c ≤ i ∧ st.tm 5 = iv c) q.body.length ?_ ?_
  · exact ⟨0, by simp⟩
  rintro n st - - ⟨i, rfl, hi, h1, h6, h7, c, hc, hci, h5⟩
  all_goals have fx := And.intro h1 <| And.intro h6 <| And.intro h7 <| h5
  repeat' (first
   | refine w_seq ?_ | refine w_reg fun K hK => ?_
   | ((with_reducible refine s_end hK ?_); clear hK K)
   | (with_reducible first | refine then_normal ?_)
   | (with_reducible refine s_none ?_)
   | (with_reducible refine x_q (h := ?_))
   | fail)
  all_goals try clear fx
  refine w_if (by simp []; first | done | rfl | exact (Bool.not_not _).symm) (fun ht => ?_) (fun hf => ?_)
  · have hlt : i < q.body.length := by simpa using ht
    obtain ⟨s, hs⟩ : ∃ s, q.body[i]? = some s := ⟨_, gE hlt⟩
    all_goals have fx := And.intro h1 <| And.intro h6 <| And.intro h7 <| And.intro h5 <| hs
    repeat' (first
     | refine w_seq ?_ | refine w_block ?_ | refine w_skip ?_ | refine w_reg fun K hK => ?_
     | ((with_reducible refine s_end hK ?_); clear hK K)
     | (with_reducible first | refine then_normal ?_)
     | (with_reducible refine s_none ?_)
     | ((with_reducible refine g_id ?_); refine x_guard (h := ?_))
     | (with_reducible first | refine gx_tt ?_ | refine gx_ff ?_ | refine x_tf (h := ?_) | refine x_ft (h := ?_) | refine x_assign (h := ?_))
     | (with_reducible refine x_q (h := ?_))
     | (with_reducible refine gx_s (fun ht => ?_) (fun ht => ?_))
     | refine x_condf (h1 := ?_)
     | refine x_if (h1 := fun ht => ?_) (h2 := fun ht => ?_)
     | fail)
    all_goals try clear fx
    all_goals refine ⟨q.body.length - (i + 1), by omega, i + 1, rfl, by omega, by simp [h1], by simp [h6], by simp; exact wrp (by omega) (by omega), ?_⟩
    all_goals refine ⟨_, rfl, ?_⟩
    all_goals simp only [take_succ_filter hs, List.length_append]
    all_goals simp_all [makes]
    all_goals first | exact wrp (by omega) (by omega) | omega
  · have hge : i = q.body.length := by
      have : ¬ i < q.body.length := by simpa using hf
      omega
    subst hge
    rw [List.take_length] at hc
    all_goals have fx :=  h5
    repeat' (first
     | refine w_seq ?_ | refine w_reg fun K hK => ?_
     | ((with_reducible refine s_end hK ?_); clear hK K)
     | (with_reducible first | refine then_normal ?_)
     | refine w_exit ?_
     | refine w_ret ?_
     | (with_reducible refine s_none ?_)
     | (with_reducible first | refine x_assign (h := ?_))
     | (with_reducible refine x_q (h := ?_))
     | fail)
    all_goals try clear fx
    refine e_ret [] .nil (by simp []; rfl) (by simp [hc])
theorem validBlock_fn' (gl) (p : Prg) (b : Nat) (k : Blk) (hk : p[b]? = some k) (hb : b < p.length) (hs : Sml p) : FnOk Tryd.prog gl 67 [pav p, iv b] (fun _ y _ => y = bv (headOk b k)) := validBlock_fn gl p b k hk hb hs
theorem validShape_fn (gl) (p : Prg) (hs : Sml p) : FnOk Tryd.prog gl 36 [pav p] (fun _ y _ => y = bv (shapeOk p)) := by
  have hpl := hs.len
  refine FnOk.of_sem Tryd.func36 rfl (by kernel_rfl) (rs := [.tmp 2]) rfl Tryd.ntmps36 (Nat.le_of_ble_eq_true rfl) fun C w g root => ?_
  all_goals have fx := fx0
  repeat' (first
   | refine w_seq ?_ | refine w_block ?_ | refine w_skip ?_ | refine w_reg fun K hK => ?_
   | ((with_reducible refine s_end hK ?_); clear hK K)
   | (with_reducible first | refine then_normal ?_ | refine then_ret ?_)
   | refine w_ret ?_
   | (with_reducible refine s_none ?_)
   | (with_reducible first | refine x_assign (h := ?_) | refine x_box (h := ?_))
   | ((with_reducible refine o_id 51 rfl ?_); refine x_call (hF := inRange_fn _ _ _ _) (h := ?_))
   | (with_reducible refine x_q (h := ?_))
   | refine x_if (h1 := fun ht => ?_) (h2 := fun ht => ?_)
   | fail)
  all_goals try clear fx
  · refine e_ret [] .nil (by simp; rfl) ?_
    have hno : (decide (1 ≤ p.length) && decide (p.length ≤ 7)) = false := by
      rw [Bool.eq_false_iff]
      intro h
      simp at h ht
      omega
    simp only [shapeOk, hno]
    rfl
  have hyes : (decide (1 ≤ p.length) && decide (p.length ≤ 7)) = true := by
    simp at ht ⊢
    omega
  have hsh : shapeOk p = ((List.range p.length).all (blkOk p) && (List.range p.length).all (fun i => i == 0 || madeIn p i == 1)) := by
    simp only [shapeOk, hyes, Bool.true_and]
  rw [hsh]
  clear hsh
  refine w_loop (fun n st => ∃ i : Nat, n = p.length - i ∧ i ≤ p.length ∧ st.tm 1 = .pt (.s 1) 0 ∧ st.hp (.s 1) = some (.row 1 [[ksl p]]) ∧ st.tm 3 = iv i ∧ (List.range i).all (blkOk p) = true) p.length ?_ ?_
  · exact ⟨0, by simp⟩
  rintro n st - - ⟨i, rfl, hi, h1, hp1, h3, hal⟩
  all_goals have fx := And.intro h1 <| And.intro hp1 <| h3
  repeat' (first
   | refine w_seq ?_ | refine w_reg fun K hK => ?_
   | ((with_reducible refine s_end hK ?_); clear hK K)
   | (with_reducible first | refine then_normal ?_)
   | (with_reducible refine s_none ?_)
   | (with_reducible refine x_q (h := ?_))
   | fail)
  all_goals try clear fx
  refine w_if (by simp []; first | done | rfl | exact (Bool.not_not _).symm) (fun ht => ?_) (fun hf => ?_)
  · have hlt : i < p.length := by simpa using ht
    obtain ⟨k, hk⟩ : ∃ k, p[i]? = some k := ⟨_, gE hlt⟩
    have hbf : blkOk p i = (headOk i k && decide (k.body.length ≤ 12) && k.body.all (StmOk p i k)) := by simp only [blkOk, hk]
    have fin : ∀ R : Bool, blkOk p i = false → ((List.range p.length).all (blkOk p) && R) = false := fun R h => by rw [range_false hlt h]; rfl
    have hbl := (hs.bsm hk).body
    all_goals have fx := And.intro h1 <| And.intro hp1 <| And.intro h3 <| hk
    repeat' (first
     | refine w_seq ?_ | refine w_block ?_ | refine w_skip ?_ | refine w_reg fun K hK => ?_
     | ((with_reducible refine s_end hK ?_); clear hK K)
     | (with_reducible first | refine then_normal ?_ | refine then_ret ?_ | refine in_ret ?_)
     | refine w_ret ?_
     | (with_reducible refine s_none ?_)
     | ((with_reducible refine g_id ?_); refine x_guard (h := ?_))
     | (with_reducible first | refine gx_ff ?_ | refine x_ft (h := ?_) | refine x_assign (h := ?_))
     | ((with_reducible refine o_id 67 rfl ?_); refine x_call (hF := validBlock_fn' _ p i k hk hlt hs) (h := ?_))
     | (with_reducible refine x_q (h := ?_))
     | (with_reducible refine gx_s (fun ht => ?_) (fun ht => ?_))
     | refine x_condt (h1 := ?_)
     | refine x_if (h1 := fun ht => ?_) (h2 := fun ht => ?_)
     | fail)
    all_goals try clear fx
    · refine e_ret [] .nil (by simp; rfl) ?_
      rw [fin _ (by rw [hbf, show headOk i k = false by simpa using ht]; rfl)]
      rfl
    · refine e_ret [] .nil (by simp; rfl) ?_
      rw [fin _ (by rw [hbf, show decide (k.body.length ≤ 12) = false by simp at ht ⊢; omega]; simp)]
      rfl
    rename_i ht1
    have hhd : headOk i k = true := by simpa using ht1
    have hbd : k.body.length ≤ 12 := by simp at ht; omega
    refine w_loop (fun n st => ∃ j : Nat, n = k.body.length - j ∧ j ≤ k.body.length ∧ st.tm 1 = .pt (.s 1) 0 ∧ st.hp (.s 1) = some (.row 1 [[ksl p]]) ∧ st.tm 3 = iv i ∧ st.tm 4 = iv j ∧ (k.body.take j).all (StmOk p i k) = true) k.body.length ?_ ?_
    · exact ⟨0, by simp [h1, hp1, h3]⟩
    clear h1 hp1 h3 ht ht1
    rintro n st - - ⟨j, rfl, hj, h1, hp1, h3, h4, haj⟩
    all_goals have fx := And.intro h1 <| And.intro hp1 <| And.intro h3 <| And.intro h4 <| hk
    repeat' (first
     | refine w_seq ?_ | refine w_reg fun K hK => ?_
     | ((with_reducible refine s_end hK ?_); clear hK K)
     | (with_reducible first | refine then_normal ?_)
     | (with_reducible refine s_none ?_)
     | (with_reducible refine x_q (h := ?_))
     | fail)
    all_goals try clear fx
    refine w_if (by simp []; first | done | rfl | exact (Bool.not_not _).symm) (fun ht => ?_) (fun hf => ?_)
    · have hlj : j < k.body.length := by simpa using ht
      obtain ⟨s, hsj⟩ : ∃ s, k.body[j]? = some s := ⟨_, gE hlj⟩
      all_goals have fx := And.intro h1 <| And.intro hp1 <| And.intro h3 <| And.intro h4 <| And.intro hk <| hsj
      repeat' (first
       | refine w_seq ?_ | refine w_block ?_ | refine w_skip ?_ | refine w_reg fun K hK => ?_
       | ((with_reducible refine s_end hK ?_); clear hK K)
       | (with_reducible first | refine then_normal ?_ | refine then_ret ?_ | refine in_ret ?_ | refine s_nil ?_)
       | refine w_ret ?_
       | (with_reducible refine s_none ?_)
       | (with_reducible first | refine x_assign (h := ?_))
       | ((with_reducible refine o_id 68 rfl ?_); refine x_call (hF := validStmt_fn _ p i k s hk hs hlt) (h := ?_))
       | (with_reducible refine x_q (h := ?_))
       | (refine wSc (id := 11) (.q 0 <| .q 1 <| .q 2 <| .q 3 <| .q 4 <| .q 5 <| .q 6 <| .q 7 <| .q 8 <| .q 9 <| .q 10 <| .l 11 [9, 8, 7, 6, 5, 4, 3, 2] <| .q 12 <| .done) mixed fun K hK => ?_)
       | ((with_reducible refine a_end hK ?_); clear hK K)
       | ((with_reducible refine a_id ?_); first | refine xa_q (h := ?_))
       | refine a_l rfl ?_ | (with_reducible refine And.intro ?_ ?_) | exact st_nil | refine xa_st (h2 := ?_)
       | refine x_if (h1 := fun ht => ?_) (h2 := fun ht => ?_)
       | fail)
      all_goals try clear fx
      · refine e_ret [] .nil (by simp; rfl) ?_
        rw [fin _ (by rw [hbf, all_false (List.mem_of_getElem? hsj) (show StmOk p i k s = false by simpa using ht)]; simp)]
        rfl
      · refine ⟨k.body.length - (j + 1), by omega, j + 1, rfl, by omega, by simp [h1], by simp [hp1], by simp [h3], by simp; exact wrp (by omega) (by omega), ?_⟩
        rw [List.take_add_one, hsj, List.all_append, haj]
        simpa using ht
    · have hge : j = k.body.length := by
        have : ¬ j < k.body.length := by simpa using hf
        omega
      subst hge
      rw [List.take_length] at haj
      all_goals have fx := And.intro h1 <| And.intro hp1 <| And.intro h3 <| And.intro h4 <| hk
      repeat' (first
       | refine w_reg fun K hK => ?_
       | ((with_reducible refine s_end hK ?_); clear hK K)
       | (with_reducible first | refine then_normal ?_)
       | refine w_exit ?_
       | (with_reducible refine s_none ?_)
       | (with_reducible first | refine x_assign (h := ?_))
       | (with_reducible refine x_q (h := ?_))
       | fail)
      all_goals try clear fx
      refine ⟨p.length - (i + 1), by omega, i + 1, rfl, by omega, by simp [h1], by simp [hp1], by simp; exact wrp (by omega) (by omega), ?_⟩
      rw [all_range_succ, hal, hbf, hhd, haj]
      simpa using hbd
  · have hge : i = p.length := by
      have : ¬ i < p.length := by simpa using hf
      omega
    subst hge
    have hh := heads_of hal
    rw [hal, Bool.true_and]
    all_goals have fx := And.intro h1 <| hp1
    repeat' (first
     | refine w_seq ?_ | refine w_block ?_ | refine w_reg fun K hK => ?_
     | ((with_reducible refine s_end hK ?_); clear hK K)
     | refine w_exit ?_
     | (with_reducible refine s_none ?_)
     | (with_reducible first | refine x_assign (h := ?_))
     | fail)
    all_goals try clear fx
    refine w_loop (fun n st => ∃ i : Nat, n = p.length - i ∧ i ≤ p.length ∧ 1 ≤ i ∧ st.tm 1 = .pt (.s 1) 0 ∧ st.hp (.s 1) = some (.row 1 [[ksl p]]) ∧ st.tm 5 = iv i ∧ (List.range i).all (fun i => i == 0 || madeIn p i == 1) = true) (p.length - 1) ?_ ?_
    · refine ⟨1, by omega, ?_, by omega, by simp [h1, hp1]⟩
      simp at hyes
      omega
    clear h1 hp1 h3 hi
    rintro n st - - ⟨i, rfl, hi, hi1, h1, hp1, h5, hmi⟩
    all_goals have fx := And.intro h1 <| And.intro hp1 <| h5
    repeat' (first
     | refine w_seq ?_ | refine w_reg fun K hK => ?_
     | ((with_reducible refine s_end hK ?_); clear hK K)
     | (with_reducible first | refine then_normal ?_)
     | (with_reducible refine s_none ?_)
     | (with_reducible refine x_q (h := ?_))
     | fail)
    all_goals try clear fx
    refine w_if (by simp []; first | done | rfl | exact (Bool.not_not _).symm) (fun ht => ?_) (fun hf => ?_)
    · have hlt : i < p.length := by simpa using ht
      obtain ⟨k, hk⟩ : ∃ k, p[i]? = some k := ⟨_, gE hlt⟩
      all_goals have fx := And.intro h1 <| And.intro hp1 <| And.intro h5 <| @bne_def
      repeat' (first
       | refine w_seq ?_ | refine w_block ?_ | refine w_skip ?_ | refine w_reg fun K hK => ?_
       | ((with_reducible refine s_end hK ?_); clear hK K)
       | (with_reducible first | refine then_normal ?_ | refine then_ret ?_ | refine in_ret ?_)
       | refine w_ret ?_
       | (with_reducible refine s_none ?_)
       | (with_reducible first | refine x_assign (h := ?_))
       | ((with_reducible refine o_id 69 rfl ?_); refine x_call (hF := madeIn_fn _ p i k hk hi1 hh hs) (h := ?_))
       | (with_reducible refine x_q (h := ?_))
       | refine x_if (h1 := fun ht => ?_) (h2 := fun ht => ?_)
       | fail)
      all_goals try clear fx
      · refine e_ret [] .nil (by simp; rfl) ?_
        rw [range_false hlt (show (i == 0 || madeIn p i == 1) = false by simp at ht ⊢; exact ⟨by omega, ht⟩)]
        rfl
      · refine ⟨p.length - (i + 1), by omega, i + 1, rfl, by omega, by omega, by simp [h1], by simp [hp1], by simp; exact wrp (by omega) (by omega), ?_⟩
        rw [all_range_succ, hmi]
        simp at ht ⊢
        exact .inr ht
    · have hge : i = p.length := by
        have : ¬ i < p.length := by simpa using hf
        omega
      subst hge
      all_goals have fx := fx0
      repeat' (first
       | refine w_seq ?_ | refine w_reg fun K hK => ?_
       | ((with_reducible refine s_end hK ?_); clear hK K)
       | (with_reducible first | refine then_normal ?_)
       | refine w_exit ?_
       | refine w_ret ?_
       | (with_reducible refine s_none ?_)
       | (with_reducible first | refine x_assign (h := ?_))
       | fail)
      all_goals try clear fx
      refine e_ret [] .nil (by simp []; rfl) (by simp [hmi])
theorem validProgram_fn (gl) (p : Prg) (hs : Sml p) : FnOk Tryd.prog gl 16 [pav p] (fun _ y _ => y = bv (progOk p)) := by
  have hpl := hs.len
  refine FnOk.of_sem Tryd.func16 rfl (by kernel_rfl) (rs := [.tmp 2]) rfl Tryd.ntmps16 (Nat.le_of_ble_eq_true rfl) fun C w g root => ?_
  all_goals have fx := fx0
  repeat' (first
   | refine w_seq ?_ | refine w_block ?_ | refine w_skip ?_ | refine w_reg fun K hK => ?_
   | ((with_reducible refine s_end hK ?_); clear hK K)
   | (with_reducible first | refine then_normal ?_ | refine in_normal ?_ | refine then_exit ?_ | refine in_exit ?_ | refine then_ret ?_ | refine in_ret ?_ | refine in_other (by decide) ?_)
   | refine w_exit ?_
   | refine w_ret ?_
   | (with_reducible refine s_none ?_)
   | ((with_reducible refine g_id ?_); refine x_guard (h := ?_))
   | (with_reducible first | refine gx_tt ?_ | refine gx_ff ?_ | refine x_tf (h := ?_) | refine x_ft (h := ?_) | refine x_u (h := ?_) | refine x_assign (h := ?_) | refine x_box (h := ?_))
   | ((with_reducible refine o_id 36 rfl ?_); refine x_call (hF := validShape_fn _ p hs) (h := ?_))
   | (with_reducible refine x_q (h := ?_))
   | (with_reducible refine gx_s (fun ht => ?_) (fun ht => ?_))
   | refine x_condt (h1 := ?_) | refine x_condf (h1 := ?_)
   | refine x_if (h1 := fun ht => ?_) (h2 := fun ht => ?_)
   | fail)
  all_goals try clear fx
  · refine e_ret [] .nil (by simp; rfl) ?_
    have : shapeOk p = false := by simpa using ht
    simp only [progOk, this]
    rfl
  have hsh : shapeOk p = true := by simpa using ht
  obtain ⟨hh, hl1, hl7, _, _⟩ := shapeOk_heads hsh
  have hpo : progOk p = (List.range p.length).all (fun b => b == 0 || declsOk p b) := by simp only [progOk, hsh, Bool.true_and]
  rw [hpo]
  clear hpo ht
  refine w_loop (fun n st => ∃ i : Nat, n = p.length - i ∧ i ≤ p.length ∧ 1 ≤ i ∧ st.tm 1 = .pt (.s 1) 0 ∧ st.hp (.s 1) = some (.row 1 [[ksl p]]) ∧ st.tm 3 = iv i ∧ (List.range i).all (fun b => b == 0 || declsOk p b) = true) (p.length - 1) ?_ ?_
  · exact ⟨1, rfl, hl1, by omega, by simp⟩
  rintro n st - - ⟨i, rfl, hi, hi1, h1, hp1, h3, hal⟩
  have fx := And.intro h1 <| And.intro hp1 <| h3
  refine k_run ?_
  clear fx
  refine w_if (by simp []; first | done | rfl | exact (Bool.not_not _).symm) (fun ht => ?_) (fun hf => ?_)
  · have hlt : i < p.length := by simpa using ht
    obtain ⟨k, hk⟩ : ∃ k, p[i]? = some k := ⟨_, gE hlt⟩
    have hpar := (hs.bsm hk).params
    have hdo : declsOk p i = (List.range 8).all (fun x => declOk p i k (x : Int)) := by simp only [declsOk, hk]
    all_goals have fx := And.intro h1 <| And.intro hp1 <| And.intro h3 <| hk
    repeat' (first
     | refine w_seq ?_ | refine w_block ?_ | refine w_skip ?_ | refine w_reg fun K hK => ?_
     | ((with_reducible refine s_end hK ?_); clear hK K)
     | (with_reducible first | refine then_normal ?_ | refine in_normal ?_ | refine then_exit ?_ | refine in_exit ?_ | refine then_ret ?_ | refine in_ret ?_ | refine in_other (by decide) ?_)
     | refine w_exit ?_
     | refine w_ret ?_
     | (with_reducible refine s_none ?_)
     | ((with_reducible refine g_id ?_); refine x_guard (h := ?_))
     | (with_reducible first | refine gx_tt ?_ | refine gx_ff ?_ | refine x_tf (h := ?_) | refine x_ft (h := ?_) | refine x_u (h := ?_) | refine x_assign (h := ?_) | refine x_box (h := ?_))
     | ((with_reducible refine o_id 37 rfl ?_); refine x_callh (hF := declared_fn _ p i k _ hk (hs.bsm hk)) (h := ?_))
     | (with_reducible refine x_q (h := ?_))
     | (with_reducible refine gx_s (fun ht => ?_) (fun ht => ?_))
     | refine x_condt (h1 := ?_) | refine x_condf (h1 := ?_)
     | fail)
    all_goals try clear fx
    refine w_loop (fun n st => ∃ x : Nat, n = 8 - x ∧ x ≤ 8 ∧ st.tm 1 = .pt (.s 1) 0 ∧ st.hp (.s 1) = some (.row 1 [[ksl p]]) ∧ st.tm 3 = iv i ∧ st.tm 4 = .hs (.s 4) 1 0 (k.dc 9).length ∧ st.hp (.s 4) = some (.row 1 (irows (k.dc 9))) ∧ st.tm 5 = .hs (.s 5) 1 0 (k.dc 10).length ∧ st.hp (.s 5) = some (.row 1 (irows (k.dc 10))) ∧ st.tm 6 = iv x ∧ (List.range x).all (fun x => declOk p i k (x : Int)) = true) 8 ?_ ?_
    · exact ⟨0, by simp [h1, hp1, h3]⟩
    clear h1 hp1 h3 ht
    rintro n st - - ⟨x, rfl, hx, h1, hp1, h3, h4, hp4, h5, hp5, h6, hax⟩
    have fx := And.intro h1 <| And.intro hp1 <| And.intro h3 <| And.intro h4 <| And.intro hp4 <| And.intro h5 <| And.intro hp5 <| h6
    refine k_run ?_
    clear fx
    refine w_if (by simp []; first | done | rfl | exact (Bool.not_not _).symm) (fun ht => ?_) (fun hf => ?_)
    · have hx7 : (x : Int) ≤ 7 := by simpa using ht
      have hx8 : x < 8 := by omega
      all_goals have fx := And.intro h1 <| And.intro hp1 <| And.intro h3 <| And.intro h4 <| And.intro hp4 <| And.intro h5 <| And.intro hp5 <| And.intro h6 <| hk
      repeat' (first
       | refine w_seq ?_ | refine w_block ?_ | refine w_skip ?_ | refine w_reg fun K hK => ?_
       | ((with_reducible refine s_end hK ?_); clear hK K)
       | (with_reducible first | refine then_normal ?_ | refine in_normal ?_ | refine then_exit ?_ | refine in_exit ?_ | refine then_ret ?_ | refine in_ret ?_ | refine in_other (by decide) ?_)
       | refine w_exit ?_
       | refine w_ret ?_
       | (with_reducible refine s_none ?_)
       | ((with_reducible refine g_id ?_); refine x_guard (h := ?_))
       | (with_reducible first | refine gx_tt ?_ | refine gx_ff ?_ | refine x_tf (h := ?_) | refine x_ft (h := ?_) | refine x_u (h := ?_) | refine x_assign (h := ?_) | refine x_box (h := ?_))
       | ((with_reducible refine o_id 38 rfl ?_); refine x_call (hF := has_fn _ _ _ (by first | exact Nat.le_trans (Blk.dc_len _ _) (by decide) | omega)) (h := ?_))
       | ((with_reducible refine o_id 39 rfl ?_); refine x_call (hF := outer_fn _ p i k _ hk hs hh) (h := ?_))
       | (with_reducible refine x_q (h := ?_))
       | (with_reducible refine gx_s (fun ht => ?_) (fun ht => ?_))
       | refine x_condt (h1 := ?_) | refine x_condf (h1 := ?_)
       | refine x_if (h1 := fun ht => ?_) (h2 := fun ht => ?_)
       | fail)
      all_goals try clear fx
      all_goals first
        | (have hd : declOk p i k x = false := by
             simp only [declOk]
             clear hal hax hpar hs hh h1 hp1 h3 h4 hp4 h5 hp5 h6 hdo hsh hk
             simp_all
           refine e_ret [] .nil (by simp; rfl) ?_
           rw [range_false hlt (show (i == 0 || declsOk p i) = false by rw [hdo, range_false hx8 hd]; simp; omega)]
           rfl)
        | (have hd : declOk p i k x = true := by
             simp only [declOk]
             clear hal hax hpar hs hh h1 hp1 h3 h4 hp4 h5 hp5 h6 hdo hsh hk
             simp_all
           refine ⟨8 - (x + 1), by omega, x + 1, rfl, by omega, by simp [h1], by simp [hp1], by simp [h3], by simp [h4], by simp [hp4], by simp [h5], by simp [hp5], by simp; exact wrp (by omega) (by omega), ?_⟩
           rw [all_range_succ, hax, hd]
           rfl)
    · have hge : x = 8 := by
        have : ¬ (x : Int) ≤ 7 := by simpa using hf
        omega
      subst hge
      have fx := And.intro h1 <| And.intro hp1 <| h3
      refine k_run ?_
      clear fx
      refine ⟨p.length - (i + 1), by omega, i + 1, rfl, by omega, by omega, by simp [h1], by simp [hp1], by simp; exact wrp (by omega) (by omega), ?_⟩
      rw [all_range_succ, hal, hdo, hax]
      simp
  · have hge : i = p.length := by
      have : ¬ i < p.length := by simpa using hf
      omega
    subst hge
    have fx := fx0
    refine k_run ?_
    clear fx
    refine e_ret [] .nil (by simp []; rfl) (by simp [hal])
end Go.Proofs.YtmaoicgfcngciaaDoor
end
section
namespace Go.Proofs.YtmaoicgfcngciaaDoor
open Go Go.Hm Go.Proofs
abbrev qsGl0 : Sch := .q 0 <| .q 1 <| .q 2 <| .q 3 <| .q 4 <| .q 5 <| .q 6 <| .q 7 <| .q 10 <| .q 11 <| .l2 8 [11, 10, 6, 5, 4, 3, 2, 1, 0] (.l 9 [11, 10, 6, 5, 4, 3, 2, 1, 0] <| .l 12 [10, 6, 5, 4, 3, 2, 1, 0] <| .q 13 <| .l 14 [10, 6, 5, 4, 3, 2, 1, 0] <| .l 15 [10, 6, 5, 4, 3, 2, 0] <| .q 16 <| .l 17 [] <| .done) 9 [11, 10, 7, 6, 5, 4, 3, 2, 1, 0] (.l 8 [11, 10, 6, 5, 4, 3, 2, 1, 0] <| .l 12 [10, 6, 5, 4, 3, 2, 1, 0] <| .q 13 <| .l 14 [10, 6, 5, 4, 3, 2, 1, 0] <| .l 15 [10, 6, 5, 4, 3, 2, 0] <| .q 16 <| .l 17 [] <| .done)
theorem copyProgram_fn (gl) (p : Prg) (hs : Sml p) : FnOk Tryd.prog gl 125 [pav p] (fun r y H' => y = .agg [.hs r 4 0 p.length] ∧ OwnP H' r p) := by
  have hpl := hs.len
  refine FnOk.of_sem Tryd.func125 rfl (by kernel_rfl) (rs := [.cell 2 29]) rfl Tryd.ntmps125 (Nat.le_of_ble_eq_true rfl) fun C w g root => ?_
  have fx := fx0
  refine k_run ?_
  repeat ((first | refine wSc (id := 6) qsGl0 mixed ?_); refine k_rund ?_; refine k_run ?_)
  clear fx
  refine w_loop (fun n st => ∃ i : Nat, n = p.length - i ∧ i ≤ p.length ∧ st.tm 1 = .pt (.s 1) 0 ∧ st.hp (.s 1) = some (.row 1 [[ksl p]]) ∧ st.tm 2 = .pt (.s 2) 0 ∧ st.hp (.s 2) = some (.row 1 [[.hs (.c (.s 2) 0 0) 4 0 0]]) ∧ st.tm 3 = .pt (.s 3) 0 ∧ st.tm 4 = iv i ∧ ∃ q : Prg, q = p.take i ∧ q.length = i ∧ st.hp (.s 3) = some (.row 1 [[.hs (.c (.s 3) 0 0) 4 0 q.length]]) ∧ OwnP st.hp (.c (.s 3) 0 0) q) p.length ?_ ?_
  · refine ⟨0, by omega, by omega, by simp, by simp, by simp, by simp, by simp, by simp, [], rfl, rfl, by simp, by simp, by simp, by simp⟩
  rintro n st - - ⟨i, rfl, hi, h1, hp1, h2, hp2, h3, h4, q, hq, hql, hp3, ⟨ht1, ht2, ht3⟩⟩
  have fx := And.intro h1 <| And.intro hp1 <| h4
  refine k_run ?_
  repeat ((first | refine wSc (id := 6) qsGl0 mixed ?_); refine k_rund ?_; refine k_run ?_)
  clear fx
  refine w_if (by simp []; first | done | rfl | exact (Bool.not_not _).symm) (fun ht => ?_) (fun hf => ?_)
  · have hlt : i < p.length := by simpa using ht
    obtain ⟨k, hk⟩ : ∃ k, p[i]? = some k := ⟨_, gE hlt⟩
    obtain ⟨hkp, hkb⟩ := hs.bsm hk
    clear ht
    all_goals have fx := And.intro h1 <| And.intro hp1 <| And.intro h4 <| And.intro h3 <| And.intro hp3 <| And.intro ht1 <| hk
    repeat' (first
     | refine w_seq ?_ | refine w_block ?_ | refine w_skip ?_ | refine w_reg fun K hK => ?_
     | ((with_reducible refine s_end hK ?_); clear hK K)
     | (with_reducible first | refine then_normal ?_ | refine in_normal ?_ | refine then_exit ?_ | refine in_exit ?_ | refine then_ret ?_ | refine in_ret ?_ | refine s_nil ?_ | refine in_other (by decide) ?_)
     | refine w_exit ?_
     | refine w_ret ?_
     | (with_reducible first | refine s_none ?_ | refine x_assign (h := ?_) | refine x_box (h := ?_) | refine x_alloc (h := ?_) | refine x_store0 (h := ?_) | refine x_append0 (T := 48) (h := ?_) | refine x_append (T := 48) (h := ?_) | refine x_append0 (T := 27) (h := ?_) | refine x_appendC (T := 27) (h := ?_) | refine x_store (h := ?_) | refine x_build (h := ?_))
     | ((with_reducible refine o_id 91 rfl ?_); refine x_callh (hF := copyInts_fn _ k.params (by omega)) (h := ?_))
     | (with_reducible refine x_q (h := ?_))
     | refine x_condt (h1 := ?_) | refine x_condf (h1 := ?_)
     | (refine wSc (id := 6) qsGl0 mixed fun K hK => ?_)
     | ((with_reducible refine a_end hK ?_); clear hK K)
     | ((with_reducible refine a_id ?_); first | refine xa_q (h := ?_) | refine xa_qt (h := ?_) | refine xa_qf (h := ?_) | refine xa_qu (h := ?_))
     | ((with_reducible refine a_id ?_); refine xa_gq (h1 := fun ht => ?_) (h2 := fun ht => ?_))
     | refine a_l rfl ?_ | refine a_l2 ?_ ?_ | (with_reducible refine And.intro ?_ ?_) | exact st_nil | refine xa_st (h2 := ?_)
     | fail)
    all_goals try clear fx
    all_goals
      refine ⟨p.length - (i + 1), by omega, i + 1, rfl, by omega, by simp [h1], by simp [hp1], by simp [h2], by simp [hp2], by simp [h3], by simp; exact wrp (by omega) (by omega), q ++ [k], by rw [List.take_add_one, hk, hq]; rfl, by simp [hql], by simp, ⟨?_, ?_, ?_⟩⟩
      · simp [ht1, pRows_app]
      · intro j r hj
        rcases Nat.lt_or_ge j q.length with hlj | hgj
        · rw [List.getElem?_append_left hlj] at hj
          have hne : ¬ j = q.length := by omega
          simp [ht2 j r hj, hne]
        · rw [List.getElem?_append_right hgj] at hj
          obtain rfl : j = q.length := by
            have := (gS hj).1
            simp at this
            omega
          simp at hj
          subst hj
          simp
      · intro j r hj
        rcases Nat.lt_or_ge j q.length with hlj | hgj
        · rw [List.getElem?_append_left hlj] at hj
          have hne : ¬ j = q.length := by omega
          simp [ht3 j r hj, hne]
        · rw [List.getElem?_append_right hgj] at hj
          obtain rfl : j = q.length := by
            have := (gS hj).1
            simp at this
            omega
          simp at hj
          subst hj
          simp
  · have hge : i = p.length := by
      have : ¬ i < p.length := by simpa using hf
      omega
    have hqp : q = p := by rw [hq, hge, List.take_length]
    subst hqp
    have fx := And.intro h1 <| And.intro h2 <| And.intro hp2 <| And.intro h3 <| hp3
    refine k_run ?_
    repeat ((first | refine wSc (id := 6) qsGl0 mixed ?_); refine k_rund ?_; refine k_run ?_)
    clear fx
    refine e_ret [(.c (.s 3) 0 0, root)] (.one rfl) (by simp [h2]; rfl) ⟨by simp, ⟨?_, fun j r hj => ?_, fun j r hj => ?_⟩⟩
    · simp [ht1, pRows_tr (n := .c (.s 3) 0 0) (m := root) (f := finf noD [(.c (.s 3) 0 0, root)]) (p := q) (by simp)]
    · simp [ht2 j r hj]
    · simp [ht3 j r hj]
theorem inside_fn (gl) (p : Prg) (c b : Nat) (hs : Sml p) (hh : Heads p) (hc : c < p.length) : FnOk Tryd.prog gl 116 [pav p, iv c, iv b] (fun _ z _ => z = bv (inside p c b)) := by
  refine FnOk.of_sem Tryd.func116 rfl (by kernel_rfl) (rs := [.tmp 6]) rfl Tryd.ntmps116 (Nat.le_of_ble_eq_true rfl) fun C w g root => ?_
  all_goals have fx := fx0
  repeat' (first
   | refine w_seq ?_ | refine w_block ?_ | refine w_reg fun K hK => ?_
   | ((with_reducible refine s_end hK ?_); clear hK K)
   | (with_reducible first | refine s_none ?_ | refine x_assign (h := ?_) | refine x_box (h := ?_))
   | fail)
  all_goals try clear fx
  refine w_loop (fun n st => ∃ j : Int, n = (j + 1).toNat ∧ -1 ≤ j ∧ j < p.length ∧ inside p j b = inside p c b ∧ st.tm 1 = iv j ∧ st.tm 2 = iv b ∧ st.tm 3 = .pt (.s 3) 0 ∧ st.hp (.s 3) = some (.row 1 [[ksl p]])) (c + 1) ?_ ?_
  · exact ⟨c, by omega, by omega, by omega, rfl, by simp⟩
  rintro n st - - ⟨j, rfl, hj1, hj2, ho, h1, h2, h3, hp3⟩
  all_goals have fx := And.intro h1 <| And.intro h2 <| And.intro h3 <| hp3
  repeat' (first
   | refine w_seq ?_ | refine w_reg fun K hK => ?_
   | ((with_reducible refine s_end hK ?_); clear hK K)
   | (with_reducible first | refine then_normal ?_)
   | (with_reducible first | refine s_none ?_)
   | (with_reducible refine x_q (h := ?_))
   | fail)
  all_goals try clear fx
  refine w_if (by simp []; first | done | rfl | exact (Bool.not_not _).symm) (fun ht => ?_) (fun hf => ?_)
  · have hj0 : (b : Int) < j := by simpa using ht
    obtain ⟨j, rfl⟩ : ∃ i : Nat, j = i := ⟨j.toNat, by omega⟩
    obtain ⟨q, hq⟩ : ∃ q, p[j]? = some q := ⟨_, gE (by omega)⟩
    obtain ⟨hq1, hq2, _⟩ := hh j q hq
    all_goals have fx := And.intro h1 <| And.intro h2 <| And.intro h3 <| And.intro hp3 <| hq
    repeat' (first
     | refine w_block ?_ | refine w_skip ?_ | refine w_reg fun K hK => ?_
     | ((with_reducible refine s_end hK ?_); clear hK K)
     | (with_reducible first | refine then_normal ?_ | refine in_normal ?_)
     | (with_reducible first | refine s_none ?_ | refine x_assign (h := ?_))
     | (with_reducible refine x_q (h := ?_))
     | fail)
    all_goals try clear fx
    refine ⟨(q.parent + 1).toNat, by omega, q.parent, rfl, hq1, by omega, ?_, by simp [h2, h3, hp3]⟩
    rw [← ho, inside_step hh (by omega) hq hj0]
  · have hj : j ≤ b := by simpa using hf
    all_goals have fx := And.intro h1 <| h2
    repeat' (first
     | refine w_seq ?_ | refine w_reg fun K hK => ?_
     | ((with_reducible refine s_end hK ?_); clear hK K)
     | (with_reducible first | refine then_normal ?_)
     | refine w_exit ?_
     | refine w_ret ?_
     | (with_reducible first | refine s_none ?_ | refine x_assign (h := ?_))
     | (with_reducible refine x_q (h := ?_))
     | fail)
    all_goals try clear fx
    rw [inside_end hj] at ho
    refine e_ret [] .nil (by simp; rfl) ?_
    rw [← ho]
    rfl
theorem read_fnU (gl) (p : Prg) (b : Nat) (k : Blk) (hk : p[b]? = some k) (hs : BSm k) : FnOk Tryd.prog gl 128 [pav p, iv b] (fun r y H' => y = .hs r 1 0 k.rd.length ∧ H' r = some (.row 1 (irows k.rd))) := read_fn gl p b k hk hs.body
theorem used_fn (gl) (p : Prg) (b : Nat) (k : Blk) (hk : p[b]? = some k) (hs : BSm k) : FnOk Tryd.prog gl 114 [pav p, iv b] (fun r y H' => y = .hs r 1 0 k.us.length ∧ H' r = some (.row 1 (irows k.us))) := by
  have l1 := k.rd_len
  have l2 := k.bd_len
  have l3 := k.dc_len 9
  have l4 := k.dc_len 10
  have t1 : (k.rd ++ k.bd).take (k.rd.length + k.bd.length) = k.rd ++ k.bd := List.take_of_length_le (by simp)
  have t2 : (k.rd ++ (k.bd ++ k.dc 9)).take (k.rd.length + k.bd.length + (k.dc 9).length) = k.rd ++ (k.bd ++ k.dc 9) := List.take_of_length_le (by simp; omega)
  have hu : k.us = sorted (k.rd ++ (k.bd ++ (k.dc 9 ++ k.dc 10))) := by simp [Blk.us]
  rw [hu]
  refine FnOk.of_sem Tryd.func114 rfl (by kernel_rfl) (rs := [.tmp 4]) rfl Tryd.ntmps114 (Nat.le_of_ble_eq_true rfl) fun C w g root => ?_
  all_goals have fx := And.intro hk <| And.intro t1 <| t2
  repeat' (first
   | refine w_seq ?_ | refine w_reg fun K hK => ?_
   | ((with_reducible refine s_end hK ?_); clear hK K)
   | (with_reducible first | refine then_normal ?_ | refine s_nil ?_)
   | refine w_ret ?_
   | (with_reducible first | refine s_none ?_ | refine x_assign (h := ?_) | refine x_box (h := ?_) | refine x_append (T := 47) (h := ?_))
   | ((with_reducible refine o_id 128 rfl ?_); refine x_callh (hF := read_fnU _ p b k hk hs) (h := ?_))
   | ((with_reducible refine o_id 102 rfl ?_); refine x_callh (hF := bound_fn _ p b k hk hs) (h := ?_))
   | ((with_reducible refine o_id 37 rfl ?_); refine x_callh (hF := declared_fn _ p b k _ hk hs) (h := ?_))
   | ((with_reducible refine o_id 70 rfl ?_); refine x_callh (hF := sorted_fn _ (k.rd ++ (k.bd ++ (k.dc 9 ++ k.dc 10))) (by simp; omega)) (h := ?_))
   | (refine wSc (id := 1) (.q 0 <| .q 1 <| .q 3 <| .q 4 <| .q 7 <| .q 8 <| .q 11 <| .q 12 <| .l 2 [12, 11, 8, 7, 4, 3] <| .l 5 [12, 11, 8, 7] <| .l 6 [12, 11, 8, 7] <| .l 9 [12, 11] <| .l 10 [12, 11] <| .l 13 [] <| .l 14 [] <| .l 15 [] <| .l 16 [] <| .done) mixed fun K hK => ?_)
   | ((with_reducible refine a_end hK ?_); clear hK K)
   | ((with_reducible refine a_id ?_); first | refine xa_q (h := ?_))
   | refine a_l rfl ?_ | (with_reducible refine And.intro ?_ ?_) | exact st_nil | refine xa_st (h2 := ?_)
   | fail)
  all_goals try clear fx
  all_goals
    exact e_list (t := 4) (by first | (simp []; done) | (simp []; rfl)) (by first | (simp []; done) | (simp []; rfl)) (by simp)
end Go.Proofs.YtmaoicgfcngciaaDoor
end
section
namespace Go.Proofs.YtmaoicgfcngciaaDoor
open Go Go.Hm Go.Proofs
abbrev qsKa0 : Sch := .q 0 <| .q 1 <| .q 2 <| .q 3 <| .q 4 <| .q 5 <| .q 7 <| .l 6 [7, 4, 3, 2] <| .q 8 <| .done
abbrev qsKa1 : Sch := .q 0 <| .q 1 <| .q 2 <| .q 3 <| .q 4 <| .q 5 <| .l 6 [4, 3, 2] <| .l 7 [] <| .done
theorem cellsRaw_next {p : Prg} {b c : Nat} (h : b + 1 ≤ c) : cellsRaw p b (c + 1 - (b + 1)) = cellsRaw p b (c - (b + 1)) ++ cellAt p b c := by
  rw [show c + 1 - (b + 1) = c - (b + 1) + 1 by omega, cellsRaw_succ, show b + 1 + (c - (b + 1)) = c by omega]
theorem freesRaw_next {p : Prg} {b c : Nat} (h : b ≤ c) : freesRaw p b (c + 1 - b) = freesRaw p b (c - b) ++ freeAt p b c := by
  rw [show c + 1 - b = c - b + 1 by omega, freesRaw_succ, show b + (c - b) = c by omega]
theorem cellNames_fn (gl) (p : Prg) (b : Nat) (k : Blk) (hk : p[b]? = some k) (hs : Sml p) (hh : Heads p) (hl7 : p.length ≤ 7) : FnOk Tryd.prog gl 93 [pav p, iv b] (fun r y H' => y = .hs r 1 0 (cellsL p b).length ∧ H' r = some (.row 1 (irows (cellsL p b)))) := by
  obtain ⟨hbl, hbE⟩ := gS hk
  have hka : kindAt p b = k.kind := by simp [kindAt, hk]
  have hw : IntKind.i64.wrap ((b : Int) + 1) = ((b + 1 : Nat) : Int) := by rw [wrp (by omega) (by omega)]; rfl
  refine FnOk.of_sem Tryd.func93 rfl (by kernel_rfl) (rs := [.tmp 4]) rfl Tryd.ntmps93 (Nat.le_of_ble_eq_true rfl) fun C w g root => ?_
  cases hkd : (k.kind == 1)
  · have hc : cellsL p b = sorted [] := by
      have : ¬ k.kind = 1 := by simpa using hkd
      simp [cellsL, hka, this]
      rfl
    rw [hc]
    have fx :=  hw
    refine k_run ?_
    repeat ((first | refine wSc (id := 9) qsKa0 mixed ?_); refine k_rund ?_; refine k_run ?_)
    clear fx
    refine w_loop (fun n st => n = 0 ∧ st.tm 1 = iv b ∧ st.tm 2 = .pt (.s 2) 0 ∧ st.hp (.s 2) = some (.row 1 [[ksl p]]) ∧ st.tm 6 = iv ((b + 1 : Nat) : Int) ∧ st.tm 5 = .hs (.s 5) 1 0 0 ∧ st.hp (.s 5) = some (.row 1 [])) 0 ?_ ?_
    · exact ⟨rfl, by simp⟩
    rintro n st - - ⟨rfl, h1, h2, hp2, h6, h5, hp5⟩
    generalize hc0 : b + 1 = c at h6
    by_cases hlt : c < p.length
    · skip
      have fx := And.intro h1 <| And.intro h2 <| And.intro hp2 <| And.intro h6 <| And.intro h5 <| And.intro hp5 <| And.intro hk <| And.intro hbE <| And.intro hkd <| And.intro hlt <| hbl
      have d1 := sorted_fn gl [] (by simp)
      refine k_run ?_
      repeat ((first | refine wSc (id := 9) qsKa0 mixed ?_); refine k_rund ?_; refine k_run ?_)
      clear fx d1
      exact e_list (t := 4) (by first | (simp []; done) | (simp []; rfl)) (by first | (simp []; done) | (simp []; rfl)) (by simp)
    · skip
      have fx := And.intro h1 <| And.intro h2 <| And.intro hp2 <| And.intro h6 <| And.intro h5 <| And.intro hp5 <| And.intro hk <| And.intro hbE <| And.intro hkd <| And.intro hlt <| hbl
      have d1 := sorted_fn gl [] (by simp)
      refine k_run ?_
      repeat ((first | refine wSc (id := 9) qsKa0 mixed ?_); refine k_rund ?_; refine k_run ?_)
      clear fx d1
      exact e_list (t := 4) (by first | (simp []; done) | (simp []; rfl)) (by first | (simp []; done) | (simp []; rfl)) (by simp)
  have hc : cellsL p b = sorted (cellsRaw p b (p.length - (b + 1))) := by
    have : k.kind = 1 := by simpa using hkd
    simp [cellsL, hka, this]
  rw [hc]
  have fx :=  hw
  refine k_run ?_
  repeat ((first | refine wSc (id := 9) qsKa0 mixed ?_); refine k_rund ?_; refine k_run ?_)
  clear fx
  refine w_loop (fun n st => ∃ c : Nat, n = p.length - c ∧ b + 1 ≤ c ∧ c ≤ p.length ∧ st.tm 1 = iv b ∧ st.tm 2 = .pt (.s 2) 0 ∧ st.hp (.s 2) = some (.row 1 [[ksl p]]) ∧ st.tm 6 = iv c ∧ st.tm 5 = .hs (.s 5) 1 0 (cellsRaw p b (c - (b + 1))).length ∧ st.hp (.s 5) = some (.row 1 (irows (cellsRaw p b (c - (b + 1)))))) (p.length - (b + 1)) ?_ ?_
  · exact ⟨b + 1, rfl, by omega, by omega, by simp, by simp, by simp, by simp, by simp [cellsRaw, joined], by simp [cellsRaw, joined]⟩
  rintro n st - - ⟨c, rfl, hc1, hc2, h1, h2, hp2, h6, h5, hp5⟩
  have hcl := freesRaw_len (p := p) (b := b) (n := c)
  have hrl := cellsRaw_len (p := p) (b := b) (n := c - (b + 1))
  by_cases hlt : c < p.length
  · obtain ⟨q, hq⟩ : ∃ q, p[c]? = some q := ⟨_, gE hlt⟩
    have hul := q.us_len
    have hnext := cellsRaw_next (p := p) hc1
    have hat : cellAt p b c = q.us.filter (cellIn p b c) := by simp [cellAt, hq]
    rw [hat] at hnext
    generalize hR : cellsRaw p b (c - (b + 1)) = R at h5 hp5 hnext hrl
    have fx := And.intro h1 <| And.intro h2 <| And.intro hp2 <| And.intro h6 <| And.intro h5 <| And.intro hp5 <| And.intro hk <| And.intro hbE <| And.intro hkd <| And.intro hlt <| And.intro hbl <| hq
    have d1 := used_fn gl p c q hq (hs.bsm hq)
    refine k_run ?_
    repeat ((first | refine wSc (id := 9) qsKa0 mixed ?_); refine k_rund ?_; refine k_run ?_)
    clear fx d1
    refine w_loop (fun n st => ∃ i : Nat, n = q.us.length - i ∧ i ≤ q.us.length ∧ st.tm 1 = iv b ∧ st.tm 2 = .pt (.s 2) 0 ∧ st.hp (.s 2) = some (.row 1 [[ksl p]]) ∧ st.tm 6 = iv c ∧ st.tm 7 = .hs (.s 7) 1 0 q.us.length ∧ st.hp (.s 7) = some (.row 1 (irows q.us)) ∧ st.tm 8 = iv i ∧ st.tm 5 = .hs (.s 5) 1 0 (R ++ (q.us.take i).filter (cellIn p b c)).length ∧ st.hp (.s 5) = some (.row 1 (irows (R ++ (q.us.take i).filter (cellIn p b c))))) q.us.length ?_ ?_
    · exact ⟨0, by omega, by omega, by simp [h1], by simp [h2], by simp [hp2], by simp [h6], by simp, by simp, by simp, by simp [h5], by simp [hp5]⟩
    clear h1 h2 hp2 h6 h5 hp5
    rintro n st - - ⟨i, rfl, hi, h1, h2, hp2, h6, h7, hp7, h8, h5, hp5⟩
    have hfl : ((q.us.take i).filter (cellIn p b c)).length ≤ 8 := filter_len8 (Nat.le_trans (List.length_take_le' _ _) hul)
    have hLl : (R ++ (q.us.take i).filter (cellIn p b c)).length ≤ 1000 := by simp; omega
    by_cases hil : i < q.us.length
    · obtain ⟨u, hu⟩ : ∃ u, q.us[i]? = some u := ⟨_, gE hil⟩
      obtain ⟨_, huE⟩ := gS hu
      have hnx : R ++ (q.us.take (i + 1)).filter (cellIn p b c) = R ++ (q.us.take i).filter (cellIn p b c) ++ (if cellIn p b c u = true then [u] else []) := by rw [take_succ_filter hu, List.append_assoc]
      generalize hL : R ++ (q.us.take i).filter (cellIn p b c) = L at h5 hp5 hnx hLl
      cases ho : (owner p c u == (b : Int))
      · rw [if_neg (by simp only [cellIn, ho]; decide), List.append_nil] at hnx
        have fx := And.intro h1 <| And.intro h2 <| And.intro hp2 <| And.intro h6 <| And.intro h7 <| And.intro hp7 <| And.intro h8 <| And.intro h5 <| And.intro hp5 <| And.intro hq <| And.intro hu <| And.intro huE <| And.intro hil <| ho
        have c1 := owner_fn gl p c q u hq hs hh
        refine k_run ?_
        repeat ((first | refine wSc (id := 9) qsKa0 mixed ?_); refine k_rund ?_; refine k_run ?_)
        clear fx c1
        exact ⟨q.us.length - (i + 1), by omega, i + 1, rfl, by omega, by simp [h1], by simp [h2], by simp [hp2], by simp [h6], by simp [h7], by simp [hp7], by simp; exact wrp (by omega) (by omega), by simp [hnx, h5], by simp [hnx, hp5]⟩
      · rw [if_pos (by simp only [cellIn, ho])] at hnx
        have fx := And.intro h1 <| And.intro h2 <| And.intro hp2 <| And.intro h6 <| And.intro h7 <| And.intro hp7 <| And.intro h8 <| And.intro h5 <| And.intro hp5 <| And.intro hq <| And.intro hu <| And.intro huE <| And.intro hil <| And.intro ho <| hLl
        have c1 := owner_fn gl p c q u hq hs hh
        refine k_run ?_
        repeat ((first | refine wSc (id := 9) qsKa0 mixed ?_); refine k_rund ?_; refine k_run ?_)
        clear fx c1
        refine ⟨q.us.length - (i + 1), by omega, i + 1, rfl, by omega, by simp [h1], by simp [h2], by simp [hp2], by simp [h6], by simp [h7], by simp [hp7], by simp; exact wrp (by omega) (by omega), by simp [hnx, h5], ?_⟩
        rw [hnx]
        simp [hp5, irows]
    · have hge : i = q.us.length := by omega
      rw [hge, List.take_length, ← hnext] at h5 hp5
      have fx := And.intro h1 <| And.intro h2 <| And.intro hp2 <| And.intro h6 <| And.intro h7 <| And.intro hp7 <| And.intro h8 <| hil
      refine k_run ?_
      repeat ((first | refine wSc (id := 9) qsKa0 mixed ?_); refine k_rund ?_; refine k_run ?_)
      clear fx
      exact ⟨p.length - (c + 1), by omega, c + 1, rfl, by omega, by omega, by simp [h1], by simp [h2], by simp [hp2], by simp [h6]; exact wrp (by omega) (by omega), by simp [h5], by simp [hp5]⟩
  · have hge : c = p.length := by omega
    subst hge
    have fx := And.intro h1 <| And.intro h2 <| And.intro hp2 <| And.intro h6 <| And.intro h5 <| And.intro hp5 <| And.intro hk <| And.intro hbE <| And.intro hkd <| And.intro hlt <| hbl
    have d1 := sorted_fn gl (cellsRaw p b (p.length - (b + 1))) (by omega)
    refine k_run ?_
    repeat ((first | refine wSc (id := 9) qsKa0 mixed ?_); refine k_rund ?_; refine k_run ?_)
    clear fx d1
    exact e_list (t := 4) (by first | (simp []; done) | (simp []; rfl)) (by first | (simp []; done) | (simp []; rfl)) (by simp)
theorem frees_fn (gl) (p : Prg) (b : Nat) (hbl : b < p.length) (hs : Sml p) (hh : Heads p) (hl7 : p.length ≤ 7) : FnOk Tryd.prog gl 94 [pav p, iv b] (fun r y H' => y = .hs r 1 0 (freesL p b).length ∧ H' r = some (.row 1 (irows (freesL p b)))) := by
  have hc : freesL p b = sorted (freesRaw p b (p.length - b)) := rfl
  rw [hc]
  refine FnOk.of_sem Tryd.func94 rfl (by kernel_rfl) (rs := [.tmp 4]) rfl Tryd.ntmps94 (Nat.le_of_ble_eq_true rfl) fun C w g root => ?_
  have fx := fx0
  refine k_run ?_
  repeat ((first | refine wSc (id := 9) qsKa1 mixed ?_); refine k_rund ?_; refine k_run ?_)
  clear fx
  refine w_loop (fun n st => ∃ c : Nat, n = p.length - c ∧ b ≤ c ∧ c ≤ p.length ∧ st.tm 1 = iv b ∧ st.tm 2 = .pt (.s 2) 0 ∧ st.hp (.s 2) = some (.row 1 [[ksl p]]) ∧ st.tm 6 = iv c ∧ st.tm 5 = .hs (.s 5) 1 0 (freesRaw p b (c - b)).length ∧ st.hp (.s 5) = some (.row 1 (irows (freesRaw p b (c - b))))) (p.length - b) ?_ ?_
  · exact ⟨b, rfl, by omega, by omega, by simp, by simp, by simp, by simp, by simp [freesRaw, joined], by simp [freesRaw, joined]⟩
  rintro n st - - ⟨c, rfl, hc1, hc2, h1, h2, hp2, h6, h5, hp5⟩
  have hrl := freesRaw_len (p := p) (b := b) (n := c - b)
  by_cases hlt : c < p.length
  · obtain ⟨q, hq⟩ : ∃ q, p[c]? = some q := ⟨_, gE hlt⟩
    have hul := q.us_len
    have hnext := freesRaw_next (p := p) hc1
    cases hin : inside p c b
    · have hat : freeAt p b c = [] := by simp [freeAt, hq, hin]
      rw [hat, List.append_nil] at hnext
      generalize hR : freesRaw p b (c - b) = R at h5 hp5 hnext hrl
      have fx := And.intro h1 <| And.intro h2 <| And.intro hp2 <| And.intro h6 <| And.intro h5 <| And.intro hp5 <| And.intro hlt <| hq
      have d1 := used_fn gl p c q hq (hs.bsm hq)
      refine k_run ?_
      repeat ((first | refine wSc (id := 9) qsKa1 mixed ?_); refine k_rund ?_; refine k_run ?_)
      clear fx d1
      refine w_loop (fun n st => n = 0 ∧ st.tm 1 = iv b ∧ st.tm 2 = .pt (.s 2) 0 ∧ st.hp (.s 2) = some (.row 1 [[ksl p]]) ∧ st.tm 6 = iv c ∧ st.tm 7 = .hs (.s 7) 1 0 q.us.length ∧ st.hp (.s 7) = some (.row 1 (irows q.us)) ∧ st.tm 8 = iv 0 ∧ st.tm 5 = .hs (.s 5) 1 0 R.length ∧ st.hp (.s 5) = some (.row 1 (irows R))) 0 ?_ ?_
      · exact ⟨rfl, by simp [h1], by simp [h2], by simp [hp2], by simp [h6], by simp, by simp, by simp, by simp [h5], by simp [hp5]⟩
      clear h1 h2 hp2 h6 h5 hp5
      rintro n st - - ⟨rfl, h1, h2, hp2, h6, h7, hp7, h8, h5, hp5⟩
      by_cases hu0 : 0 < q.us.length
      · skip
        have fx := And.intro h1 <| And.intro h2 <| And.intro hp2 <| And.intro h6 <| And.intro h7 <| And.intro hp7 <| And.intro h8 <| And.intro h5 <| And.intro hp5 <| And.intro hq <| And.intro hu0 <| hin
        have c1 := inside_fn gl p c b hs hh hlt
        refine k_run ?_
        repeat ((first | refine wSc (id := 9) qsKa1 mixed ?_); refine k_rund ?_; refine k_run ?_)
        clear fx c1
        exact ⟨p.length - (c + 1), by omega, c + 1, rfl, by omega, by omega, by simp [h1], by simp [h2], by simp [hp2], by simp [h6]; exact wrp (by omega) (by omega), by simp [hnext, h5], by simp [hnext, hp5]⟩
      · skip
        have fx := And.intro h1 <| And.intro h2 <| And.intro hp2 <| And.intro h6 <| And.intro h7 <| And.intro hp7 <| And.intro h8 <| And.intro h5 <| And.intro hp5 <| And.intro hq <| And.intro hu0 <| hin
        have c1 := inside_fn gl p c b hs hh hlt
        refine k_run ?_
        repeat ((first | refine wSc (id := 9) qsKa1 mixed ?_); refine k_rund ?_; refine k_run ?_)
        clear fx c1
        exact ⟨p.length - (c + 1), by omega, c + 1, rfl, by omega, by omega, by simp [h1], by simp [h2], by simp [hp2], by simp [h6]; exact wrp (by omega) (by omega), by simp [hnext, h5], by simp [hnext, hp5]⟩
    have hat : freeAt p b c = q.us.filter (freeIn p b c) := by simp [freeAt, hq, hin]
    rw [hat] at hnext
    generalize hR : freesRaw p b (c - b) = R at h5 hp5 hnext hrl
    have fx := And.intro h1 <| And.intro h2 <| And.intro hp2 <| And.intro h6 <| And.intro h5 <| And.intro hp5 <| And.intro hlt <| hq
    have d1 := used_fn gl p c q hq (hs.bsm hq)
    refine k_run ?_
    repeat ((first | refine wSc (id := 9) qsKa1 mixed ?_); refine k_rund ?_; refine k_run ?_)
    clear fx d1
    refine w_loop (fun n st => ∃ i : Nat, n = q.us.length - i ∧ i ≤ q.us.length ∧ st.tm 1 = iv b ∧ st.tm 2 = .pt (.s 2) 0 ∧ st.hp (.s 2) = some (.row 1 [[ksl p]]) ∧ st.tm 6 = iv c ∧ st.tm 7 = .hs (.s 7) 1 0 q.us.length ∧ st.hp (.s 7) = some (.row 1 (irows q.us)) ∧ st.tm 8 = iv i ∧ st.tm 5 = .hs (.s 5) 1 0 (R ++ (q.us.take i).filter (freeIn p b c)).length ∧ st.hp (.s 5) = some (.row 1 (irows (R ++ (q.us.take i).filter (freeIn p b c))))) q.us.length ?_ ?_
    · exact ⟨0, by omega, by omega, by simp [h1], by simp [h2], by simp [hp2], by simp [h6], by simp, by simp, by simp, by simp [h5], by simp [hp5]⟩
    clear h1 h2 hp2 h6 h5 hp5
    rintro n st - - ⟨i, rfl, hi, h1, h2, hp2, h6, h7, hp7, h8, h5, hp5⟩
    have hfl : ((q.us.take i).filter (freeIn p b c)).length ≤ 8 := filter_len8 (Nat.le_trans (List.length_take_le' _ _) hul)
    have hLl : (R ++ (q.us.take i).filter (freeIn p b c)).length ≤ 1000 := by simp; omega
    by_cases hil : i < q.us.length
    · obtain ⟨u, hu⟩ : ∃ u, q.us[i]? = some u := ⟨_, gE hil⟩
      obtain ⟨_, huE⟩ := gS hu
      have hnx : R ++ (q.us.take (i + 1)).filter (freeIn p b c) = R ++ (q.us.take i).filter (freeIn p b c) ++ (if freeIn p b c u = true then [u] else []) := by rw [take_succ_filter hu, List.append_assoc]
      generalize hL : R ++ (q.us.take i).filter (freeIn p b c) = L at h5 hp5 hnx hLl
      have no : freeIn p b c u = false → R ++ (q.us.take (i + 1)).filter (freeIn p b c) = L := fun h => by rw [hnx, h, if_neg (by decide), List.append_nil]
      cases ho : decide (0 < owner p c u)
      · have hno := no (by simp only [freeIn, ho]; rfl)
        have fx := And.intro h1 <| And.intro h2 <| And.intro hp2 <| And.intro h6 <| And.intro h7 <| And.intro hp7 <| And.intro h8 <| And.intro h5 <| And.intro hp5 <| And.intro hq <| And.intro hu <| And.intro huE <| And.intro hil <| And.intro hin <| ho
        have c1 := inside_fn gl p c b hs hh hlt
        have c2 := owner_fn gl p c q u hq hs hh
        refine k_run ?_
        repeat ((first | refine wSc (id := 9) qsKa1 mixed ?_); refine k_rund ?_; refine k_run ?_)
        clear fx c1 c2
        exact ⟨q.us.length - (i + 1), by omega, i + 1, rfl, by omega, by simp [h1], by simp [h2], by simp [hp2], by simp [h6], by simp [h7], by simp [hp7], by simp; exact wrp (by omega) (by omega), by simp [hno, h5], by simp [hno, hp5]⟩
      cases ho2 : decide (owner p c u < b)
      · have hno := no (by simp only [freeIn, ho2]; simp)
        have fx := And.intro h1 <| And.intro h2 <| And.intro hp2 <| And.intro h6 <| And.intro h7 <| And.intro hp7 <| And.intro h8 <| And.intro h5 <| And.intro hp5 <| And.intro hq <| And.intro hu <| And.intro huE <| And.intro hil <| And.intro hin <| And.intro ho <| ho2
        have c1 := inside_fn gl p c b hs hh hlt
        have c2 := owner_fn gl p c q u hq hs hh
        refine k_run ?_
        repeat ((first | refine wSc (id := 9) qsKa1 mixed ?_); refine k_rund ?_; refine k_run ?_)
        clear fx c1 c2
        exact ⟨q.us.length - (i + 1), by omega, i + 1, rfl, by omega, by simp [h1], by simp [h2], by simp [hp2], by simp [h6], by simp [h7], by simp [hp7], by simp; exact wrp (by omega) (by omega), by simp [hno, h5], by simp [hno, hp5]⟩
      · rw [if_pos (by simp only [freeIn, ho, ho2]; rfl)] at hnx
        have fx := And.intro h1 <| And.intro h2 <| And.intro hp2 <| And.intro h6 <| And.intro h7 <| And.intro hp7 <| And.intro h8 <| And.intro h5 <| And.intro hp5 <| And.intro hq <| And.intro hu <| And.intro huE <| And.intro hil <| And.intro hin <| And.intro ho <| And.intro ho2 <| hLl
        have c1 := inside_fn gl p c b hs hh hlt
        have c2 := owner_fn gl p c q u hq hs hh
        refine k_run ?_
        repeat ((first | refine wSc (id := 9) qsKa1 mixed ?_); refine k_rund ?_; refine k_run ?_)
        clear fx c1 c2
        refine ⟨q.us.length - (i + 1), by omega, i + 1, rfl, by omega, by simp [h1], by simp [h2], by simp [hp2], by simp [h6], by simp [h7], by simp [hp7], by simp; exact wrp (by omega) (by omega), by simp [hnx, h5], ?_⟩
        rw [hnx]
        simp [hp5, irows]
    · have hge : i = q.us.length := by omega
      rw [hge, List.take_length, ← hnext] at h5 hp5
      have fx := And.intro h1 <| And.intro h2 <| And.intro hp2 <| And.intro h6 <| And.intro h7 <| And.intro hp7 <| And.intro h8 <| And.intro hil <| hin
      have c1 := inside_fn gl p c b hs hh hlt
      refine k_run ?_
      repeat ((first | refine wSc (id := 9) qsKa1 mixed ?_); refine k_rund ?_; refine k_run ?_)
      clear fx c1
      exact ⟨p.length - (c + 1), by omega, c + 1, rfl, by omega, by omega, by simp [h1], by simp [h2], by simp [hp2], by simp [h6]; exact wrp (by omega) (by omega), by simp [h5], by simp [hp5]⟩
  · have hge : c = p.length := by omega
    subst hge
    have fx := And.intro h1 <| And.intro h2 <| And.intro hp2 <| And.intro h6 <| And.intro h5 <| And.intro hp5 <| hlt
    have d1 := sorted_fn gl (freesRaw p b (p.length - b)) (by omega)
    refine k_run ?_
    repeat ((first | refine wSc (id := 9) qsKa1 mixed ?_); refine k_rund ?_; refine k_run ?_)
    clear fx d1
    exact e_list (t := 4) (by first | (simp []; done) | (simp []; rfl)) (by first | (simp []; done) | (simp []; rfl)) (by simp)
end Go.Proofs.YtmaoicgfcngciaaDoor
end
