/-
  Own texts, joined by mkclaim.py: Gh, Gi, Xa, Xbp, Gl, Ha, Hb.
-/
import Derived.Test.YtmaoicgfcngciaaGreatDoorR23
import Derived.Test.YtmaoicgfcngciaaGreatDoorR09
import Derived.Test.YtmaoicgfcngciaaGreatDoorR12
import Derived.Test.YtmaoicgfcngciaaGreatDoorR22
import Derived.Test.YtmaoicgfcngciaaGreatDoorR16
import Derived.Test.YtmaoicgfcngciaaGreatDoorR10
set_option linter.unusedSimpArgs false
set_option linter.unusedVariables false
set_option maxRecDepth 100000
set_option maxHeartbeats 4000000

section
namespace Go.Proofs.YtmaoicgfcngciaaGreatDoor
open Go Go.Hm Go.Proofs
theorem madeIn_fn (gl) (p : Prg) (b : Nat) (k : Blk) (hk : p[b]? = some k) (h0 : 0 < b) (hh : Heads p) (hs : Sml p) : FnOk Tryz.prog gl 137 [pav p, iv b] (fun _ y _ => y = iv (madeIn p b)) := by
  refine FnOk.of_sem Tryz.func137 rfl (by kernel_rfl) (rs := [.tmp 4]) rfl Tryz.ntmps137 (Nat.le_of_ble_eq_true rfl) fun C w g root => ?_
  obtain ⟨hp1, hp2, hp3⟩ := hh b k hk
  have hbl : b < p.length := (gS hk).1
  have hkp := hp3 h0
  obtain ⟨q, hq⟩ : ∃ q, p[k.parent.toNat]? = some q := ⟨_, gE (by omega)⟩
  have hmi : madeIn p b = ((q.body.filter (fun s => makes s b)).length : Int) := by simp only [madeIn, hk, hq]
  rw [hmi]
  have hql := (hs.bsm hq).body
  all_goals have fx := And.intro hk <| And.intro hq <| hkp
  repeat' (first
   | refine w_seq ?_ | refine w_block ?_ | refine w_reg fun K hK => ?_
   | ((with_reducible refine s_end hK ?_); clear hK K)
   | (with_reducible first | refine s_nil ?_)
   | (with_reducible refine s_none ?_)
   | (with_reducible first | refine x_assign (h := ?_) | refine x_box (h := ?_))
   | (refine wSc (id := 2) (.q 0 <| .q 1 <| .q 2 <| .q 3 <| .q 4 <| .q 5 <| .q 6 <| .q 7 <| .q 8 <| .q 9 <| .q 10 <| .l 11 [] <| .done) mixed fun K hK => ?_)
   | ((with_reducible refine a_end hK ?_); clear hK K)
   | ((with_reducible refine a_id ?_); first | refine xa_q (h := ?_))
   | refine a_l rfl ?_ | (with_reducible refine And.intro ?_ ?_) | exact st_nil
   | fail)
  all_goals try clear fx
  refine w_loop (fun n st => ∃ i : Nat, n = q.body.length - i ∧ i ≤ q.body.length ∧ st.tm 1 = iv b ∧ st.tm 6 = ssl q.body ∧ st.tm 7 = iv i ∧ ∃ c : Nat, c = ((q.body.take i).filter (fun s => makes s b)).length ∧ c ≤ i ∧ st.tm 5 = iv c) q.body.length ?_ ?_
  · exact ⟨0, by simp⟩
  rintro n st - - ⟨i, rfl, hi, h1, h6, h7, c, hc, hci, h5⟩
  all_goals have fx := And.intro h1 <| And.intro h6 <| And.intro h7 <| h5
  repeat' (first
   | refine w_seq ?_ | refine w_reg fun K hK => ?_
   | ((with_reducible refine s_end hK ?_); clear hK K)
   | (with_reducible first | refine then_normal ?_)
   | (with_reducible refine s_none ?_)
   | (with_reducible refine x_q (h := ?_))
   | fail)
  all_goals try clear fx
  refine w_if (by simp []; first | done | rfl | exact (Bool.not_not _).symm) (fun ht => ?_) (fun hf => ?_)
  · have hlt : i < q.body.length := by simpa using ht
    obtain ⟨s, hs⟩ : ∃ s, q.body[i]? = some s := ⟨_, gE hlt⟩
    all_goals have fx := And.intro h1 <| And.intro h6 <| And.intro h7 <| And.intro h5 <| hs
    repeat' (first
     | refine w_seq ?_ | refine w_block ?_ | refine w_skip ?_ | refine w_reg fun K hK => ?_
     | ((with_reducible refine s_end hK ?_); clear hK K)
     | (with_reducible first | refine then_normal ?_)
     | (with_reducible refine s_none ?_)
     | ((with_reducible refine g_id ?_); refine x_guard (h := ?_))
     | (with_reducible first | refine gx_tt ?_ | refine gx_ff ?_ | refine x_tf (h := ?_) | refine x_ft (h := ?_) | refine x_assign (h := ?_))
     | (with_reducible refine x_q (h := ?_))
     | (with_reducible refine gx_s (fun ht => ?_) (fun ht => ?_))
     | refine x_condf (h1 := ?_)
     | refine x_if (h1 := fun ht => ?_) (h2 := fun ht => ?_)
     | fail)
    all_goals try clear fx
    all_goals refine ⟨q.body.length - (i + 1), by omega, i + 1, rfl, by omega, by simp [h1], by simp [h6], by simp; exact wrp (by omega) (by omega), ?_⟩
    all_goals refine ⟨_, rfl, ?_⟩
    all_goals simp only [take_succ_filter hs, List.length_append]
    all_goals simp_all [makes]
    all_goals first | exact wrp (by omega) (by omega) | omega
  · have hge : i = q.body.length := by
      have : ¬ i < q.body.length := by simpa using hf
      omega
    subst hge
    rw [List.take_length] at hc
    all_goals have fx :=  h5
    repeat' (first
     | refine w_seq ?_ | refine w_reg fun K hK => ?_
     | ((with_reducible refine s_end hK ?_); clear hK K)
     | (with_reducible first | refine then_normal ?_)
     | refine w_exit ?_
     | refine w_ret ?_
     | (with_reducible refine s_none ?_)
     | (with_reducible first | refine x_assign (h := ?_))
     | (with_reducible refine x_q (h := ?_))
     | fail)
    all_goals try clear fx
    refine e_ret [] .nil (by simp []; rfl) (by simp [hc])
theorem validBlock_fn' (gl) (p : Prg) (b : Nat) (k : Blk) (hk : p[b]? = some k) (hb : b < p.length) (hs : Sml p) : FnOk Tryz.prog gl 135 [pav p, iv b] (fun _ y _ => y = bv (headOk b k)) := validBlock_fn gl p b k hk hb hs
theorem validShape_fn (gl) (p : Prg) (hs : Sml p) : FnOk Tryz.prog gl 86 [pav p] (fun _ y _ => y = bv (shapeOk p)) := by
  have hpl := hs.len
  refine FnOk.of_sem Tryz.func86 rfl (by kernel_rfl) (rs := [.tmp 2]) rfl Tryz.ntmps86 (Nat.le_of_ble_eq_true rfl) fun C w g root => ?_
  all_goals have fx := fx0
  repeat' (first
   | refine w_seq ?_ | refine w_block ?_ | refine w_skip ?_ | refine w_reg fun K hK => ?_
   | ((with_reducible refine s_end hK ?_); clear hK K)
   | (with_reducible first | refine then_normal ?_ | refine then_ret ?_)
   | refine w_ret ?_
   | (with_reducible refine s_none ?_)
   | (with_reducible first | refine x_assign (h := ?_) | refine x_box (h := ?_))
   | ((with_reducible refine o_id 39 rfl ?_); refine x_call (hF := inRange_fn _ _ _ _) (h := ?_))
   | (with_reducible refine x_q (h := ?_))
   | refine x_if (h1 := fun ht => ?_) (h2 := fun ht => ?_)
   | fail)
  all_goals try clear fx
  · refine e_ret [] .nil (by simp; rfl) ?_
    have hno : (decide (1 ≤ p.length) && decide (p.length ≤ 7)) = false := by
      rw [Bool.eq_false_iff]
      intro h
      simp at h ht
      omega
    simp only [shapeOk, hno]
    rfl
  have hyes : (decide (1 ≤ p.length) && decide (p.length ≤ 7)) = true := by
    simp at ht ⊢
    omega
  have hsh : shapeOk p = ((List.range p.length).all (blkOk p) && (List.range p.length).all (fun i => i == 0 || madeIn p i == 1)) := by
    simp only [shapeOk, hyes, Bool.true_and]
  rw [hsh]
  clear hsh
  refine w_loop (fun n st => ∃ i : Nat, n = p.length - i ∧ i ≤ p.length ∧ st.tm 1 = .pt (.s 1) 0 ∧ st.hp (.s 1) = some (.row 1 [[ksl p]]) ∧ st.tm 3 = iv i ∧ (List.range i).all (blkOk p) = true) p.length ?_ ?_
  · exact ⟨0, by simp⟩
  rintro n st - - ⟨i, rfl, hi, h1, hp1, h3, hal⟩
  all_goals have fx := And.intro h1 <| And.intro hp1 <| h3
  repeat' (first
   | refine w_seq ?_ | refine w_reg fun K hK => ?_
   | ((with_reducible refine s_end hK ?_); clear hK K)
   | (with_reducible first | refine then_normal ?_)
   | (with_reducible refine s_none ?_)
   | (with_reducible refine x_q (h := ?_))
   | fail)
  all_goals try clear fx
  refine w_if (by simp []; first | done | rfl | exact (Bool.not_not _).symm) (fun ht => ?_) (fun hf => ?_)
  · have hlt : i < p.length := by simpa using ht
    obtain ⟨k, hk⟩ : ∃ k, p[i]? = some k := ⟨_, gE hlt⟩
    have hbf : blkOk p i = (headOk i k && decide (k.body.length ≤ 12) && k.body.all (StmOk p i k)) := by simp only [blkOk, hk]
    have fin : ∀ R : Bool, blkOk p i = false → ((List.range p.length).all (blkOk p) && R) = false := fun R h => by rw [range_false hlt h]; rfl
    have hbl := (hs.bsm hk).body
    all_goals have fx := And.intro h1 <| And.intro hp1 <| And.intro h3 <| hk
    repeat' (first
     | refine w_seq ?_ | refine w_block ?_ | refine w_skip ?_ | refine w_reg fun K hK => ?_
     | ((with_reducible refine s_end hK ?_); clear hK K)
     | (with_reducible first | refine then_normal ?_ | refine then_ret ?_ | refine in_ret ?_)
     | refine w_ret ?_
     | (with_reducible refine s_none ?_)
     | ((with_reducible refine g_id ?_); refine x_guard (h := ?_))
     | (with_reducible first | refine gx_ff ?_ | refine x_ft (h := ?_) | refine x_assign (h := ?_))
     | ((with_reducible refine o_id 135 rfl ?_); refine x_call (hF := validBlock_fn' _ p i k hk hlt hs) (h := ?_))
     | (with_reducible refine x_q (h := ?_))
     | (with_reducible refine gx_s (fun ht => ?_) (fun ht => ?_))
     | refine x_condt (h1 := ?_)
     | refine x_if (h1 := fun ht => ?_) (h2 := fun ht => ?_)
     | fail)
    all_goals try clear fx
    · refine e_ret [] .nil (by simp; rfl) ?_
      rw [fin _ (by rw [hbf, show headOk i k = false by simpa using ht]; rfl)]
      rfl
    · refine e_ret [] .nil (by simp; rfl) ?_
      rw [fin _ (by rw [hbf, show decide (k.body.length ≤ 12) = false by simp at ht ⊢; omega]; simp)]
      rfl
    rename_i ht1
    have hhd : headOk i k = true := by simpa using ht1
    have hbd : k.body.length ≤ 12 := by simp at ht; omega
    refine w_loop (fun n st => ∃ j : Nat, n = k.body.length - j ∧ j ≤ k.body.length ∧ st.tm 1 = .pt (.s 1) 0 ∧ st.hp (.s 1) = some (.row 1 [[ksl p]]) ∧ st.tm 3 = iv i ∧ st.tm 4 = iv j ∧ (k.body.take j).all (StmOk p i k) = true) k.body.length ?_ ?_
    · exact ⟨0, by simp [h1, hp1, h3]⟩
    clear h1 hp1 h3 ht ht1
    rintro n st - - ⟨j, rfl, hj, h1, hp1, h3, h4, haj⟩
    all_goals have fx := And.intro h1 <| And.intro hp1 <| And.intro h3 <| And.intro h4 <| hk
    repeat' (first
     | refine w_seq ?_ | refine w_reg fun K hK => ?_
     | ((with_reducible refine s_end hK ?_); clear hK K)
     | (with_reducible first | refine then_normal ?_)
     | (with_reducible refine s_none ?_)
     | (with_reducible refine x_q (h := ?_))
     | fail)
    all_goals try clear fx
    refine w_if (by simp []; first | done | rfl | exact (Bool.not_not _).symm) (fun ht => ?_) (fun hf => ?_)
    · have hlj : j < k.body.length := by simpa using ht
      obtain ⟨s, hsj⟩ : ∃ s, k.body[j]? = some s := ⟨_, gE hlj⟩
      all_goals have fx := And.intro h1 <| And.intro hp1 <| And.intro h3 <| And.intro h4 <| And.intro hk <| hsj
      repeat' (first
       | refine w_seq ?_ | refine w_block ?_ | refine w_skip ?_ | refine w_reg fun K hK => ?_
       | ((with_reducible refine s_end hK ?_); clear hK K)
       | (with_reducible first | refine then_normal ?_ | refine then_ret ?_ | refine in_ret ?_ | refine s_nil ?_)
       | refine w_ret ?_
       | (with_reducible refine s_none ?_)
       | (with_reducible first | refine x_assign (h := ?_))
       | ((with_reducible refine o_id 136 rfl ?_); refine x_call (hF := validStmt_fn _ p i k s hk hs hlt) (h := ?_))
       | (with_reducible refine x_q (h := ?_))
       | (refine wSc (id := 11) (.q 0 <| .q 1 <| .q 2 <| .q 3 <| .q 4 <| .q 5 <| .q 6 <| .q 7 <| .q 8 <| .q 9 <| .q 10 <| .l 11 [9, 8, 7, 6, 5, 4, 3, 2] <| .q 12 <| .done) mixed fun K hK => ?_)
       | ((with_reducible refine a_end hK ?_); clear hK K)
       | ((with_reducible refine a_id ?_); first | refine xa_q (h := ?_))
       | refine a_l rfl ?_ | (with_reducible refine And.intro ?_ ?_) | exact st_nil | refine xa_st (h2 := ?_)
       | refine x_if (h1 := fun ht => ?_) (h2 := fun ht => ?_)
       | fail)
      all_goals try clear fx
      · refine e_ret [] .nil (by simp; rfl) ?_
        rw [fin _ (by rw [hbf, all_false (List.mem_of_getElem? hsj) (show StmOk p i k s = false by simpa using ht)]; simp)]
        rfl
      · refine ⟨k.body.length - (j + 1), by omega, j + 1, rfl, by omega, by simp [h1], by simp [hp1], by simp [h3], by simp; exact wrp (by omega) (by omega), ?_⟩
        rw [List.take_add_one, hsj, List.all_append, haj]
        simpa using ht
    · have hge : j = k.body.length := by
        have : ¬ j < k.body.length := by simpa using hf
        omega
      subst hge
      rw [List.take_length] at haj
      all_goals have fx := And.intro h1 <| And.intro hp1 <| And.intro h3 <| And.intro h4 <| hk
      repeat' (first
       | refine w_reg fun K hK => ?_
       | ((with_reducible refine s_end hK ?_); clear hK K)
       | (with_reducible first | refine then_normal ?_)
       | refine w_exit ?_
       | (with_reducible refine s_none ?_)
       | (with_reducible first | refine x_assign (h := ?_))
       | (with_reducible refine x_q (h := ?_))
       | fail)
      all_goals try clear fx
      refine ⟨p.length - (i + 1), by omega, i + 1, rfl, by omega, by simp [h1], by simp [hp1], by simp; exact wrp (by omega) (by omega), ?_⟩
      rw [all_range_succ, hal, hbf, hhd, haj]
      simpa using hbd
  · have hge : i = p.length := by
      have : ¬ i < p.length := by simpa using hf
      omega
    subst hge
    have hh := heads_of hal
    rw [hal, Bool.true_and]
    all_goals have fx := And.intro h1 <| hp1
    repeat' (first
     | refine w_seq ?_ | refine w_block ?_ | refine w_reg fun K hK => ?_
     | ((with_reducible refine s_end hK ?_); clear hK K)
     | refine w_exit ?_
     | (with_reducible refine s_none ?_)
     | (with_reducible first | refine x_assign (h := ?_))
     | fail)
    all_goals try clear fx
    refine w_loop (fun n st => ∃ i : Nat, n = p.length - i ∧ i ≤ p.length ∧ 1 ≤ i ∧ st.tm 1 = .pt (.s 1) 0 ∧ st.hp (.s 1) = some (.row 1 [[ksl p]]) ∧ st.tm 5 = iv i ∧ (List.range i).all (fun i => i == 0 || madeIn p i == 1) = true) (p.length - 1) ?_ ?_
    · refine ⟨1, by omega, ?_, by omega, by simp [h1, hp1]⟩
      simp at hyes
      omega
    clear h1 hp1 h3 hi
    rintro n st - - ⟨i, rfl, hi, hi1, h1, hp1, h5, hmi⟩
    all_goals have fx := And.intro h1 <| And.intro hp1 <| h5
    repeat' (first
     | refine w_seq ?_ | refine w_reg fun K hK => ?_
     | ((with_reducible refine s_end hK ?_); clear hK K)
     | (with_reducible first | refine then_normal ?_)
     | (with_reducible refine s_none ?_)
     | (with_reducible refine x_q (h := ?_))
     | fail)
    all_goals try clear fx
    refine w_if (by simp []; first | done | rfl | exact (Bool.not_not _).symm) (fun ht => ?_) (fun hf => ?_)
    · have hlt : i < p.length := by simpa using ht
      obtain ⟨k, hk⟩ : ∃ k, p[i]? = some k := ⟨_, gE hlt⟩
      all_goals have fx := And.intro h1 <| And.intro hp1 <| And.intro h5 <| @bne_def
      repeat' (first
       | refine w_seq ?_ | refine w_block ?_ | refine w_skip ?_ | refine w_reg fun K hK => ?_
       | ((with_reducible refine s_end hK ?_); clear hK K)
       | (with_reducible first | refine then_normal ?_ | refine then_ret ?_ | refine in_ret ?_)
       | refine w_ret ?_
       | (with_reducible refine s_none ?_)
       | (with_reducible first | refine x_assign (h := ?_))
       | ((with_reducible refine o_id 137 rfl ?_); refine x_call (hF := madeIn_fn _ p i k hk hi1 hh hs) (h := ?_))
       | (with_reducible refine x_q (h := ?_))
       | refine x_if (h1 := fun ht => ?_) (h2 := fun ht => ?_)
       | fail)
      all_goals try clear fx
      · refine e_ret [] .nil (by simp; rfl) ?_
        rw [range_false hlt (show (i == 0 || madeIn p i == 1) = false by simp at ht ⊢; exact ⟨by omega, ht⟩)]
        rfl
      · refine ⟨p.length - (i + 1), by omega, i + 1, rfl, by omega, by omega, by simp [h1], by simp [hp1], by simp; exact wrp (by omega) (by omega), ?_⟩
        rw [all_range_succ, hmi]
        simp at ht ⊢
        exact .inr ht
    · have hge : i = p.length := by
        have : ¬ i < p.length := by simpa using hf
        omega
      subst hge
      all_goals have fx := fx0
      repeat' (first
       | refine w_seq ?_ | refine w_reg fun K hK => ?_
       | ((with_reducible refine s_end hK ?_); clear hK K)
       | (with_reducible first | refine then_normal ?_)
       | refine w_exit ?_
       | refine w_ret ?_
       | (with_reducible refine s_none ?_)
       | (with_reducible first | refine x_assign (h := ?_))
       | fail)
      all_goals try clear fx
      refine e_ret [] .nil (by simp []; rfl) (by simp [hmi])
theorem validProgram_fn (gl) (p : Prg) (hs : Sml p) : FnOk Tryz.prog gl 38 [pav p] (fun _ y _ => y = bv (progOk p)) := by
  have hpl := hs.len
  refine FnOk.of_sem Tryz.func38 rfl (by kernel_rfl) (rs := [.tmp 2]) rfl Tryz.ntmps38 (Nat.le_of_ble_eq_true rfl) fun C w g root => ?_
  all_goals have fx := fx0
  repeat' (first
   | refine w_seq ?_ | refine w_block ?_ | refine w_skip ?_ | refine w_reg fun K hK => ?_
   | ((with_reducible refine s_end hK ?_); clear hK K)
   | (with_reducible first | refine then_normal ?_ | refine in_normal ?_ | refine then_exit ?_ | refine in_exit ?_ | refine then_ret ?_ | refine in_ret ?_ | refine in_other (by decide) ?_)
   | refine w_exit ?_
   | refine w_ret ?_
   | (with_reducible refine s_none ?_)
   | ((with_reducible refine g_id ?_); refine x_guard (h := ?_))
   | (with_reducible first | refine gx_tt ?_ | refine gx_ff ?_ | refine x_tf (h := ?_) | refine x_ft (h := ?_) | refine x_u (h := ?_) | refine x_assign (h := ?_) | refine x_box (h := ?_))
   | ((with_reducible refine o_id 86 rfl ?_); refine x_call (hF := validShape_fn _ p hs) (h := ?_))
   | (with_reducible refine x_q (h := ?_))
   | (with_reducible refine gx_s (fun ht => ?_) (fun ht => ?_))
   | refine x_condt (h1 := ?_) | refine x_condf (h1 := ?_)
   | refine x_if (h1 := fun ht => ?_) (h2 := fun ht => ?_)
   | fail)
  all_goals try clear fx
  · refine e_ret [] .nil (by simp; rfl) ?_
    have : shapeOk p = false := by simpa using ht
    simp only [progOk, this]
    rfl
  have hsh : shapeOk p = true := by simpa using ht
  obtain ⟨hh, hl1, hl7, _, _⟩ := shapeOk_heads hsh
  have hpo : progOk p = (List.range p.length).all (fun b => b == 0 || declsOk p b) := by simp only [progOk, hsh, Bool.true_and]
  rw [hpo]
  clear hpo ht
  refine w_loop (fun n st => ∃ i : Nat, n = p.length - i ∧ i ≤ p.length ∧ 1 ≤ i ∧ st.tm 1 = .pt (.s 1) 0 ∧ st.hp (.s 1) = some (.row 1 [[ksl p]]) ∧ st.tm 3 = iv i ∧ (List.range i).all (fun b => b == 0 || declsOk p b) = true) (p.length - 1) ?_ ?_
  · exact ⟨1, rfl, hl1, by omega, by simp⟩
  rintro n st - - ⟨i, rfl, hi, hi1, h1, hp1, h3, hal⟩
  have fx := And.intro h1 <| And.intro hp1 <| h3
  refine k_run ?_
  clear fx
  refine w_if (by simp []; first | done | rfl | exact (Bool.not_not _).symm) (fun ht => ?_) (fun hf => ?_)
  · have hlt : i < p.length := by simpa using ht
    obtain ⟨k, hk⟩ : ∃ k, p[i]? = some k := ⟨_, gE hlt⟩
    have hpar := (hs.bsm hk).params
    have hdo : declsOk p i = (List.range 8).all (fun x => declOk p i k (x : Int)) := by simp only [declsOk, hk]
    all_goals have fx := And.intro h1 <| And.intro hp1 <| And.intro h3 <| hk
    repeat' (first
     | refine w_seq ?_ | refine w_block ?_ | refine w_skip ?_ | refine w_reg fun K hK => ?_
     | ((with_reducible refine s_end hK ?_); clear hK K)
     | (with_reducible first | refine then_normal ?_ | refine in_normal ?_ | refine then_exit ?_ | refine in_exit ?_ | refine then_ret ?_ | refine in_ret ?_ | refine in_other (by decide) ?_)
     | refine w_exit ?_
     | refine w_ret ?_
     | (with_reducible refine s_none ?_)
     | ((with_reducible refine g_id ?_); refine x_guard (h := ?_))
     | (with_reducible first | refine gx_tt ?_ | refine gx_ff ?_ | refine x_tf (h := ?_) | refine x_ft (h := ?_) | refine x_u (h := ?_) | refine x_assign (h := ?_) | refine x_box (h := ?_))
     | ((with_reducible refine o_id 87 rfl ?_); refine x_callh (hF := declared_fn _ p i k _ hk (hs.bsm hk)) (h := ?_))
     | (with_reducible refine x_q (h := ?_))
     | (with_reducible refine gx_s (fun ht => ?_) (fun ht => ?_))
     | refine x_condt (h1 := ?_) | refine x_condf (h1 := ?_)
     | fail)
    all_goals try clear fx
    refine w_loop (fun n st => ∃ x : Nat, n = 8 - x ∧ x ≤ 8 ∧ st.tm 1 = .pt (.s 1) 0 ∧ st.hp (.s 1) = some (.row 1 [[ksl p]]) ∧ st.tm 3 = iv i ∧ st.tm 4 = .hs (.s 4) 1 0 (k.dc 9).length ∧ st.hp (.s 4) = some (.row 1 (irows (k.dc 9))) ∧ st.tm 5 = .hs (.s 5) 1 0 (k.dc 10).length ∧ st.hp (.s 5) = some (.row 1 (irows (k.dc 10))) ∧ st.tm 6 = iv x ∧ (List.range x).all (fun x => declOk p i k (x : Int)) = true) 8 ?_ ?_
    · exact ⟨0, by simp [h1, hp1, h3]⟩
    clear h1 hp1 h3 ht
    rintro n st - - ⟨x, rfl, hx, h1, hp1, h3, h4, hp4, h5, hp5, h6, hax⟩
    have fx := And.intro h1 <| And.intro hp1 <| And.intro h3 <| And.intro h4 <| And.intro hp4 <| And.intro h5 <| And.intro hp5 <| h6
    refine k_run ?_
    clear fx
    refine w_if (by simp []; first | done | rfl | exact (Bool.not_not _).symm) (fun ht => ?_) (fun hf => ?_)
    · have hx7 : (x : Int) ≤ 7 := by simpa using ht
      have hx8 : x < 8 := by omega
      all_goals have fx := And.intro h1 <| And.intro hp1 <| And.intro h3 <| And.intro h4 <| And.intro hp4 <| And.intro h5 <| And.intro hp5 <| And.intro h6 <| hk
      repeat' (first
       | refine w_seq ?_ | refine w_block ?_ | refine w_skip ?_ | refine w_reg fun K hK => ?_
       | ((with_reducible refine s_end hK ?_); clear hK K)
       | (with_reducible first | refine then_normal ?_ | refine in_normal ?_ | refine then_exit ?_ | refine in_exit ?_ | refine then_ret ?_ | refine in_ret ?_ | refine in_other (by decide) ?_)
       | refine w_exit ?_
       | refine w_ret ?_
       | (with_reducible refine s_none ?_)
       | ((with_reducible refine g_id ?_); refine x_guard (h := ?_))
       | (with_reducible first | refine gx_tt ?_ | refine gx_ff ?_ | refine x_tf (h := ?_) | refine x_ft (h := ?_) | refine x_u (h := ?_) | refine x_assign (h := ?_) | refine x_box (h := ?_))
       | ((with_reducible refine o_id 88 rfl ?_); refine x_call (hF := has_fn _ _ _ (by first | exact Nat.le_trans (Blk.dc_len _ _) (by decide) | omega)) (h := ?_))
       | ((with_reducible refine o_id 89 rfl ?_); refine x_call (hF := outer_fn _ p i k _ hk hs hh) (h := ?_))
       | (with_reducible refine x_q (h := ?_))
       | (with_reducible refine gx_s (fun ht => ?_) (fun ht => ?_))
       | refine x_condt (h1 := ?_) | refine x_condf (h1 := ?_)
       | refine x_if (h1 := fun ht => ?_) (h2 := fun ht => ?_)
       | fail)
      all_goals try clear fx
      all_goals first
        | (have hd : declOk p i k x = false := by
             simp only [declOk]
             clear hal hax hpar hs hh h1 hp1 h3 h4 hp4 h5 hp5 h6 hdo hsh hk
             simp_all
           refine e_ret [] .nil (by simp; rfl) ?_
           rw [range_false hlt (show (i == 0 || declsOk p i) = false by rw [hdo, range_false hx8 hd]; simp; omega)]
           rfl)
        | (have hd : declOk p i k x = true := by
             simp only [declOk]
             clear hal hax hpar hs hh h1 hp1 h3 h4 hp4 h5 hp5 h6 hdo hsh hk
             simp_all
           refine ⟨8 - (x + 1), by omega, x + 1, rfl, by omega, by simp [h1], by simp [hp1], by simp [h3], by simp [h4], by simp [hp4], by simp [h5], by simp [hp5], by simp; exact wrp (by omega) (by omega), ?_⟩
           rw [all_range_succ, hax, hd]
           rfl)
    · have hge : x = 8 := by
        have : ¬ (x : Int) ≤ 7 := by simpa using hf
        omega
      subst hge
      have fx := And.intro h1 <| And.intro hp1 <| h3
      refine k_run ?_
      clear fx
      refine ⟨p.length - (i + 1), by omega, i + 1, rfl, by omega, by omega, by simp [h1], by simp [hp1], by simp; exact wrp (by omega) (by omega), ?_⟩
      rw [all_range_succ, hal, hdo, hax]
      simp
  · have hge : i = p.length := by
      have : ¬ i < p.length := by simpa using hf
      omega
    subst hge
    have fx := fx0
    refine k_run ?_
    clear fx
    refine e_ret [] .nil (by simp []; rfl) (by simp [hal])
end Go.Proofs.YtmaoicgfcngciaaGreatDoor
end
section
namespace Go.Proofs.YtmaoicgfcngciaaGreatDoor
open Go Go.Hm Go.Proofs
abbrev qsXa0 : Sch := .q 0 <| .q 1 <| .q 2 <| .q 3 <| .q 4 <| .q 5 <| .q 6 <| .q 7 <| .q 8 <| .q 9 <| .l 10 [8, 7, 6, 5, 4, 3, 2, 1, 0] <| .l 11 [7, 6, 5, 4, 3, 2, 1, 0] <| .q 12 <| .q 13 <| .l 14 [12] <| .done
abbrev qsXa1 : Sch := .q 0 <| .q 1 <| .q 2 <| .q 3 <| .q 4 <| .q 5 <| .q 6 <| .q 7 <| .q 8 <| .q 9 <| .l 10 [7, 6, 5, 4, 3, 2, 1, 0] <| .q 11 <| .l 12 [11, 7, 6, 5, 4, 3, 2, 1] <| .l 13 [] <| .done
attribute [local simp] slcAV
theorem parseL_app {a b : List Txt} {p q : Prg} (h : parseL a p = some q) : parseL (a ++ b) p = parseL b q := by
  induction a generalizing p with
  | nil => simp [parseL] at h; subst h; rfl
  | cons l a ih =>
    rw [List.cons_append]
    simp only [parseL] at h ⊢
    cases hl : addLine p l with
    | none => rw [hl] at h; cases h
    | some r => rw [hl] at h; exact ih h
theorem parseL_step {L : List Txt} {i : Nat} {l : Txt} {p q r : Prg} (hi : L[i]? = some l) (h : parseL (L.take i) p = some q) (hl : addLine q l = some r) : parseL (L.take (i + 1)) p = some r := by
  rw [List.take_add_one, hi, parseL_app h]
  simp [parseL, hl]
theorem parseL_bad {L : List Txt} {i : Nat} {l : Txt} {p q : Prg} (hi : L[i]? = some l) (h : parseL (L.take i) p = some q) (hl : addLine q l = none) : parseL L p = none := by
  have e : L = L.take i ++ l :: L.drop (i + 1) := by
    obtain ⟨h1, hE⟩ := gS hi
    conv => lhs; rw [← List.take_append_drop i L]
    rw [List.drop_eq_getElem_cons h1, hE]
  rw [e, parseL_app h]
  simp [parseL, hl]
structure GotL (p : Prg) (n : Nat) : Prop where
  pos : 1 ≤ p.length
  len : p.length ≤ n + 1
  each : ∀ k ∈ p, k.body.length ≤ n ∧ k.params.length ≤ 1048576
theorem gotL0 : GotL prg0 0 := ⟨by simp [prg0], by simp [prg0], by simp [prg0]⟩
theorem GotL.head {p : Prg} {n : Nat} {k : Blk} (h : GotL p n) (hk : k.body = [] ∧ k.params.length ≤ 1048576) : GotL (p ++ [k]) (n + 1) :=
  ⟨by simp, by simp; exact h.len, fun x hx => by
    rw [List.mem_append, List.mem_singleton] at hx
    rcases hx with hx | rfl
    · have := h.each x hx; omega
    · rw [hk.1]; exact ⟨by simp, hk.2⟩⟩
theorem GotL.put {p : Prg} {n : Nat} {k : Blk} {S : Stm} (h : GotL p n) (hk : p[p.length - 1]? = some k) : GotL (setBody p (p.length - 1) (k.body ++ [S])) (n + 1) := by
  have hkb := h.each k (List.mem_of_getElem? hk)
  refine ⟨by simp; exact h.pos, by simp; have := h.len; omega, fun x hx => ?_⟩
  obtain ⟨r, hr, e1, e2⟩ := setBody_mem hx
  have := h.each r hr
  rw [e1]
  rcases e2 with e | e <;> rw [e]
  · omega
  · simp; omega
theorem GotL.sml {p : Prg} (h : GotL p 1048575) : Sml p :=
  ⟨by have := h.len; omega, fun k hk => (h.each k hk).2, fun k hk => by have := h.each k hk; omega⟩
theorem few_linesL {s : Txt} {p : Prg} (hs : s.length ≤ 1048576) (h : parseL (splitL 10 s).dropLast prg0 = some p) : (splitL 10 s).dropLast.length ≤ 1048575 := by
  have hsum := split_sum (c := 10) (s := s)
  have hne := splitL_ne (c := 10) (l := s)
  generalize splitL 10 s = L at h hsum hne ⊢
  obtain ⟨I, z, rfl⟩ : ∃ I z, L = I ++ [z] := ⟨L.dropLast, L.getLast hne, (List.dropLast_concat_getLast hne).symm⟩
  rw [List.dropLast_concat] at h ⊢
  cases I with
  | nil => simp
  | cons l r =>
    have hl : l ≠ [] := by
      rintro rfl
      have hno : addLine prg0 [] = none := by decide
      simp [parseL, hno] at h
    have h1 := List.length_pos_iff.2 hl
    simp at hsum ⊢
    omega
theorem readH_len {l : Txt} {k : Blk} (h : readH l = some k) : k.body = [] ∧ k.params.length ≤ l.length := by
  obtain ⟨h1, h2, h3⟩ := readH_of h
  refine ⟨h3, ?_⟩
  rw [← h1]
  unfold showH
  split
  · rw [h2.cls (by assumption)]; simp
  · have hf : ∀ ns : List Int, ns.length ≤ (ns.flatMap fun n => (32 : UInt8) :: numI n).length := by
      intro ns
      induction ns with
      | nil => simp
      | cons n ns ih => simp only [List.flatMap_cons, List.length_append, List.length_cons] at ih ⊢; omega
    have := hf k.params
    rw [wordsL, List.length_append]
    omega
theorem spec_parse_fn (gl) (s : Txt) (hs : s.length ≤ 1048576) : FnOk Tryz.prog gl 31 [tx s] (fun r y H' => ∃ p : Prg, y = .tup [.agg [.hs r 4 0 p.length], bv (parseT s).isSome] ∧ OwnP H' r p ∧ ∀ q, parseT s = some q → p = q) := by
  have hsp := splitAt_10 gl s (by omega)
  have hlen := split_len (c := 10) (s := s)
  have hpart := split_part (c := 10) (s := s)
  have hne := splitL_ne (c := 10) (l := s)
  have hPT : parseT s = match parseL (splitL 10 s).dropLast prg0 with
    | some p => if (splitL 10 s).getLast? = some [] ∧ progOk p = true then some p else none
    | none => none := rfl
  have hfew : ∀ p, parseL (splitL 10 s).dropLast prg0 = some p → (splitL 10 s).dropLast.length ≤ 1048575 := fun p h => few_linesL hs h
  generalize parseT s = RC at hPT ⊢
  generalize splitL 10 s = L at hlen hpart hsp hne hPT hfew
  obtain ⟨I, z, rfl⟩ : ∃ I z, L = I ++ [z] := ⟨L.dropLast, L.getLast hne, (List.dropLast_concat_getLast hne).symm⟩
  rw [List.dropLast_concat] at hPT hfew
  rw [List.getLast?_concat] at hPT
  rw [List.length_append, List.length_singleton] at hlen
  clear hne
  refine FnOk.of_sem Tryz.func31 rfl (by kernel_rfl) (rs := [.cell 2 24, .tmp 3]) rfl Tryz.ntmps31 (Nat.le_of_ble_eq_true rfl) fun C w g root => ?_
  have fx := fx0
  have p1 := hsp
  refine k_runp ?_
  repeat ((first | refine wSc (id := 13) qsXa0 mixed ?_ | refine wSc (id := 14) qsXa1 mixed ?_); refine k_rundp ?_; refine k_runp ?_)
  clear fx p1
  refine w_loop (fun n st => ∃ (i : Nat) (p : Prg), n = I.length - i ∧ i ≤ I.length ∧ parseL (I.take i) prg0 = some p ∧ GotL p i ∧ st.tm 2 = .pt (.s 2) 0 ∧ st.hp (.s 2) = some (.row 1 [[.hs (.c (.s 2) 0 0) 4 0 0]]) ∧ st.hp (.c (.s 2) 0 0) = some (.row 4 []) ∧ st.tm 4 = .pt (.s 4) 0 ∧ st.hp (.s 4) = some (.row 1 [[.hs (.c (.s 4) 0 0) 4 0 p.length]]) ∧ OwnP st.hp (.c (.s 4) 0 0) p ∧ st.tm 5 = xsl (I ++ [z]) ∧ st.tm 6 = iv i) I.length ?_ ?_
  · refine ⟨0, prg0, rfl, by omega, rfl, gotL0, by simp, by simp, by simp, by simp, by simp [prg0], ⟨by simp [prg0, pRows], fun j r hj => ?_, fun j r hj => ?_⟩, by simp, by simp⟩
    all_goals
      match j, hj with
      | 0, hj => simp [prg0] at hj; subst hj; simp
      | j + 1, hj => simp [prg0] at hj
  rintro n st - - ⟨i, p, rfl, hi, hpp, hG, h2, hp2, hp2', h4, hp4, ⟨ho1, ho2, ho3⟩, h5, h6⟩
  obtain ⟨hG1, hG2, hG3⟩ := id hG
  have hw1 : IntKind.i64.wrap ((i : Int) + 1) = (i : Int) + 1 := wrp (by omega) (by omega)
  by_cases hil : i < I.length
  · have hlt : (i : Int) + 1 < (I.length : Int) + 1 := by omega
    obtain ⟨l, hl⟩ : ∃ l, I[i]? = some l := ⟨_, gE hil⟩
    obtain ⟨_, hlE⟩ := gS hl
    have hla : (I ++ [z])[i]? = some l := by rw [List.getElem?_append_left hil]; exact hl
    obtain ⟨hlaL, hlaE⟩ := gS hla
    have hlb : l.length ≤ 1048576 := by have := hpart l (List.mem_of_getElem? hla); omega
    have hrh := spec_readHead_fn gl l (by omega)
    have fx := And.intro h5 <| And.intro h6 <| And.intro hw1 <| And.intro hlt <| And.intro hla <| And.intro hlaE <| hil
    have e1 := hrh
    refine k_run ?_
    repeat ((first | refine wSc (id := 13) qsXa0 mixed ?_ | refine wSc (id := 14) qsXa1 mixed ?_); refine k_rund ?_; refine k_run ?_)
    clear fx e1
    rintro K hK y H1 ⟨k, rfl, hk2, hk3, hkk⟩
    refine ⟨by simp, ?_⟩
    have hk2' := hcln_row hk2 (by simp)
    have hk3' := hcln_row hk3 (by simp)
    cases hr : readH l with
    | some k' =>
      obtain rfl := hkk k' hr
      obtain ⟨hkb, hkp⟩ := readH_len hr
      have hadd : addLine p l = some (p ++ [k']) := by simp [addLine, hr]
      have hkb0 : k'.body.length = 0 := by rw [hkb]; rfl
      have fx := And.intro h4 <| And.intro hp4 <| And.intro ho1 <| And.intro hk2' <| And.intro hk3' <| And.intro hr <| And.intro h6 <| hw1
      refine k_run ?_
      repeat ((first | refine wSc (id := 13) qsXa0 mixed ?_ | refine wSc (id := 14) qsXa1 mixed ?_); refine k_rund ?_; refine k_run ?_)
      clear fx
      refine ⟨I.length - (i + 1), by omega, i + 1, p ++ [k'], rfl, by omega, parseL_step hl hpp hadd, GotL.head hG ⟨hkb, by omega⟩, by simp [h2], by simp [hp2], by simp [hp2'], by simp [h4], by simp, ⟨?_, fun d r hd => ?_, fun d r hd => ?_⟩, by simp [h5], by simp [hw1]⟩
      · rw [pRows_app]
        simp [hkb0]
        try exact List.take_of_length_le (by simp)
      all_goals
        rw [List.getElem?_append] at hd
        split at hd
        · rename_i hdl
          obtain ⟨r0, hr0'⟩ : ∃ r0, p[d]? = some r0 := ⟨_, gE hdl⟩
          rw [hr0'] at hd
          obtain rfl := Option.some.inj hd
          have hdn : ¬ p.length = d := by omega
          have hdn' : ¬ d = p.length := by omega
          simp [ho2 d _ hr0', ho3 d _ hr0', hdn, hdn']
        · rename_i hdl
          have hde : d = p.length := by
            have h1 := (gS hd).1
            simp at h1
            omega
          subst hde
          rw [Nat.sub_self] at hd
          simp at hd
          subst hd
          simp [hk2', hk3', hkb]
    | none =>
      have hrs := spec_readStmt_fn gl l (by omega)
      have fx := And.intro h5 <| And.intro h6 <| And.intro hla <| And.intro hlaE <| And.intro hil <| hr
      have e1 := hrs
      refine k_run ?_
      repeat ((first | refine wSc (id := 13) qsXa0 mixed ?_ | refine wSc (id := 14) qsXa1 mixed ?_); refine k_rund ?_; refine k_run ?_)
      clear fx e1
      rintro K hK y H2 ⟨⟨sk, so, sa, sb⟩, rfl, hSS⟩
      refine ⟨by simp, ?_⟩
      cases hs2 : readS l with
      | none =>
        have hadd : addLine p l = none := by simp [addLine, hr, hs2]
        rw [parseL_bad hl hpp hadd] at hPT
        have hno : RC = none := hPT
        have fx := And.intro h2 <| And.intro hp2 <| And.intro hp2' <| hs2
        refine k_run ?_
        repeat ((first | refine wSc (id := 13) qsXa0 mixed ?_ | refine wSc (id := 14) qsXa1 mixed ?_); refine k_rund ?_; refine k_run ?_)
        clear fx
        refine e_ret [(.c (.s 2) 0 0, root)] (.one rfl) (by simp [h2]; rfl) ⟨[], by simp [hno], ⟨by simp, fun j r hj => by simp at hj, fun j r hj => by simp at hj⟩, by simp [hno]⟩
      | some S' =>
        obtain rfl := hSS S' hs2
        obtain ⟨k, hk⟩ : ∃ k, p[p.length - 1]? = some k := ⟨_, gE (by omega)⟩
        obtain ⟨hkl, hkE⟩ := gS hk
        have hwl : IntKind.i64.wrap ((p.length : Int) - 1) = ((p.length - 1 : Nat) : Int) := by rw [wrp (by omega) (by omega)]; omega
        have hok := ho3 _ _ hk
        have hkb := hG3 k (List.mem_of_getElem? hk)
        have hadd : addLine p l = some (setBody p (p.length - 1) (k.body ++ [⟨sk, so, sa, sb⟩])) := by rw [← putS_eq hG1 hk]; simp [addLine, hr, hs2]
        have hgot := GotL.put (S := ⟨sk, so, sa, sb⟩) hG hk
        have hset := pRows_set (n := .c (.s 4) 0 0) (a := 65) (i := p.length - 1) (len := k.body.length + 1) (p := p) (L := k.body ++ [⟨sk, so, sa, sb⟩]) (by simp) (by simp) (by simp)
        have hsl : (setBody p (p.length - 1) (k.body ++ [⟨sk, so, sa, sb⟩])).length = p.length := setBody_len
        have fx := And.intro h4 <| And.intro hp4 <| And.intro h6 <| And.intro hw1 <| And.intro ho1 <| And.intro hs2 <| And.intro hwl <| And.intro hk <| And.intro hkE <| And.intro hkl <| hok
        refine k_run ?_
        repeat ((first | refine wSc (id := 13) qsXa0 mixed ?_ | refine wSc (id := 14) qsXa1 mixed ?_); refine k_rund ?_; refine k_run ?_)
        clear fx
        refine ⟨I.length - (i + 1), by omega, i + 1, _, rfl, by omega, parseL_step hl hpp hadd, hgot, by simp [h2], by simp [hp2], by simp [hp2'], by simp [h4], by simp [hp4, hsl], ⟨by simp [hset], fun d r hd => ?_, fun d r hd => ?_⟩, by simp [h5], by simp [hw1]⟩
        all_goals
          have hdp : d < p.length := by have h1 := (gS hd).1; rwa [hsl] at h1
          obtain ⟨r0, hr0'⟩ : ∃ r0, p[d]? = some r0 := ⟨_, gE hdp⟩
          rw [setBody_get hr0'] at hd
          obtain rfl := Option.some.inj hd
          by_cases hpd : p.length - 1 = d
          · subst hpd
            simp [ho2 _ r0 hr0']
          · simp [ho2 d r0 hr0', ho3 d r0 hr0', hpd, show ¬ d = p.length - 1 from fun e => hpd e.symm]
  · have hge : i = I.length := by omega
    subst hge
    rw [List.take_length] at hpp
    rw [hpp] at hPT
    have hfw := hfew p hpp
    have hsm : Sml p := GotL.sml ⟨hG1, by omega, fun k hk => by have := hG3 k hk; omega⟩
    have hnlt : ¬ (I.length : Int) + 1 < (I.length : Int) + 1 := by omega
    have hwl : IntKind.i64.wrap (I.length : Int) = (I.length : Int) := wrp (by omega) (by omega)
    have hla : (I ++ [z])[I.length]? = some z := by simp
    obtain ⟨hlaL, hlaE⟩ := gS hla
    have hlI : I.length < I.length + 1 := by omega
    have hvp := validProgram_fn gl p hsm
    by_cases hz : z = []
    · have hzb : (z == []) = true := by rw [hz]; rfl
      cases hv : progOk p
      · have hno : RC = none := by rw [hPT]; simp [hv]
        rw [hv] at hvp
        have fx := And.intro h2 <| And.intro hp2 <| And.intro hp2' <| And.intro h4 <| And.intro hp4 <| And.intro h5 <| And.intro h6 <| And.intro hw1 <| And.intro hnlt <| And.intro hla <| And.intro hlaE <| And.intro hlI <| And.intro hwl <| And.intro ho1 <| hzb
        have c1 := hvp
        refine k_run ?_
        repeat ((first | refine wSc (id := 13) qsXa0 mixed ?_ | refine wSc (id := 14) qsXa1 mixed ?_); refine k_rund ?_; refine k_run ?_)
        clear fx c1
        refine e_ret [(.c (.s 4) 0 0, root)] (.one rfl) (by simp [h2]; rfl) ⟨p, by simp [hno], ⟨?_, fun j r hj => ?_, fun j r hj => ?_⟩, by simp [hno]⟩
        · simp [ho1, pRows_tr (n := .c (.s 4) 0 0) (m := root) (f := finf noD [(.c (.s 4) 0 0, root)]) (p := p) (by simp)]
        · simp [ho2 j r hj]
        · simp [ho3 j r hj]
      · have hyes : RC = some p := by rw [hPT]; simp [hv, hz]
        rw [hv] at hvp
        have fx := And.intro h2 <| And.intro hp2 <| And.intro hp2' <| And.intro h4 <| And.intro hp4 <| And.intro h5 <| And.intro h6 <| And.intro hw1 <| And.intro hnlt <| And.intro hla <| And.intro hlaE <| And.intro hlI <| And.intro hwl <| And.intro ho1 <| hzb
        have c1 := hvp
        refine k_run ?_
        repeat ((first | refine wSc (id := 13) qsXa0 mixed ?_ | refine wSc (id := 14) qsXa1 mixed ?_); refine k_rund ?_; refine k_run ?_)
        clear fx c1
        refine e_ret [(.c (.s 4) 0 0, root)] (.one rfl) (by simp [h2]; rfl) ⟨p, by simp [hyes], ⟨?_, fun j r hj => ?_, fun j r hj => ?_⟩, by simp [hyes]⟩
        · simp [ho1, pRows_tr (n := .c (.s 4) 0 0) (m := root) (f := finf noD [(.c (.s 4) 0 0, root)]) (p := p) (by simp)]
        · simp [ho2 j r hj]
        · simp [ho3 j r hj]
    · have hzb : (z == []) = false := by simpa using hz
      have hno : RC = none := by rw [hPT]; simp [hz]
      have fx := And.intro h2 <| And.intro hp2 <| And.intro hp2' <| And.intro h4 <| And.intro hp4 <| And.intro h5 <| And.intro h6 <| And.intro hw1 <| And.intro hnlt <| And.intro hla <| And.intro hlaE <| And.intro hlI <| And.intro hwl <| And.intro ho1 <| hzb
      refine k_run ?_
      repeat ((first | refine wSc (id := 13) qsXa0 mixed ?_ | refine wSc (id := 14) qsXa1 mixed ?_); refine k_rund ?_; refine k_run ?_)
      clear fx
      refine e_ret [(.c (.s 4) 0 0, root)] (.one rfl) (by simp [h2]; rfl) ⟨p, by simp [hno], ⟨?_, fun j r hj => ?_, fun j r hj => ?_⟩, by simp [hno]⟩
      · simp [ho1, pRows_tr (n := .c (.s 4) 0 0) (m := root) (f := finf noD [(.c (.s 4) 0 0, root)]) (p := p) (by simp)]
      · simp [ho2 j r hj]
      · simp [ho3 j r hj]
theorem spec_ParseProgram_fn (gl) (s : Txt) (hs : s.length ≤ 1048576) : FnOk Tryz.prog gl 9 [tx s] (fun r y H' => ∃ p : Prg, y = .tup [.agg [.hs r 4 0 p.length], bv (parseT s).isSome] ∧ OwnP H' r p ∧ p = (parseT s).getD []) := by
  have hsa := spec_parse_fn gl s hs
  refine FnOk.of_sem Tryz.func9 rfl (by kernel_rfl) (rs := [.cell 2 24, .tmp 3]) rfl Tryz.ntmps9 (Nat.le_of_ble_eq_true rfl) fun C w g root => ?_
  cases e : parseT s with
  | none =>
    rw [e] at hsa
    have fx := fx0
    have e1 := hsa
    refine k_run ?_
    clear fx e1
    rintro K hK y H1 ⟨p, rfl, hO, hpq⟩
    obtain ⟨ho1, ho2, ho3⟩ := hO.hcln
    refine ⟨by simp, ?_⟩
    have fx :=  ho1
    refine k_run ?_
    clear fx
    refine e_ret [(.c (.s 2) 0 0, root)] (.one rfl) (by simp; rfl) ⟨[], by simp, ⟨by simp, fun j r hj => by simp at hj, fun j r hj => by simp at hj⟩, rfl⟩
  | some q =>
    rw [e] at hsa
    have fx := fx0
    have e1 := hsa
    refine k_run ?_
    clear fx e1
    rintro K hK y H1 ⟨p, rfl, hO, hpq⟩
    obtain rfl := hpq q rfl
    obtain ⟨ho1, ho2, ho3⟩ := hO.hcln
    refine ⟨by simp, ?_⟩
    have fx :=  ho1
    refine k_run ?_
    clear fx
    refine e_ret [(.c (.s 4) 0 0, root)] (.one rfl) (by simp; rfl) ⟨p, by simp, ⟨?_, fun j r hj => ?_, fun j r hj => ?_⟩, rfl⟩
    · simp [ho1, pRows_tr (n := .c (.s 4) 0 0) (m := root) (f := finf noD [(.c (.s 4) 0 0, root)]) (p := p) (by simp)]
    · simp [ho2 j r hj]
    · simp [ho3 j r hj]
end Go.Proofs.YtmaoicgfcngciaaGreatDoor
end
section
namespace Go.Proofs.YtmaoicgfcngciaaGreatDoor
open Go Go.Hm Go.Proofs
theorem progOk_sml {p : Prg} (h : progOk p = true) : Sml p := by
  simp only [progOk, Bool.and_eq_true] at h
  obtain ⟨h1, h2, h3, h4, _⟩ := shapeOk_heads h.1
  have key : ∀ (i : Nat) k, p[i]? = some k → HeadOk i k ∧ k.body.length ≤ 12 ∧ k.body.all (StmOk p i k) = true := fun i k hk =>
    blkOk_head hk (List.all_eq_true.1 h4 i (List.mem_range.2 (gS hk).1))
  refine ⟨by omega, fun k hk => ?_, fun k hk => ?_⟩
  all_goals
    obtain ⟨i, hi⟩ := List.getElem?_of_mem hk
    obtain ⟨h0, hb, _⟩ := key i k hi
  · unfold HeadOk at h0
    split at h0
    · obtain ⟨_, _, h⟩ := h0; omega
    · obtain ⟨_, _, _, h, _⟩ := h0; omega
  · omega
theorem parseT_sml {s : Txt} : Sml ((parseT s).getD []) := by
  cases h : parseT s with
  | none => exact ⟨by simp, by simp, by simp⟩
  | some p =>
    refine progOk_sml ?_
    unfold parseT at h
    split at h
    · split at h
      · rename_i h2
        obtain rfl := Option.some.inj h
        exact h2.2
      · cases h
    · cases h
end Go.Proofs.YtmaoicgfcngciaaGreatDoor
end
section
namespace Go.Proofs.YtmaoicgfcngciaaGreatDoor
open Go Go.Hm Go.Proofs
def formAV (s : Stm) : AV :=
  if s.kind = 0 then .ifc 201 (.agg [iv s.a]) else if s.kind = 1 then .ifc 203 (.agg [iv s.a]) else if s.kind = 2 then .ifc 205 (.agg [iv s.a, iv s.b])
  else if s.kind = 3 then .ifc 148 (.agg [iv 1, iv s.a]) else if s.kind = 4 then .ifc 148 (.agg [iv 2, iv s.a]) else if s.kind = 5 then .ifc 207 (.agg [iv s.a, iv s.b])
  else if s.kind = 6 then .ifc 209 (.agg [iv s.a, iv s.b]) else if s.kind = 7 then .ifc 211 (.agg [iv s.a]) else if s.kind = 8 then .ifc 212 (.agg [iv s.a])
  else if s.kind = 9 ∨ s.kind = 10 then .ifc 213 (.agg []) else if s.kind = 11 then .ifc 214 (.agg []) else .sc .nilIface
@[simp] theorem formAV_cln (s : Stm) : (formAV s).cln = true := by
  unfold formAV
  repeat' split
  all_goals simp
section
variable {n : Int} {to a b : Int}
@[simp] theorem formAV_0 : formAV ⟨0, to, a, b⟩ = .ifc 201 (.agg [iv a]) := by simp [formAV]
@[simp] theorem formAV_1 : formAV ⟨1, to, a, b⟩ = .ifc 203 (.agg [iv a]) := by simp [formAV]
@[simp] theorem formAV_2 : formAV ⟨2, to, a, b⟩ = .ifc 205 (.agg [iv a, iv b]) := by simp [formAV]
@[simp] theorem formAV_3 : formAV ⟨3, to, a, b⟩ = .ifc 148 (.agg [iv 1, iv a]) := by simp [formAV]
@[simp] theorem formAV_4 : formAV ⟨4, to, a, b⟩ = .ifc 148 (.agg [iv 2, iv a]) := by simp [formAV]
@[simp] theorem formAV_5 : formAV ⟨5, to, a, b⟩ = .ifc 207 (.agg [iv a, iv b]) := by simp [formAV]
@[simp] theorem formAV_6 : formAV ⟨6, to, a, b⟩ = .ifc 209 (.agg [iv a, iv b]) := by simp [formAV]
@[simp] theorem formAV_7 : formAV ⟨7, to, a, b⟩ = .ifc 211 (.agg [iv a]) := by simp [formAV]
@[simp] theorem formAV_8 : formAV ⟨8, to, a, b⟩ = .ifc 212 (.agg [iv a]) := by simp [formAV]
@[simp] theorem formAV_9 : formAV ⟨9, to, a, b⟩ = .ifc 213 (.agg []) := by simp [formAV]
@[simp] theorem formAV_10 : formAV ⟨10, to, a, b⟩ = .ifc 213 (.agg []) := by simp [formAV]
@[simp] theorem formAV_11 : formAV ⟨11, to, a, b⟩ = .ifc 214 (.agg []) := by simp [formAV]
theorem formAV_no {s : Stm} (h : ¬ (0 ≤ s.kind ∧ s.kind ≤ 11)) : formAV s = .sc .nilIface := by
  unfold formAV
  repeat' split
  all_goals first | rfl | omega
theorem kind_cases (n : Int) : n = 0 ∨ n = 1 ∨ n = 2 ∨ n = 3 ∨ n = 4 ∨ n = 5 ∨ n = 6 ∨ n = 7 ∨ n = 8 ∨ n = 9 ∨ n = 10 ∨ n = 11 ∨ ¬ (0 ≤ n ∧ n ≤ 11) := by omega
end
theorem formOf_fn (gl) (s : Stm) : FnOk Tryz.prog gl 105 [s.av] (fun _ x _ => x = formAV s) := by
  refine FnOk.of_sem Tryz.func105 rfl (by kernel_rfl) (rs := [.tmp 2]) rfl Tryz.ntmps105 (Nat.le_of_ble_eq_true rfl) fun C w g root => ?_
  all_goals have fx := fx0
  repeat' (first
   | refine w_seq ?_ | refine w_block ?_ | refine w_skip ?_ | refine w_reg fun K hK => ?_
   | ((with_reducible refine s_end hK ?_); clear hK K)
   | (with_reducible first | refine then_normal ?_ | refine then_ret ?_ | refine in_ret ?_)
   | refine w_ret ?_
   | (with_reducible first | refine s_none ?_ | refine x_assign (h := ?_) | refine x_box (h := ?_))
   | (with_reducible refine x_q (h := ?_))
   | refine x_condt (h1 := ?_)
   | refine x_if (h1 := fun ht => ?_) (h2 := fun ht => ?_)
   | fail)
  all_goals try clear fx
  all_goals refine e_ret [] .nil (by simp; rfl) ?_
  all_goals simp_all [formAV]
theorem binds_fn (gl) (s : Stm) : FnOk Tryz.prog gl 154 [s.av] (fun _ x _ => x = bv (decide (s.sets ∨ s.kind = 11))) := by
  obtain ⟨n, to, a, b⟩ := s
  refine FnOk.of_sem Tryz.func154 rfl (by kernel_rfl) (rs := [.tmp 2]) rfl Tryz.ntmps154 (Nat.le_of_ble_eq_true rfl) fun C w g root => ?_
  rcases kind_cases n with rfl | rfl | rfl | rfl | rfl | rfl | rfl | rfl | rfl | rfl | rfl | rfl | hn
  case inr.inr.inr.inr.inr.inr.inr.inr.inr.inr.inr.inr =>
    have hf : formAV ⟨n, to, a, b⟩ = .sc .nilIface := formAV_no hn
    have fx :=  hf
    have c1 := formOf_fn gl ⟨n, to, a, b⟩
    refine k_run ?_
    clear fx c1
    refine e_ret [] .nil (by simp; rfl) ?_
    have h1 : ¬ (0 ≤ n ∧ n ≤ 6 ∨ n = 11) := by omega
    simp [h1]
  all_goals
    all_goals have fx := fx0
    repeat' (first
     | refine w_seq ?_ | refine w_block ?_ | refine w_skip ?_ | refine w_reg fun K hK => ?_
     | ((with_reducible refine s_end hK ?_); clear hK K)
     | (with_reducible first | refine then_normal ?_ | refine in_normal ?_ | refine then_ret ?_ | refine in_ret ?_)
     | refine w_ret ?_
     | (with_reducible first | refine s_none ?_ | refine x_assign (h := ?_) | refine x_box (h := ?_))
     | ((with_reducible refine o_id 105 rfl ?_); refine x_call (hF := formOf_fn _ ⟨_, to, a, b⟩) (h := ?_))
     | (with_reducible refine x_q (h := ?_))
     | refine x_condt (h1 := ?_) | refine x_condf (h1 := ?_)
     | fail)
    all_goals try clear fx
  all_goals refine e_ret [] .nil (by simp; rfl) ?_
  all_goals simp
theorem impl_isBlock_fn (gl) (p : Prg) (b : Int) : FnOk Tryz.prog gl 63 [pav p, iv b] (fun _ x _ => x = bv (decide (0 ≤ b ∧ b < p.length))) := by
  refine FnOk.of_sem Tryz.func63 rfl (by kernel_rfl) (rs := [.tmp 4]) rfl Tryz.ntmps63 (Nat.le_of_ble_eq_true rfl) fun C w g root => ?_
  all_goals have fx := fx0
  repeat' (first
   | refine w_seq ?_ | refine w_reg fun K hK => ?_
   | ((with_reducible refine s_end hK ?_); clear hK K)
   | (with_reducible first | refine then_normal ?_)
   | refine w_ret ?_
   | (with_reducible refine s_none ?_)
   | ((with_reducible refine g_id ?_); refine x_guard (h := ?_))
   | (with_reducible first | refine gx_tt ?_ | refine x_tf (h := ?_) | refine x_assign (h := ?_) | refine x_box (h := ?_))
   | (with_reducible refine x_q (h := ?_))
   | (with_reducible refine gx_s (fun ht => ?_) (fun ht => ?_))
   | fail)
  all_goals try clear fx
  all_goals refine e_ret [] .nil (by simp; rfl) ?_
  all_goals simp_all
  all_goals omega
theorem fitsHead_fn (gl) (i : Nat) (k : Blk) : FnOk Tryz.prog gl 103 [iv i, k.av] (fun _ x _ => x = bv (headOk i k)) := by
  obtain ⟨kind, parent, params, body⟩ := k
  refine FnOk.of_sem Tryz.func103 rfl (by kernel_rfl) (rs := [.tmp 4]) rfl Tryz.ntmps103 (Nat.le_of_ble_eq_true rfl) fun C w g root => ?_
  rcases params with _ | ⟨x, _ | ⟨y, l⟩⟩
  · skip
    all_goals have fx := fx0
    repeat' (first
     | refine w_seq ?_ | refine w_block ?_ | refine w_skip ?_ | refine w_reg fun K hK => ?_
     | ((with_reducible refine s_end hK ?_); clear hK K)
     | (with_reducible first | refine then_normal ?_ | refine then_ret ?_ | refine in_ret ?_)
     | refine w_ret ?_
     | (with_reducible refine s_none ?_)
     | ((with_reducible refine g_id ?_); refine x_guard (h := ?_))
     | (with_reducible first | refine gx_tt ?_ | refine gx_ff ?_ | refine x_tf (h := ?_) | refine x_ft (h := ?_) | refine x_u (h := ?_) | refine x_assign (h := ?_) | refine x_box (h := ?_))
     | (with_reducible refine x_q (h := ?_))
     | (with_reducible refine gx_s (fun ht => ?_) (fun ht => ?_))
     | refine x_condt (h1 := ?_)
     | refine x_if (h1 := fun ht => ?_) (h2 := fun ht => ?_)
     | fail)
    all_goals try clear fx
    all_goals refine e_ret [] .nil (by simp; rfl) ?_
    all_goals simp_all [headOk, HeadOk]
    all_goals grind
  · skip
    all_goals have fx := fx0
    repeat' (first
     | refine w_seq ?_ | refine w_block ?_ | refine w_skip ?_ | refine w_reg fun K hK => ?_
     | ((with_reducible refine s_end hK ?_); clear hK K)
     | (with_reducible first | refine then_normal ?_ | refine then_ret ?_ | refine in_ret ?_)
     | refine w_ret ?_
     | (with_reducible refine s_none ?_)
     | ((with_reducible refine g_id ?_); refine x_guard (h := ?_))
     | (with_reducible first | refine gx_tt ?_ | refine gx_ff ?_ | refine x_tf (h := ?_) | refine x_ft (h := ?_) | refine x_assign (h := ?_) | refine x_box (h := ?_))
     | ((with_reducible refine o_id 153 rfl ?_); refine x_call (hF := impl_isName_fn _ x) (h := ?_))
     | (with_reducible refine x_q (h := ?_))
     | (with_reducible refine gx_s (fun ht => ?_) (fun ht => ?_))
     | refine x_condt (h1 := ?_)
     | refine x_if (h1 := fun ht => ?_) (h2 := fun ht => ?_)
     | fail)
    all_goals try clear fx
    all_goals refine e_ret [] .nil (by simp; rfl) ?_
    all_goals simp_all [headOk, HeadOk]
    all_goals grind
  · have h1 : ((l.length : Int) + 1 + 1 == 1) = false := by simp; omega
    have h0 : ((l.length : Int) + 1 + 1 == 0) = false := by simp; omega
    all_goals have fx := And.intro h0 <| h1
    repeat' (first
     | refine w_seq ?_ | refine w_block ?_ | refine w_skip ?_ | refine w_reg fun K hK => ?_
     | ((with_reducible refine s_end hK ?_); clear hK K)
     | (with_reducible first | refine then_normal ?_ | refine then_ret ?_ | refine in_ret ?_)
     | refine w_ret ?_
     | (with_reducible refine s_none ?_)
     | ((with_reducible refine g_id ?_); refine x_guard (h := ?_))
     | (with_reducible first | refine gx_tt ?_ | refine gx_ff ?_ | refine x_tf (h := ?_) | refine x_ft (h := ?_) | refine x_assign (h := ?_) | refine x_box (h := ?_))
     | (with_reducible refine x_q (h := ?_))
     | (with_reducible refine gx_s (fun ht => ?_) (fun ht => ?_))
     | refine x_condt (h1 := ?_)
     | refine x_if (h1 := fun ht => ?_) (h2 := fun ht => ?_)
     | fail)
    all_goals try clear fx
    all_goals refine e_ret [] .nil (by simp; rfl) ?_
    all_goals simp_all [headOk, HeadOk]
    all_goals grind
end Go.Proofs.YtmaoicgfcngciaaGreatDoor
end
