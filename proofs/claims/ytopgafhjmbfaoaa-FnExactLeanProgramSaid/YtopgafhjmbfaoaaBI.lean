/-
  Own texts, joined by merge.py: He.
-/
import Derived.Test.YtopgafhjmbfaoaaBH
import Derived.Test.YtopgafhjmbfaoaaA5

section
/-
  The program's functions on the names of blocks: what they return.
-/
set_option maxRecDepth 100000
set_option maxHeartbeats 1000000
set_option linter.unusedSimpArgs false
namespace Go.Proofs.Ytopgafhjmbfaoaa
open Go Go.Hm Go.Proofs

theorem num_reads (gl) (a : Int) : FnOk Try.prog gl 150 [.agg [iv a]] (fun r y H' => y = .hs r 1 0 0 ∧ H' r = some (.row 1 [])) := by
  refine FnOk.of_sem Try.func150 rfl (by kernel_rfl) (rs := [.tmp 2]) rfl Try.ntmps150 (Nat.le_of_ble_eq_true rfl) fun C w g root => ?_
  all_goals have fx := fx0
  repeat' (first
   | refine w_seq ?_ | refine w_reg fun K hK => ?_
   | ((with_reducible refine s_end hK ?_); clear hK K)
   | (with_reducible first | refine then_normal ?_ | refine then_ret ?_)
   | refine w_ret ?_
   | (with_reducible first | refine s_none ?_ | refine x_assign (h := ?_) | refine x_box (h := ?_))
   | (with_reducible refine x_q (h := ?_))
   | fail)
  all_goals try clear fx
  exact e_list (t := 2) (by first | (simp []; done) | (simp []; rfl)) (by first | (simp []; done) | (simp []; rfl)) (by simp)
theorem copy_reads (gl) (a : Int) : FnOk Try.prog gl 143 [.agg [iv a]] (fun r y H' => y = .hs r 1 0 1 ∧ H' r = some (.row 1 [[iv a]])) := by
  refine FnOk.of_sem Try.func143 rfl (by kernel_rfl) (rs := [.tmp 2]) rfl Try.ntmps143 (Nat.le_of_ble_eq_true rfl) fun C w g root => ?_
  all_goals have fx := fx0
  repeat' (first
   | refine w_seq ?_ | refine w_reg fun K hK => ?_
   | ((with_reducible refine s_end hK ?_); clear hK K)
   | (with_reducible first | refine then_normal ?_ | refine then_ret ?_)
   | refine w_ret ?_
   | (with_reducible first | refine s_none ?_ | refine x_assign (h := ?_) | refine x_box (h := ?_) | refine x_build (h := ?_))
   | (with_reducible refine x_q (h := ?_))
   | fail)
  all_goals try clear fx
  exact e_list (t := 2) (by first | (simp []; done) | (simp []; rfl)) (by first | (simp []; done) | (simp []; rfl)) (by simp)
theorem add_reads (gl) (a b : Int) : FnOk Try.prog gl 145 [.agg [iv a, iv b]] (fun r y H' => y = .hs r 1 0 2 ∧ H' r = some (.row 1 [[iv a], [iv b]])) := by
  refine FnOk.of_sem Try.func145 rfl (by kernel_rfl) (rs := [.tmp 2]) rfl Try.ntmps145 (Nat.le_of_ble_eq_true rfl) fun C w g root => ?_
  all_goals have fx := fx0
  repeat' (first
   | refine w_seq ?_ | refine w_reg fun K hK => ?_
   | ((with_reducible refine s_end hK ?_); clear hK K)
   | (with_reducible first | refine then_normal ?_ | refine then_ret ?_)
   | refine w_ret ?_
   | (with_reducible first | refine s_none ?_ | refine x_assign (h := ?_) | refine x_box (h := ?_) | refine x_build (h := ?_))
   | (with_reducible refine x_q (h := ?_))
   | fail)
  all_goals try clear fx
  exact e_list (t := 2) (by first | (simp []; done) | (simp []; rfl)) (by first | (simp []; done) | (simp []; rfl)) (by simp)
theorem make_reads (gl) (a b : Int) : FnOk Try.prog gl 149 [.agg [iv a, iv b]] (fun r y H' => y = .hs r 1 0 0 ∧ H' r = some (.row 1 [])) := by
  refine FnOk.of_sem Try.func149 rfl (by kernel_rfl) (rs := [.tmp 2]) rfl Try.ntmps149 (Nat.le_of_ble_eq_true rfl) fun C w g root => ?_
  all_goals have fx := fx0
  repeat' (first
   | refine w_seq ?_ | refine w_reg fun K hK => ?_
   | ((with_reducible refine s_end hK ?_); clear hK K)
   | (with_reducible first | refine then_normal ?_ | refine then_ret ?_)
   | refine w_ret ?_
   | (with_reducible first | refine s_none ?_ | refine x_assign (h := ?_) | refine x_box (h := ?_))
   | (with_reducible refine x_q (h := ?_))
   | fail)
  all_goals try clear fx
  exact e_list (t := 2) (by first | (simp []; done) | (simp []; rfl)) (by first | (simp []; done) | (simp []; rfl)) (by simp)
theorem call_reads (gl) (a b : Int) : FnOk Try.prog gl 146 [.agg [iv a, iv b]] (fun r y H' => y = .hs r 1 0 (if b = -1 then [a] else [a, b]).length ∧ H' r = some (.row 1 (irows (if b = -1 then [a] else [a, b])))) := by
  refine FnOk.of_sem Try.func146 rfl (by kernel_rfl) (rs := [.tmp 2]) rfl Try.ntmps146 (Nat.le_of_ble_eq_true rfl) fun C w g root => ?_
  by_cases hb : b = -1
  · subst hb
    all_goals have fx := fx0
    repeat' (first
     | refine w_seq ?_ | refine w_skip ?_ | refine w_reg fun K hK => ?_
     | ((with_reducible refine s_end hK ?_); clear hK K)
     | (with_reducible first | refine then_normal ?_ | refine then_ret ?_)
     | refine w_ret ?_
     | (with_reducible first | refine s_none ?_ | refine x_assign (h := ?_) | refine x_box (h := ?_) | refine x_build (h := ?_))
     | (with_reducible refine x_q (h := ?_))
     | refine x_condt (h1 := ?_) | refine x_condf (h1 := ?_)
     | fail)
    all_goals try clear fx
    exact e_list (t := 2) (by first | (simp []; done) | (simp []; rfl)) (by first | (simp []; done) | (simp []; rfl)) (by simp)
  · have h1 : (b == -1) = false := by simp [hb]
    rw [if_neg hb]
    all_goals have fx :=  h1
    repeat' (first
     | refine w_seq ?_ | refine w_skip ?_ | refine w_reg fun K hK => ?_
     | ((with_reducible refine s_end hK ?_); clear hK K)
     | (with_reducible first | refine then_normal ?_ | refine then_ret ?_)
     | refine w_ret ?_
     | (with_reducible first | refine s_none ?_ | refine x_assign (h := ?_) | refine x_box (h := ?_) | refine x_build (h := ?_))
     | (with_reducible refine x_q (h := ?_))
     | refine x_condt (h1 := ?_) | refine x_condf (h1 := ?_)
     | fail)
    all_goals try clear fx
    exact e_list (t := 2) (by first | (simp []; done) | (simp []; rfl)) (by first | (simp []; done) | (simp []; rfl)) (by simp)
theorem get_reads (gl) (a b : Int) : FnOk Try.prog gl 144 [.agg [iv a, iv b]] (fun r y H' => y = .hs r 1 0 1 ∧ H' r = some (.row 1 [[iv a]])) := by
  refine FnOk.of_sem Try.func144 rfl (by kernel_rfl) (rs := [.tmp 2]) rfl Try.ntmps144 (Nat.le_of_ble_eq_true rfl) fun C w g root => ?_
  all_goals have fx := fx0
  repeat' (first
   | refine w_seq ?_ | refine w_reg fun K hK => ?_
   | ((with_reducible refine s_end hK ?_); clear hK K)
   | (with_reducible first | refine then_normal ?_ | refine then_ret ?_)
   | refine w_ret ?_
   | (with_reducible first | refine s_none ?_ | refine x_assign (h := ?_) | refine x_box (h := ?_) | refine x_build (h := ?_))
   | (with_reducible refine x_q (h := ?_))
   | fail)
  all_goals try clear fx
  exact e_list (t := 2) (by first | (simp []; done) | (simp []; rfl)) (by first | (simp []; done) | (simp []; rfl)) (by simp)
theorem print_reads (gl) (a : Int) : FnOk Try.prog gl 147 [.agg [iv a]] (fun r y H' => y = .hs r 1 0 1 ∧ H' r = some (.row 1 [[iv a]])) := by
  refine FnOk.of_sem Try.func147 rfl (by kernel_rfl) (rs := [.tmp 2]) rfl Try.ntmps147 (Nat.le_of_ble_eq_true rfl) fun C w g root => ?_
  all_goals have fx := fx0
  repeat' (first
   | refine w_seq ?_ | refine w_reg fun K hK => ?_
   | ((with_reducible refine s_end hK ?_); clear hK K)
   | (with_reducible first | refine then_normal ?_ | refine then_ret ?_)
   | refine w_ret ?_
   | (with_reducible first | refine s_none ?_ | refine x_assign (h := ?_) | refine x_box (h := ?_) | refine x_build (h := ?_))
   | (with_reducible refine x_q (h := ?_))
   | fail)
  all_goals try clear fx
  exact e_list (t := 2) (by first | (simp []; done) | (simp []; rfl)) (by first | (simp []; done) | (simp []; rfl)) (by simp)
theorem return_reads (gl) (a : Int) : FnOk Try.prog gl 148 [.agg [iv a]] (fun r y H' => y = .hs r 1 0 1 ∧ H' r = some (.row 1 [[iv a]])) := by
  refine FnOk.of_sem Try.func148 rfl (by kernel_rfl) (rs := [.tmp 2]) rfl Try.ntmps148 (Nat.le_of_ble_eq_true rfl) fun C w g root => ?_
  all_goals have fx := fx0
  repeat' (first
   | refine w_seq ?_ | refine w_reg fun K hK => ?_
   | ((with_reducible refine s_end hK ?_); clear hK K)
   | (with_reducible first | refine then_normal ?_ | refine then_ret ?_)
   | refine w_ret ?_
   | (with_reducible first | refine s_none ?_ | refine x_assign (h := ?_) | refine x_box (h := ?_) | refine x_build (h := ?_))
   | (with_reducible refine x_q (h := ?_))
   | fail)
  all_goals try clear fx
  exact e_list (t := 2) (by first | (simp []; done) | (simp []; rfl)) (by first | (simp []; done) | (simp []; rfl)) (by simp)
theorem declare_reads (gl) : FnOk Try.prog gl 151 [.agg []] (fun r y H' => y = .hs r 1 0 0 ∧ H' r = some (.row 1 [])) := by
  refine FnOk.of_sem Try.func151 rfl (by kernel_rfl) (rs := [.tmp 2]) rfl Try.ntmps151 (Nat.le_of_ble_eq_true rfl) fun C w g root => ?_
  all_goals have fx := fx0
  repeat' (first
   | refine w_seq ?_ | refine w_reg fun K hK => ?_
   | ((with_reducible refine s_end hK ?_); clear hK K)
   | (with_reducible first | refine then_normal ?_ | refine then_ret ?_)
   | refine w_ret ?_
   | (with_reducible first | refine s_none ?_ | refine x_assign (h := ?_) | refine x_box (h := ?_))
   | (with_reducible refine x_q (h := ?_))
   | fail)
  all_goals try clear fx
  exact e_list (t := 2) (by first | (simp []; done) | (simp []; rfl)) (by first | (simp []; done) | (simp []; rfl)) (by simp)
theorem drop_reads (gl) : FnOk Try.prog gl 152 [.agg []] (fun r y H' => y = .hs r 1 0 0 ∧ H' r = some (.row 1 [])) := by
  refine FnOk.of_sem Try.func152 rfl (by kernel_rfl) (rs := [.tmp 2]) rfl Try.ntmps152 (Nat.le_of_ble_eq_true rfl) fun C w g root => ?_
  all_goals have fx := fx0
  repeat' (first
   | refine w_seq ?_ | refine w_reg fun K hK => ?_
   | ((with_reducible refine s_end hK ?_); clear hK K)
   | (with_reducible first | refine then_normal ?_ | refine then_ret ?_)
   | refine w_ret ?_
   | (with_reducible first | refine s_none ?_ | refine x_assign (h := ?_) | refine x_box (h := ?_))
   | (with_reducible refine x_q (h := ?_))
   | fail)
  all_goals try clear fx
  exact e_list (t := 2) (by first | (simp []; done) | (simp []; rfl)) (by first | (simp []; done) | (simp []; rfl)) (by simp)
noncomputable def readsTab (nm : String) : Bool := decide (mtab Try.prog 137 nm = some 150) && decide (mtab Try.prog 110 nm = some 143) && decide (mtab Try.prog 114 nm = some 145) && decide (mtab Try.prog 126 nm = some 149) && decide (mtab Try.prog 116 nm = some 146) && decide (mtab Try.prog 112 nm = some 144) && decide (mtab Try.prog 118 nm = some 147) && decide (mtab Try.prog 119 nm = some 148) && decide (mtab Try.prog 139 nm = some 151) && decide (mtab Try.prog 140 nm = some 152)
theorem reads_inv (gl) {nm : String} (hm : readsTab nm = true) (s : Stm) (h : 0 ≤ s.kind ∧ s.kind ≤ 11) : InvOk Try.prog gl nm (formAV s) (fun r y H' => y = .hs r 1 0 s.reads.length ∧ H' r = some (.row 1 (irows s.reads))) := by
  simp only [readsTab, Bool.and_eq_true, decide_eq_true_eq] at hm
  obtain ⟨⟨⟨⟨⟨⟨⟨⟨⟨m_num, m_copy⟩, m_add⟩, m_make⟩, m_call⟩, m_get⟩, m_print⟩, m_return⟩, m_declare⟩, m_drop⟩ := hm
  obtain ⟨n, to, a, b⟩ := s
  rcases kind_cases n with rfl | rfl | rfl | rfl | rfl | rfl | rfl | rfl | rfl | rfl | rfl | rfl | hn
  case inr.inr.inr.inr.inr.inr.inr.inr.inr.inr.inr.inr => exact absurd h hn
  · exact ⟨_, _, _, formAV_0, m_num, num_reads _ _⟩
  · exact ⟨_, _, _, formAV_1, m_copy, copy_reads _ _⟩
  · exact ⟨_, _, _, formAV_2, m_add, add_reads _ _ _⟩
  · exact ⟨_, _, _, formAV_3, m_make, make_reads _ _ _⟩
  · exact ⟨_, _, _, formAV_4, m_make, make_reads _ _ _⟩
  · exact ⟨_, _, _, formAV_5, m_call, call_reads _ _ _⟩
  · exact ⟨_, _, _, formAV_6, m_get, get_reads _ _ _⟩
  · exact ⟨_, _, _, formAV_7, m_print, print_reads _ _⟩
  · exact ⟨_, _, _, formAV_8, m_return, return_reads _ _⟩
  · exact ⟨_, _, _, formAV_9, m_declare, declare_reads _⟩
  · exact ⟨_, _, _, formAV_10, m_declare, declare_reads _⟩
  · exact ⟨_, _, _, formAV_11, m_drop, drop_reads _⟩

theorem declaredSet_fn (gl) (k : Blk) (d : Int) (hn : NmOk k) (hs : BSm k) : FnOk Try.prog gl 78 [k.av, iv d] (fun _ y _ => y = .agg (bset (k.dc d))) := by
  have hbl := hs.body
  refine FnOk.of_sem Try.func78 rfl (by kernel_rfl) (rs := [.cell 4 82]) rfl Try.ntmps78 (Nat.le_of_ble_eq_true rfl) fun C w g root => ?_
  all_goals have fx := fx0
  repeat' (first
   | refine w_seq ?_ | refine w_block ?_ | refine w_skip ?_ | refine w_reg fun K hK => ?_
   | ((with_reducible refine s_end hK ?_); clear hK K)
   | (with_reducible first | refine then_normal ?_ | refine in_normal ?_ | refine then_exit ?_ | refine in_exit ?_ | refine then_ret ?_ | refine in_ret ?_ | refine in_other (by decide) ?_)
   | refine w_exit ?_
   | refine w_ret ?_
   | (with_reducible first | refine s_none ?_ | refine x_box (h := ?_) | refine x_alloc (h := ?_) | refine x_store0 (h := ?_))
   | (with_reducible refine x_q (h := ?_))
   | refine x_condt (h1 := ?_) | refine x_condf (h1 := ?_)
   | fail)
  all_goals try clear fx
  refine w_loop (fun n st => ∃ i : Nat, n = k.body.length - i ∧ i ≤ k.body.length ∧ st.tm 1 = iv d ∧ st.tm 4 = .pt (.s 4) 0 ∧ st.hp (.s 4) = some (.row 8 [bset []]) ∧ st.tm 5 = .pt (.s 5) 0 ∧ st.hp (.s 5) = some (.row 8 [bset (((k.body.take i).filter (fun s => decide (s.kind = d))).map Stm.to)]) ∧ st.tm 9 = ssl k.body ∧ st.tm 10 = iv k.body.length ∧ st.tm 11 = iv i) k.body.length ?_ ?_
  · exact ⟨0, by simp, by simp, by simp, by simp, by simp; rfl, by simp, by simp; rfl, by simp, by simp, by simp⟩
  rintro n st - - ⟨i, rfl, hi, h1, h4, hp4, h5, hp5, h9, h10, h11⟩
  all_goals have fx := And.intro h9 <| And.intro h10 <| h11
  repeat' (first
   | refine w_seq ?_ | refine w_block ?_ | refine w_skip ?_ | refine w_reg fun K hK => ?_
   | ((with_reducible refine s_end hK ?_); clear hK K)
   | (with_reducible first | refine then_normal ?_ | refine in_normal ?_ | refine then_exit ?_ | refine in_exit ?_ | refine then_ret ?_ | refine in_ret ?_ | refine in_other (by decide) ?_)
   | refine w_exit ?_
   | refine w_ret ?_
   | (with_reducible first | refine s_none ?_ | refine x_box (h := ?_) | refine x_alloc (h := ?_) | refine x_store0 (h := ?_))
   | (with_reducible refine x_q (h := ?_))
   | refine x_condt (h1 := ?_) | refine x_condf (h1 := ?_)
   | fail)
  all_goals try clear fx
  refine w_if (by simp []; first | done | rfl | exact (Bool.not_not _).symm) (fun ht => ?_) (fun hf => ?_)
  · have hlt : i < k.body.length := by simpa using ht
    obtain ⟨s, hsi⟩ : ∃ s, k.body[i]? = some s := ⟨_, List.getElem?_eq_getElem hlt⟩
    have hto := hn.tos s (List.mem_of_getElem? hsi)
    obtain ⟨x, hx⟩ : ∃ x : Nat, s.to = x := ⟨s.to.toNat, by omega⟩
    have hx8 : (x : Int) < 8 := by omega
    clear ht
    all_goals have fx := And.intro h9 <| And.intro h10 <| And.intro h11 <| And.intro hsi <| h1
    repeat' (first
     | refine w_seq ?_ | refine w_block ?_ | refine w_skip ?_ | refine w_reg fun K hK => ?_
     | ((with_reducible refine s_end hK ?_); clear hK K)
     | (with_reducible first | refine then_normal ?_ | refine in_normal ?_ | refine then_exit ?_ | refine in_exit ?_ | refine then_ret ?_ | refine in_ret ?_ | refine in_other (by decide) ?_)
     | refine w_exit ?_
     | refine w_ret ?_
     | (with_reducible first | refine s_none ?_ | refine x_box (h := ?_) | refine x_alloc (h := ?_) | refine x_store0 (h := ?_))
     | (with_reducible refine x_q (h := ?_))
     | refine x_condt (h1 := ?_) | refine x_condf (h1 := ?_)
     | fail)
    all_goals try clear fx
    refine w_if (by simp []; first | done | rfl | exact (Bool.not_not _).symm) (fun ht => ?_) (fun hf => ?_)
    · have hkd : s.kind = d := by simpa using ht
      all_goals have fx := And.intro h9 <| And.intro h10 <| And.intro h11 <| And.intro h5 <| And.intro hp5 <| And.intro hx <| hx8
      repeat' (first
       | refine w_seq ?_ | refine w_block ?_ | refine w_skip ?_ | refine w_reg fun K hK => ?_
       | ((with_reducible refine s_end hK ?_); clear hK K)
       | (with_reducible first | refine then_normal ?_ | refine in_normal ?_ | refine then_exit ?_ | refine in_exit ?_ | refine then_ret ?_ | refine in_ret ?_ | refine in_other (by decide) ?_)
       | refine w_exit ?_
       | refine w_ret ?_
       | (with_reducible first | refine s_none ?_ | refine x_box (h := ?_) | refine x_alloc (h := ?_) | refine x_store0 (h := ?_))
       | (with_reducible refine x_q (h := ?_))
       | refine x_condt (h1 := ?_) | refine x_condf (h1 := ?_)
       | fail)
      all_goals try clear fx
      refine ⟨k.body.length - (i + 1), by omega, i + 1, by simp, by omega, by simp [h1], by simp [h4], by simp [hp4], by simp [h5], ?_, by simp [h9], by simp [h10], by simp; exact wrp (by omega) (by omega)⟩
      rw [take_succ_filter hsi]
      simp [hkd, ← bset_add hx (by omega)]
    · have hkd : ¬ s.kind = d := by simpa using hf
      all_goals have fx := And.intro h9 <| And.intro h10 <| h11
      repeat' (first
       | refine w_seq ?_ | refine w_block ?_ | refine w_skip ?_ | refine w_reg fun K hK => ?_
       | ((with_reducible refine s_end hK ?_); clear hK K)
       | (with_reducible first | refine then_normal ?_ | refine in_normal ?_ | refine then_exit ?_ | refine in_exit ?_ | refine then_ret ?_ | refine in_ret ?_ | refine in_other (by decide) ?_)
       | refine w_exit ?_
       | refine w_ret ?_
       | (with_reducible first | refine s_none ?_ | refine x_box (h := ?_) | refine x_alloc (h := ?_) | refine x_store0 (h := ?_))
       | (with_reducible refine x_q (h := ?_))
       | refine x_condt (h1 := ?_) | refine x_condf (h1 := ?_)
       | fail)
      all_goals try clear fx
      refine ⟨k.body.length - (i + 1), by omega, i + 1, by simp, by omega, by simp [h1], by simp [h4], by simp [hp4], by simp [h5], ?_, by simp [h9], by simp [h10], by simp; exact wrp (by omega) (by omega)⟩
      rw [take_succ_filter hsi]
      simp [hkd, hp5]
  · have hge : i = k.body.length := by
      have : ¬ i < k.body.length := by simpa using hf
      omega
    subst hge
    rw [List.take_length] at hp5
    all_goals have fx := And.intro h4 <| And.intro hp4 <| And.intro h5 <| hp5
    repeat' (first
     | refine w_seq ?_ | refine w_block ?_ | refine w_skip ?_ | refine w_reg fun K hK => ?_
     | ((with_reducible refine s_end hK ?_); clear hK K)
     | (with_reducible first | refine then_normal ?_ | refine in_normal ?_ | refine then_exit ?_ | refine in_exit ?_ | refine then_ret ?_ | refine in_ret ?_ | refine in_other (by decide) ?_)
     | refine w_exit ?_
     | refine w_ret ?_
     | (with_reducible first | refine s_none ?_ | refine x_box (h := ?_) | refine x_alloc (h := ?_) | refine x_store0 (h := ?_))
     | (with_reducible refine x_q (h := ?_))
     | refine x_condt (h1 := ?_) | refine x_condf (h1 := ?_)
     | fail)
    all_goals try clear fx
    refine e_ret [] .nil (by simp [h4]; rfl) ?_
    simp [Blk.dc, bset_sorted, declAll]

theorem boundSet_fn (gl) (k : Blk) (hn : NmOk k) (hs : BSm k) : FnOk Try.prog gl 77 [k.av] (fun _ y _ => y = .agg (bset k.bd)) := by
  have hbl := hs.body
  have hpl := hs.params
  refine FnOk.of_sem Try.func77 rfl (by kernel_rfl) (rs := [.cell 2 82]) rfl Try.ntmps77 (Nat.le_of_ble_eq_true rfl) fun C w g root => ?_
  all_goals have fx := fx0
  repeat' (first
   | refine w_seq ?_ | refine w_block ?_ | refine w_skip ?_ | refine w_reg fun K hK => ?_
   | ((with_reducible refine s_end hK ?_); clear hK K)
   | (with_reducible first | refine then_normal ?_ | refine in_normal ?_ | refine then_exit ?_ | refine in_exit ?_ | refine then_ret ?_ | refine in_ret ?_ | refine in_other (by decide) ?_)
   | refine w_exit ?_
   | refine w_ret ?_
   | (with_reducible first | refine s_none ?_ | refine x_assign (h := ?_) | refine x_box (h := ?_) | refine x_alloc (h := ?_) | refine x_store0 (h := ?_))
   | (with_reducible refine x_q (h := ?_))
   | refine x_condt (h1 := ?_) | refine x_condf (h1 := ?_)
   | fail)
  all_goals try clear fx
  refine w_loop (fun n st => ∃ i : Nat, n = k.params.length - i ∧ i ≤ k.params.length ∧ st.tm 1 = .pt (.s 1) 0 ∧ st.hp (.s 1) = some (.row 4 [k.cells]) ∧ st.tm 2 = .pt (.s 2) 0 ∧ st.hp (.s 2) = some (.row 8 [bset []]) ∧ st.tm 3 = .pt (.s 3) 0 ∧ st.hp (.s 3) = some (.row 8 [bset (k.params.take i)]) ∧ st.tm 9 = isl k.params ∧ st.tm 10 = iv k.params.length ∧ st.tm 11 = iv i) k.params.length ?_ ?_
  · exact ⟨0, by simp, by simp, by simp, by simp, by simp, by simp; rfl, by simp, by simp; rfl, by simp, by simp, by simp⟩
  · rintro n st - - ⟨i, rfl, hi, h1, hp1, h2, hp2, h3, hp3, h9, h10, h11⟩
    all_goals have fx := And.intro h9 <| And.intro h10 <| h11
    repeat' (first
     | refine w_seq ?_ | refine w_block ?_ | refine w_skip ?_ | refine w_reg fun K hK => ?_
     | ((with_reducible refine s_end hK ?_); clear hK K)
     | (with_reducible first | refine then_normal ?_ | refine in_normal ?_ | refine then_exit ?_ | refine in_exit ?_ | refine then_ret ?_ | refine in_ret ?_ | refine in_other (by decide) ?_)
     | refine w_exit ?_
     | refine w_ret ?_
     | (with_reducible first | refine s_none ?_ | refine x_assign (h := ?_) | refine x_box (h := ?_) | refine x_alloc (h := ?_) | refine x_store0 (h := ?_))
     | (with_reducible refine x_q (h := ?_))
     | refine x_condt (h1 := ?_) | refine x_condf (h1 := ?_)
     | fail)
    all_goals try clear fx
    refine w_if (by simp []; first | done | rfl | exact (Bool.not_not _).symm) (fun ht => ?_) (fun hf => ?_)
    · have hlt : i < k.params.length := by simpa using ht
      obtain ⟨y, hy⟩ : ∃ y, k.params[i]? = some y := ⟨_, List.getElem?_eq_getElem hlt⟩
      have hto := hn.params y (List.mem_of_getElem? hy)
      obtain ⟨x, rfl⟩ : ∃ x : Nat, y = x := ⟨y.toNat, by omega⟩
      have hx8 : (x : Int) < 8 := by omega
      clear ht
      all_goals have fx := And.intro h9 <| And.intro h10 <| And.intro h11 <| And.intro hy <| And.intro h3 <| And.intro hp3 <| hx8
      repeat' (first
       | refine w_seq ?_ | refine w_block ?_ | refine w_skip ?_ | refine w_reg fun K hK => ?_
       | ((with_reducible refine s_end hK ?_); clear hK K)
       | (with_reducible first | refine then_normal ?_ | refine in_normal ?_ | refine then_exit ?_ | refine in_exit ?_ | refine then_ret ?_ | refine in_ret ?_ | refine in_other (by decide) ?_)
       | refine w_exit ?_
       | refine w_ret ?_
       | (with_reducible first | refine s_none ?_ | refine x_assign (h := ?_) | refine x_box (h := ?_) | refine x_alloc (h := ?_) | refine x_store0 (h := ?_))
       | (with_reducible refine x_q (h := ?_))
       | refine x_condt (h1 := ?_) | refine x_condf (h1 := ?_)
       | fail)
      all_goals try clear fx
      refine ⟨k.params.length - (i + 1), by omega, i + 1, by simp, by omega, by simp [h1], by simp [hp1], by simp [h2], by simp [hp2], by simp [h3], ?_, by simp [h9], by simp [h10], by simp; exact wrp (by omega) (by omega)⟩
      rw [List.take_add_one, hy]
      simp [← bset_add (y := (x : Int)) rfl (by omega : x < 8)]
    · have hge : i = k.params.length := by
        have : ¬ i < k.params.length := by simpa using hf
        omega
      subst hge
      rw [List.take_length] at hp3
      all_goals have fx := And.intro h1 <| hp1
      repeat' (first
       | refine w_seq ?_ | refine w_block ?_ | refine w_skip ?_ | refine w_reg fun K hK => ?_
       | ((with_reducible refine s_end hK ?_); clear hK K)
       | (with_reducible first | refine then_normal ?_ | refine in_normal ?_ | refine then_exit ?_ | refine in_exit ?_ | refine then_ret ?_ | refine in_ret ?_ | refine in_other (by decide) ?_)
       | refine w_exit ?_
       | refine w_ret ?_
       | (with_reducible first | refine s_none ?_ | refine x_assign (h := ?_) | refine x_box (h := ?_) | refine x_alloc (h := ?_) | refine x_store0 (h := ?_))
       | (with_reducible refine x_q (h := ?_))
       | refine x_condt (h1 := ?_) | refine x_condf (h1 := ?_)
       | fail)
      all_goals try clear fx
      refine w_loop (fun n st => ∃ i : Nat, n = k.body.length - i ∧ i ≤ k.body.length ∧ st.tm 2 = .pt (.s 2) 0 ∧ st.hp (.s 2) = some (.row 8 [bset []]) ∧ st.tm 3 = .pt (.s 3) 0 ∧ st.hp (.s 3) = some (.row 8 [bset (k.params ++ ((k.body.take i).filter (fun s => decide (s.sets ∨ s.kind = 11))).map Stm.to)]) ∧ st.tm 19 = ssl k.body ∧ st.tm 20 = iv k.body.length ∧ st.tm 21 = iv i) k.body.length ?_ ?_
      · exact ⟨0, by simp, by simp, by simp [h2], by simp [hp2], by simp [h3], by simp [hp3], by simp, by simp, by simp⟩
      clear h1 hp1 h2 hp2 h3 hp3 h9 h10 h11 hf hi
      rintro n st - - ⟨i, rfl, hi, h2, hp2, h3, hp3, h19, h20, h21⟩
      all_goals have fx := And.intro h19 <| And.intro h20 <| h21
      repeat' (first
       | refine w_seq ?_ | refine w_block ?_ | refine w_skip ?_ | refine w_reg fun K hK => ?_
       | ((with_reducible refine s_end hK ?_); clear hK K)
       | (with_reducible first | refine then_normal ?_ | refine in_normal ?_ | refine then_exit ?_ | refine in_exit ?_ | refine then_ret ?_ | refine in_ret ?_ | refine in_other (by decide) ?_)
       | refine w_exit ?_
       | refine w_ret ?_
       | (with_reducible first | refine s_none ?_ | refine x_assign (h := ?_) | refine x_box (h := ?_) | refine x_alloc (h := ?_) | refine x_store0 (h := ?_))
       | (with_reducible refine x_q (h := ?_))
       | refine x_condt (h1 := ?_) | refine x_condf (h1 := ?_)
       | fail)
      all_goals try clear fx
      refine w_if (by simp []; first | done | rfl | exact (Bool.not_not _).symm) (fun ht => ?_) (fun hf => ?_)
      · have hlt : i < k.body.length := by simpa using ht
        obtain ⟨s, hsi⟩ : ∃ s, k.body[i]? = some s := ⟨_, List.getElem?_eq_getElem hlt⟩
        have hto := hn.tos s (List.mem_of_getElem? hsi)
        obtain ⟨x, hx⟩ : ∃ x : Nat, s.to = x := ⟨s.to.toNat, by omega⟩
        have hx8 : (x : Int) < 8 := by omega
        clear ht
        all_goals have fx := And.intro h19 <| And.intro h20 <| And.intro h21 <| hsi
        repeat' (first
         | refine w_seq ?_ | refine w_block ?_ | refine w_skip ?_ | refine w_reg fun K hK => ?_
         | ((with_reducible refine s_end hK ?_); clear hK K)
         | (with_reducible first | refine then_normal ?_ | refine in_normal ?_ | refine then_exit ?_ | refine in_exit ?_ | refine then_ret ?_ | refine in_ret ?_ | refine in_other (by decide) ?_)
         | refine w_exit ?_
         | refine w_ret ?_
         | (with_reducible first | refine s_none ?_ | refine x_assign (h := ?_) | refine x_box (h := ?_) | refine x_alloc (h := ?_) | refine x_store0 (h := ?_))
         | ((with_reducible refine o_id 110 rfl ?_); refine x_call (hF := binds_fn _ s) (h := ?_))
         | (with_reducible refine x_q (h := ?_))
         | refine x_condt (h1 := ?_) | refine x_condf (h1 := ?_)
         | fail)
        all_goals try clear fx
        refine w_if (by simp []; first | done | rfl | exact (Bool.not_not _).symm) (fun ht => ?_) (fun hf => ?_)
        · skip
          all_goals have fx := And.intro h19 <| And.intro h20 <| And.intro h21 <| And.intro h3 <| And.intro hp3 <| And.intro hx <| hx8
          repeat' (first
           | refine w_seq ?_ | refine w_block ?_ | refine w_skip ?_ | refine w_reg fun K hK => ?_
           | ((with_reducible refine s_end hK ?_); clear hK K)
           | (with_reducible first | refine then_normal ?_ | refine in_normal ?_ | refine then_exit ?_ | refine in_exit ?_ | refine then_ret ?_ | refine in_ret ?_ | refine in_other (by decide) ?_)
           | refine w_exit ?_
           | refine w_ret ?_
           | (with_reducible first | refine s_none ?_ | refine x_assign (h := ?_) | refine x_box (h := ?_) | refine x_alloc (h := ?_) | refine x_store0 (h := ?_))
           | (with_reducible refine x_q (h := ?_))
           | refine x_condt (h1 := ?_) | refine x_condf (h1 := ?_)
           | fail)
          all_goals try clear fx
          refine ⟨k.body.length - (i + 1), by omega, i + 1, by simp, by omega, by simp [h2], by simp [hp2], by simp [h3], ?_, by simp [h19], by simp [h20], by simp; exact wrp (by omega) (by omega)⟩
          have hc : decide (s.sets ∨ s.kind = 11) = true := by simpa using ht
          have hadd := bset_add (l := k.params ++ ((k.body.take i).filter (fun s => decide (s.sets ∨ s.kind = 11))).map Stm.to) hx (by omega)
          rw [take_succ_filter hsi, if_pos hc, List.map_append]
          simp at hadd ⊢
          exact hadd
        · skip
          all_goals have fx := And.intro h19 <| And.intro h20 <| h21
          repeat' (first
           | refine w_seq ?_ | refine w_block ?_ | refine w_skip ?_ | refine w_reg fun K hK => ?_
           | ((with_reducible refine s_end hK ?_); clear hK K)
           | (with_reducible first | refine then_normal ?_ | refine in_normal ?_ | refine then_exit ?_ | refine in_exit ?_ | refine then_ret ?_ | refine in_ret ?_ | refine in_other (by decide) ?_)
           | refine w_exit ?_
           | refine w_ret ?_
           | (with_reducible first | refine s_none ?_ | refine x_assign (h := ?_) | refine x_box (h := ?_) | refine x_alloc (h := ?_) | refine x_store0 (h := ?_))
           | (with_reducible refine x_q (h := ?_))
           | refine x_condt (h1 := ?_) | refine x_condf (h1 := ?_)
           | fail)
          all_goals try clear fx
          refine ⟨k.body.length - (i + 1), by omega, i + 1, by simp, by omega, by simp [h2], by simp [hp2], by simp [h3], ?_, by simp [h19], by simp [h20], by simp; exact wrp (by omega) (by omega)⟩
          have hc : ¬ decide (s.sets ∨ s.kind = 11) = true := by simpa using hf
          rw [take_succ_filter hsi, if_neg hc]
          simp [hp3]
      · have hge : i = k.body.length := by
          have : ¬ i < k.body.length := by simpa using hf
          omega
        subst hge
        rw [List.take_length] at hp3
        all_goals have fx := And.intro h2 <| And.intro hp2 <| And.intro h3 <| hp3
        repeat' (first
         | refine w_seq ?_ | refine w_block ?_ | refine w_skip ?_ | refine w_reg fun K hK => ?_
         | ((with_reducible refine s_end hK ?_); clear hK K)
         | (with_reducible first | refine then_normal ?_ | refine in_normal ?_ | refine then_exit ?_ | refine in_exit ?_ | refine then_ret ?_ | refine in_ret ?_ | refine in_other (by decide) ?_)
         | refine w_exit ?_
         | refine w_ret ?_
         | (with_reducible first | refine s_none ?_ | refine x_assign (h := ?_) | refine x_box (h := ?_) | refine x_alloc (h := ?_) | refine x_store0 (h := ?_))
         | (with_reducible refine x_q (h := ?_))
         | refine x_condt (h1 := ?_) | refine x_condf (h1 := ?_)
         | fail)
        all_goals try clear fx
        refine e_ret [] .nil (by simp [h2]; rfl) ?_
        simp [Blk.bd, bset_sorted, boundAll]

theorem readSet_fn (gl) (k : Blk) (hn : NmOk k) (hs : BSm k) : FnOk Try.prog gl 76 [k.av] (fun _ y _ => y = .agg (bset k.rd)) := by
  have hbl := hs.body
  refine FnOk.of_sem Try.func76 rfl (by kernel_rfl) (rs := [.cell 2 82]) rfl Try.ntmps76 (Nat.le_of_ble_eq_true rfl) fun C w g root => ?_
  all_goals have fx := fx0
  repeat' (first
   | refine w_seq ?_ | refine w_block ?_ | refine w_skip ?_ | refine w_reg fun K hK => ?_
   | ((with_reducible refine s_end hK ?_); clear hK K)
   | (with_reducible first | refine then_normal ?_ | refine in_normal ?_ | refine then_exit ?_ | refine in_exit ?_ | refine then_ret ?_ | refine in_ret ?_ | refine in_other (by decide) ?_)
   | refine w_exit ?_
   | refine w_ret ?_
   | (with_reducible first | refine s_none ?_ | refine x_assign (h := ?_) | refine x_box (h := ?_) | refine x_alloc (h := ?_) | refine x_store0 (h := ?_))
   | (with_reducible refine x_q (h := ?_))
   | refine x_condt (h1 := ?_) | refine x_condf (h1 := ?_)
   | fail)
  all_goals try clear fx
  refine w_loop (fun n st => ∃ i : Nat, n = k.body.length - i ∧ i ≤ k.body.length ∧ st.tm 2 = .pt (.s 2) 0 ∧ st.hp (.s 2) = some (.row 8 [bset []]) ∧ st.tm 3 = .pt (.s 3) 0 ∧ st.hp (.s 3) = some (.row 8 [bset (readsAll (k.body.take i))]) ∧ st.tm 9 = ssl k.body ∧ st.tm 10 = iv k.body.length ∧ st.tm 11 = iv i) k.body.length ?_ ?_
  · exact ⟨0, by simp, by simp, by simp, by simp; rfl, by simp, by simp; rfl, by simp, by simp, by simp⟩
  rintro n st - - ⟨i, rfl, hi, h2, hp2, h3, hp3, h9, h10, h11⟩
  all_goals have fx := And.intro h9 <| And.intro h10 <| h11
  repeat' (first
   | refine w_seq ?_ | refine w_block ?_ | refine w_skip ?_ | refine w_reg fun K hK => ?_
   | ((with_reducible refine s_end hK ?_); clear hK K)
   | (with_reducible first | refine then_normal ?_ | refine in_normal ?_ | refine then_exit ?_ | refine in_exit ?_ | refine then_ret ?_ | refine in_ret ?_ | refine in_other (by decide) ?_)
   | refine w_exit ?_
   | refine w_ret ?_
   | (with_reducible first | refine s_none ?_ | refine x_assign (h := ?_) | refine x_box (h := ?_) | refine x_alloc (h := ?_) | refine x_store0 (h := ?_))
   | (with_reducible refine x_q (h := ?_))
   | refine x_condt (h1 := ?_) | refine x_condf (h1 := ?_)
   | fail)
  all_goals try clear fx
  refine w_if (by simp []; first | done | rfl | exact (Bool.not_not _).symm) (fun ht => ?_) (fun hf => ?_)
  · have hlt : i < k.body.length := by simpa using ht
    obtain ⟨s, hsi⟩ : ∃ s, k.body[i]? = some s := ⟨_, List.getElem?_eq_getElem hlt⟩
    have hsm := List.mem_of_getElem? hsi
    have hrl := s.reads_len
    clear ht
    all_goals have fx := And.intro h9 <| And.intro h10 <| And.intro h11 <| hsi
    repeat' (first
     | refine w_seq ?_ | refine w_block ?_ | refine w_skip ?_ | refine w_reg fun K hK => ?_
     | ((with_reducible refine s_end hK ?_); clear hK K)
     | (with_reducible first | refine then_normal ?_ | refine in_normal ?_ | refine then_exit ?_ | refine in_exit ?_ | refine then_ret ?_ | refine in_ret ?_ | refine in_other (by decide) ?_)
     | refine w_exit ?_
     | refine w_ret ?_
     | (with_reducible first | refine s_none ?_ | refine x_assign (h := ?_) | refine x_box (h := ?_) | refine x_alloc (h := ?_) | refine x_store0 (h := ?_))
     | ((with_reducible refine o_id 95 rfl ?_); refine x_call (hF := formOf_fn _ s) (h := ?_))
     | (refine x_invh (hF := reads_inv _ (by kernel_rfl) s (hn.kinds s hsm)) (h := ?_))
     | (with_reducible refine x_q (h := ?_))
     | refine x_condt (h1 := ?_) | refine x_condf (h1 := ?_)
     | fail)
    all_goals try clear fx
    refine w_loop (fun n st => ∃ j : Nat, n = s.reads.length - j ∧ j ≤ s.reads.length ∧ st.tm 2 = .pt (.s 2) 0 ∧ st.hp (.s 2) = some (.row 8 [bset []]) ∧ st.tm 3 = .pt (.s 3) 0 ∧ st.hp (.s 3) = some (.row 8 [bset (readsAll (k.body.take i) ++ s.reads.take j)]) ∧ st.tm 9 = ssl k.body ∧ st.tm 10 = iv k.body.length ∧ st.tm 11 = iv i ∧ st.tm 17 = .hs (.s 17) 1 0 s.reads.length ∧ st.hp (.s 17) = some (.row 1 (irows s.reads)) ∧ st.tm 18 = iv s.reads.length ∧ st.tm 19 = iv j) s.reads.length ?_ ?_
    · exact ⟨0, by simp, by simp, by simp [h2], by simp [hp2], by simp [h3], by simp [hp3], by simp [h9], by simp [h10], by simp [h11], by simp, by simp, by simp, by simp⟩
    clear h2 hp2 h3 hp3 h9 h10 h11
    rintro n st - - ⟨j, rfl, hj, h2, hp2, h3, hp3, h9, h10, h11, h17, hp17, h18, h19⟩
    all_goals have fx := And.intro h17 <| And.intro h18 <| h19
    repeat' (first
     | refine w_seq ?_ | refine w_block ?_ | refine w_skip ?_ | refine w_reg fun K hK => ?_
     | ((with_reducible refine s_end hK ?_); clear hK K)
     | (with_reducible first | refine then_normal ?_ | refine in_normal ?_ | refine then_exit ?_ | refine in_exit ?_ | refine then_ret ?_ | refine in_ret ?_ | refine in_other (by decide) ?_)
     | refine w_exit ?_
     | refine w_ret ?_
     | (with_reducible first | refine s_none ?_ | refine x_assign (h := ?_) | refine x_box (h := ?_) | refine x_alloc (h := ?_) | refine x_store0 (h := ?_))
     | (with_reducible refine x_q (h := ?_))
     | refine x_condt (h1 := ?_) | refine x_condf (h1 := ?_)
     | fail)
    all_goals try clear fx
    refine w_if (by simp []; first | done | rfl | exact (Bool.not_not _).symm) (fun ht => ?_) (fun hf => ?_)
    · have hlj : j < s.reads.length := by simpa using ht
      obtain ⟨y, hy⟩ : ∃ y, s.reads[j]? = some y := ⟨_, List.getElem?_eq_getElem hlj⟩
      have hto := hn.reads s hsm y (List.mem_of_getElem? hy)
      obtain ⟨x, rfl⟩ : ∃ x : Nat, y = x := ⟨y.toNat, by omega⟩
      obtain ⟨_, hye⟩ := List.getElem?_eq_some_iff.1 hy
      have hx8 : (x : Int) < 8 := by omega
      clear ht
      all_goals have fx := And.intro h17 <| And.intro hp17 <| And.intro h18 <| And.intro h19 <| And.intro hy <| And.intro hye <| And.intro hlj <| And.intro h3 <| And.intro hp3 <| hx8
      repeat' (first
       | refine w_seq ?_ | refine w_block ?_ | refine w_skip ?_ | refine w_reg fun K hK => ?_
       | ((with_reducible refine s_end hK ?_); clear hK K)
       | (with_reducible first | refine then_normal ?_ | refine in_normal ?_ | refine then_exit ?_ | refine in_exit ?_ | refine then_ret ?_ | refine in_ret ?_ | refine in_other (by decide) ?_)
       | refine w_exit ?_
       | refine w_ret ?_
       | (with_reducible first | refine s_none ?_ | refine x_assign (h := ?_) | refine x_box (h := ?_) | refine x_alloc (h := ?_) | refine x_store0 (h := ?_))
       | (with_reducible refine x_q (h := ?_))
       | refine x_condt (h1 := ?_) | refine x_condf (h1 := ?_)
       | fail)
      all_goals try clear fx
      refine ⟨s.reads.length - (j + 1), by omega, j + 1, by simp, by omega, by simp [h2], by simp [hp2], by simp [h3], ?_, by simp [h9], by simp [h10], by simp [h11], by simp [h17], by simp [hp17], by simp [h18], by simp; exact wrp (by omega) (by omega)⟩
      have hadd := bset_add (l := readsAll (k.body.take i) ++ s.reads.take j) (y := (x : Int)) rfl (by omega : x < 8)
      rw [List.take_add_one, hy]
      simp at hadd ⊢
      exact hadd
    · have hge : j = s.reads.length := by
        have : ¬ j < s.reads.length := by simpa using hf
        omega
      subst hge
      rw [List.take_length] at hp3
      all_goals have fx :=  h11
      repeat' (first
       | refine w_seq ?_ | refine w_block ?_ | refine w_skip ?_ | refine w_reg fun K hK => ?_
       | ((with_reducible refine s_end hK ?_); clear hK K)
       | (with_reducible first | refine then_normal ?_ | refine in_normal ?_ | refine then_exit ?_ | refine in_exit ?_ | refine then_ret ?_ | refine in_ret ?_ | refine in_other (by decide) ?_)
       | refine w_exit ?_
       | refine w_ret ?_
       | (with_reducible first | refine s_none ?_ | refine x_assign (h := ?_) | refine x_box (h := ?_) | refine x_alloc (h := ?_) | refine x_store0 (h := ?_))
       | (with_reducible refine x_q (h := ?_))
       | refine x_condt (h1 := ?_) | refine x_condf (h1 := ?_)
       | fail)
      all_goals try clear fx
      refine ⟨k.body.length - (i + 1), by omega, i + 1, by simp, by omega, by simp [h2], by simp [hp2], by simp [h3], ?_, by simp [h9], by simp [h10], by simp; exact wrp (by omega) (by omega)⟩
      rw [List.take_add_one, hsi]
      simp [readsAll, hp3]
  · have hge : i = k.body.length := by
      have : ¬ i < k.body.length := by simpa using hf
      omega
    subst hge
    rw [List.take_length] at hp3
    all_goals have fx := And.intro h2 <| And.intro hp2 <| And.intro h3 <| hp3
    repeat' (first
     | refine w_seq ?_ | refine w_block ?_ | refine w_skip ?_ | refine w_reg fun K hK => ?_
     | ((with_reducible refine s_end hK ?_); clear hK K)
     | (with_reducible first | refine then_normal ?_ | refine in_normal ?_ | refine then_exit ?_ | refine in_exit ?_ | refine then_ret ?_ | refine in_ret ?_ | refine in_other (by decide) ?_)
     | refine w_exit ?_
     | refine w_ret ?_
     | (with_reducible first | refine s_none ?_ | refine x_assign (h := ?_) | refine x_box (h := ?_) | refine x_alloc (h := ?_) | refine x_store0 (h := ?_))
     | (with_reducible refine x_q (h := ?_))
     | refine x_condt (h1 := ?_) | refine x_condf (h1 := ?_)
     | fail)
    all_goals try clear fx
    refine e_ret [] .nil (by simp [h2]; rfl) ?_
    simp [Blk.rd, bset_sorted]
end Go.Proofs.Ytopgafhjmbfaoaa
end
