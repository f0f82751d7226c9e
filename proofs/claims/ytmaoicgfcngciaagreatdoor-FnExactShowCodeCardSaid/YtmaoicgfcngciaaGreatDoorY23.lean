/-
  Own texts, joined by mkclaim.py: La, Lb, Lc, Ld, Uj, Lr, Jz.
-/
import Derived.Test.YtmaoicgfcngciaaGreatDoorY22
import Derived.Test.YtmaoicgfcngciaaGreatDoorY10
import Derived.Test.YtmaoicgfcngciaaGreatDoorY15
import Derived.WalkKit
import Derived.ProofKit
import Derived.OpenShut
import Derived.Test.YtmaoicgfcngciaaGreatDoorY12
import Derived.Test.YtmaoicgfcngciaaGreatDoorProg
import Derived.Test.YtmaoicgfcngciaaGreatDoorChecked
import Derived.KernelRfl
set_option linter.unusedSimpArgs false
set_option linter.unusedVariables false
set_option maxRecDepth 100000
set_option maxHeartbeats 4000000

section
namespace Go.Proofs.YtmaoicgfcngciaaGreatDoor
open Go Go.Hm Go.Proofs
theorem szIntS_fn (gl) (xs : List Int) (left : Int) (h0 : 0 ≤ left) (h1 : left ≤ 1048576) (hx : xs.length ≤ 1152921504606846976) : FnOk Tryz.prog gl 133 [isl xs, iv left] (fun _ y _ => y = iv (if (xs.length : Int) ≤ left then left - xs.length else -1)) := by
  have hw : IntKind.i64.wrap (left - xs.length) = left - xs.length := wrp (by omega) (by omega)
  refine FnOk.of_sem Tryz.func133 rfl (by kernel_rfl) (rs := [.tmp 4]) rfl Tryz.ntmps133 (Nat.le_of_ble_eq_true rfl) fun C w g root => ?_
  all_goals have fx :=  hw
  repeat' (first
   | refine w_seq ?_ | refine w_skip ?_ | refine w_reg fun K hK => ?_
   | ((with_reducible refine s_end hK ?_); clear hK K)
   | (with_reducible first | refine then_normal ?_ | refine then_ret ?_)
   | refine w_ret ?_
   | (with_reducible first | refine s_none ?_ | refine x_assign (h := ?_))
   | (with_reducible refine x_q (h := ?_))
   | refine x_if (h1 := fun ht => ?_) (h2 := fun ht => ?_)
   | fail)
  all_goals try clear fx
  all_goals refine e_ret [] .nil (by simp [hw]; rfl) ?_
  all_goals simp at ht
  · have : ¬ (xs.length : Int) ≤ left := by omega
    simp [this]
  · have : (xs.length : Int) ≤ left := by omega
    simp [this]
theorem szStmtS_fn (gl) (xs : List Stm) (left : Int) (h0 : 0 ≤ left) (h1 : left ≤ 1048576) (hx : xs.length ≤ 1152921504606846976) : FnOk Tryz.prog gl 134 [ssl xs, iv left] (fun _ y _ => y = iv (if (xs.length : Int) ≤ left then left - xs.length else -1)) := by
  have hw : IntKind.i64.wrap (left - xs.length) = left - xs.length := wrp (by omega) (by omega)
  refine FnOk.of_sem Tryz.func134 rfl (by kernel_rfl) (rs := [.tmp 4]) rfl Tryz.ntmps134 (Nat.le_of_ble_eq_true rfl) fun C w g root => ?_
  all_goals have fx :=  hw
  repeat' (first
   | refine w_seq ?_ | refine w_skip ?_ | refine w_reg fun K hK => ?_
   | ((with_reducible refine s_end hK ?_); clear hK K)
   | (with_reducible first | refine then_normal ?_ | refine then_ret ?_)
   | refine w_ret ?_
   | (with_reducible first | refine s_none ?_ | refine x_assign (h := ?_))
   | (with_reducible refine x_q (h := ?_))
   | refine x_if (h1 := fun ht => ?_) (h2 := fun ht => ?_)
   | fail)
  all_goals try clear fx
  all_goals refine e_ret [] .nil (by simp [hw]; rfl) ?_
  all_goals simp at ht
  · have : ¬ (xs.length : Int) ≤ left := by omega
    simp [this]
  · have : (xs.length : Int) ≤ left := by omega
    simp [this]
theorem szBlock_fn (gl) (k : Blk) (left : Int) (h0 : 0 ≤ left) (h1 : left ≤ 1048576) (hp : k.params.length ≤ 1152921504606846976) (hb : k.body.length ≤ 1152921504606846976) : FnOk Tryz.prog gl 85 [k.av, iv left] (fun _ y _ => y = iv (if (totB k : Int) ≤ left then left - totB k else -1)) := by
  refine FnOk.of_sem Tryz.func85 rfl (by kernel_rfl) (rs := [.tmp 4]) rfl Tryz.ntmps85 (Nat.le_of_ble_eq_true rfl) fun C w g root => ?_
  by_cases hl : (k.params.length : Int) ≤ left
  · have hs := szStmtS_fn gl k.body (left - k.params.length) (by omega) (by omega) hb
    all_goals have fx :=  hl
    repeat' (first
     | refine w_seq ?_ | refine w_skip ?_ | refine w_reg fun K hK => ?_
     | ((with_reducible refine s_end hK ?_); clear hK K)
     | (with_reducible first | refine then_normal ?_)
     | (with_reducible first | refine s_none ?_ | refine x_assign (h := ?_) | refine x_box (h := ?_))
     | ((with_reducible refine o_id 133 rfl ?_); refine x_call (hF := szIntS_fn _ k.params left h0 h1 hp) (h := ?_))
     | (with_reducible refine x_q (h := ?_))
     | refine x_condf (h1 := ?_)
     | fail)
    all_goals try clear fx
    have hge : ¬ left - k.params.length < 0 := by omega
    by_cases hl2 : (k.body.length : Int) ≤ left - k.params.length
    · have hge2 : ¬ left - k.params.length - k.body.length < 0 := by omega
      all_goals have fx := And.intro hl <| And.intro hge <| And.intro hl2 <| hge2
      repeat' (first
       | refine w_seq ?_ | refine w_skip ?_ | refine w_reg fun K hK => ?_
       | ((with_reducible refine s_end hK ?_); clear hK K)
       | (with_reducible first | refine then_normal ?_)
       | refine w_ret ?_
       | (with_reducible first | refine s_none ?_ | refine x_assign (h := ?_))
       | ((with_reducible refine o_id 134 rfl ?_); refine x_call (hF := hs) (h := ?_))
       | (with_reducible refine x_q (h := ?_))
       | refine x_condf (h1 := ?_)
       | fail)
      all_goals try clear fx
      refine e_ret [] .nil (by simp [hl, hl2]; rfl) ?_
      have : (totB k : Int) ≤ left := by simp only [totB]; omega
      rw [if_pos this]
      simp [totB]
      omega
    · skip
      all_goals have fx := And.intro hl <| And.intro hge <| hl2
      repeat' (first
       | refine w_seq ?_ | refine w_reg fun K hK => ?_
       | ((with_reducible refine s_end hK ?_); clear hK K)
       | (with_reducible first | refine then_normal ?_ | refine then_ret ?_)
       | refine w_ret ?_
       | (with_reducible first | refine s_none ?_ | refine x_assign (h := ?_))
       | ((with_reducible refine o_id 134 rfl ?_); refine x_call (hF := hs) (h := ?_))
       | (with_reducible refine x_q (h := ?_))
       | refine x_condt (h1 := ?_)
       | fail)
      all_goals try clear fx
      refine e_ret [] .nil (by simp; rfl) ?_
      have : ¬ (totB k : Int) ≤ left := by simp only [totB]; omega
      rw [if_neg this]
      rfl
  · skip
    all_goals have fx :=  hl
    repeat' (first
     | refine w_seq ?_ | refine w_reg fun K hK => ?_
     | ((with_reducible refine s_end hK ?_); clear hK K)
     | (with_reducible first | refine then_normal ?_ | refine then_ret ?_)
     | refine w_ret ?_
     | (with_reducible first | refine s_none ?_ | refine x_assign (h := ?_) | refine x_box (h := ?_))
     | ((with_reducible refine o_id 133 rfl ?_); refine x_call (hF := szIntS_fn _ k.params left h0 h1 hp) (h := ?_))
     | (with_reducible refine x_q (h := ?_))
     | refine x_condt (h1 := ?_)
     | fail)
    all_goals try clear fx
    refine e_ret [] .nil (by simp; rfl) ?_
    have : ¬ (totB k : Int) ≤ left := by simp only [totB]; omega
    rw [if_neg this]
    rfl
theorem szBlockS_fn (gl) (p : Prg) (left : Int) (h0 : 0 ≤ left) (h1 : left ≤ 1048576) (hb : Big p) : FnOk Tryz.prog gl 37 [ksl p, iv left] (fun _ y _ => y = iv (if (tot p : Int) ≤ left then left - tot p else -1)) := by
  have hbl := hb.len
  have hw : IntKind.i64.wrap (left - p.length) = left - p.length := wrp (by omega) (by omega)
  have htl := totTo_mono (p := p) (Nat.zero_le p.length)
  have ht0 : totTo p 0 = p.length := rfl
  refine FnOk.of_sem Tryz.func37 rfl (by kernel_rfl) (rs := [.tmp 4]) rfl Tryz.ntmps37 (Nat.le_of_ble_eq_true rfl) fun C w g root => ?_
  all_goals have fx :=  hw
  repeat' (first
   | refine w_seq ?_ | refine w_block ?_ | refine w_skip ?_ | refine w_reg fun K hK => ?_
   | ((with_reducible refine s_end hK ?_); clear hK K)
   | (with_reducible first | refine then_normal ?_ | refine then_ret ?_)
   | refine w_ret ?_
   | (with_reducible first | refine s_none ?_ | refine x_assign (h := ?_))
   | (with_reducible refine x_q (h := ?_))
   | refine x_if (h1 := fun ht => ?_) (h2 := fun ht => ?_)
   | fail)
  all_goals try clear fx
  · refine e_ret [] .nil (by simp; rfl) ?_
    simp at ht
    have : ¬ (tot p : Int) ≤ left := by simp only [tot]; omega
    rw [if_neg this]
    rfl
  have hge : (p.length : Int) ≤ left := by simp at ht; omega
  clear ht
  refine w_loop (fun n st => ∃ i : Nat, n = p.length - i ∧ i ≤ p.length ∧ st.tm 0 = ksl p ∧ (totTo p i : Int) ≤ left ∧ st.tm 1 = iv (left - totTo p i) ∧ st.tm 5 = iv i) p.length ?_ ?_
  · exact ⟨0, by simp, by simp, by simp, by omega, by simp [hw, ht0], by simp⟩
  rintro n st - - ⟨i, rfl, hi, h0', hle, h1', h5⟩
  all_goals have fx := And.intro h0' <| And.intro h1' <| h5
  repeat' (first
   | refine w_seq ?_ | refine w_reg fun K hK => ?_
   | ((with_reducible refine s_end hK ?_); clear hK K)
   | (with_reducible first | refine then_normal ?_)
   | (with_reducible first | refine s_none ?_)
   | (with_reducible refine x_q (h := ?_))
   | fail)
  all_goals try clear fx
  refine w_if (by simp []; first | done | rfl | exact (Bool.not_not _).symm) (fun ht => ?_) (fun hf => ?_)
  · have hlt : i < p.length := by simpa using ht
    obtain ⟨k, hk⟩ : ∃ k, p[i]? = some k := ⟨_, gE hlt⟩
    obtain ⟨_, hke⟩ := gS hk
    have hkm := List.mem_of_getElem? hk
    have htg := totTo_get hk
    have htm := totTo_mono (p := p) (Nat.succ_le_of_lt hlt)
    clear ht
    all_goals have fx := And.intro h0' <| And.intro h1' <| And.intro h5 <| And.intro hk <| And.intro hke <| hlt
    repeat' (first
     | refine w_seq ?_ | refine w_block ?_ | refine w_skip ?_ | refine w_reg fun K hK => ?_
     | ((with_reducible refine s_end hK ?_); clear hK K)
     | (with_reducible first | refine then_normal ?_ | refine then_ret ?_ | refine in_ret ?_)
     | refine w_ret ?_
     | (with_reducible first | refine s_none ?_ | refine x_assign (h := ?_))
     | ((with_reducible refine o_id 85 rfl ?_); refine x_call (hF := szBlock_fn _ k (left - totTo p i) (by omega) (by omega) (hb.params k hkm) (hb.body k hkm)) (h := ?_))
     | (with_reducible refine x_q (h := ?_))
     | refine x_if (h1 := fun ht => ?_) (h2 := fun ht => ?_)
     | fail)
    all_goals try clear fx
    · refine e_ret [] .nil (by simp; rfl) ?_
      have hno : ¬ (totB k : Int) ≤ left - totTo p i := fun h => by
        rw [if_pos h] at ht
        simp at ht
        omega
      have : ¬ (tot p : Int) ≤ left := by simp only [tot]; simp only [Nat.succ_eq_add_one] at htm; omega
      rw [if_neg this]
      rfl
    · have hyes : (totB k : Int) ≤ left - totTo p i := by
        rcases Int.lt_or_le (left - totTo p i) (totB k) with h | h
        · rw [if_neg (by omega)] at ht
          simp at ht
        · exact h
      refine ⟨p.length - (i + 1), by omega, i + 1, rfl, by omega, by simp [h0'], by omega, ?_, by simp; exact wrp (by omega) (by omega)⟩
      rw [htg]
      simp [hyes]
      omega
  · have hge : i = p.length := by
      have : ¬ i < p.length := by simpa using hf
      omega
    subst hge
    all_goals have fx :=  h1'
    repeat' (first
     | refine w_seq ?_ | refine w_reg fun K hK => ?_
     | ((with_reducible refine s_end hK ?_); clear hK K)
     | (with_reducible first | refine then_normal ?_)
     | refine w_exit ?_
     | refine w_ret ?_
     | (with_reducible first | refine s_none ?_ | refine x_assign (h := ?_))
     | (with_reducible refine x_q (h := ?_))
     | fail)
    all_goals try clear fx
    refine e_ret [] .nil (by simp; rfl) ?_
    have : (tot p : Int) ≤ left := hle
    rw [if_pos this]
    rfl
theorem szProgram_fn (gl) (p : Prg) (hb : Big p) : FnOk Tryz.prog gl 14 [pav p, iv 1048576] (fun _ y _ => y = iv (if tot p ≤ 1048576 then 1048576 - tot p else -1)) := by
  have h := szBlockS_fn gl p 1048576 (by decide) (by decide) hb
  refine FnOk.of_sem Tryz.func14 rfl (by kernel_rfl) (rs := [.tmp 4]) rfl Tryz.ntmps14 (Nat.le_of_ble_eq_true rfl) fun C w g root => ?_
  by_cases ht : tot p ≤ 1048576
  · have h2 : (tot p : Int) ≤ 1048576 := by omega
    have hge : ¬ (1048576 - (tot p : Int)) < 0 := by omega
    all_goals have fx := And.intro h2 <| hge
    repeat' (first
     | refine w_seq ?_ | refine w_skip ?_ | refine w_reg fun K hK => ?_
     | ((with_reducible refine s_end hK ?_); clear hK K)
     | (with_reducible first | refine then_normal ?_)
     | refine w_ret ?_
     | (with_reducible first | refine s_none ?_ | refine x_assign (h := ?_) | refine x_box (h := ?_))
     | ((with_reducible refine o_id 37 rfl ?_); refine x_call (hF := h) (h := ?_))
     | (with_reducible refine x_q (h := ?_))
     | refine x_condf (h1 := ?_)
     | fail)
    all_goals try clear fx
    refine e_ret [] .nil (by simp [h2]; rfl) ?_
    simp [ht]
  · have h2 : ¬ (tot p : Int) ≤ 1048576 := by omega
    all_goals have fx :=  h2
    repeat' (first
     | refine w_seq ?_ | refine w_reg fun K hK => ?_
     | ((with_reducible refine s_end hK ?_); clear hK K)
     | (with_reducible first | refine then_normal ?_ | refine then_ret ?_)
     | refine w_ret ?_
     | (with_reducible first | refine s_none ?_ | refine x_assign (h := ?_) | refine x_box (h := ?_))
     | ((with_reducible refine o_id 37 rfl ?_); refine x_call (hF := h) (h := ?_))
     | (with_reducible refine x_q (h := ?_))
     | refine x_condt (h1 := ?_)
     | fail)
    all_goals try clear fx
    refine e_ret [] .nil (by simp; rfl) ?_
    simp [ht]
theorem toIntS_fn (gl) (xs : List Int) (hx : xs.length ≤ 1048576) : FnOk Tryz.prog gl 146 [isl xs] (fun r y H' => y = .hs r 1 0 xs.length ∧ H' r = some (.row 1 (irows xs))) := by
  refine FnOk.of_sem Tryz.func146 rfl (by kernel_rfl) (rs := [.tmp 2]) rfl Tryz.ntmps146 (Nat.le_of_ble_eq_true rfl) fun C w g root => ?_
  all_goals have fx := fx0
  repeat' (first
   | refine w_seq ?_ | refine w_block ?_ | refine w_reg fun K hK => ?_
   | ((with_reducible refine s_end hK ?_); clear hK K)
   | (with_reducible first | refine s_none ?_ | refine x_assign (h := ?_) | refine x_make (h := ?_))
   | (with_reducible refine x_q (h := ?_))
   | fail)
  all_goals try clear fx
  refine w_loop (fun n st => ∃ i : Nat, n = xs.length - i ∧ i ≤ xs.length ∧ st.tm 0 = isl xs ∧ st.tm 3 = .hs (.s 3) 1 0 xs.length ∧ st.hp (.s 3) = some (.row 1 (irows (pre 0 xs i))) ∧ st.tm 4 = iv i) xs.length ?_ ?_
  · exact ⟨0, by simp, by simp, by simp, by simp, by simp [pre_zero, irows_rep], by simp⟩
  rintro n st - - ⟨i, rfl, hi, h0, h3, hp3, h4⟩
  all_goals have fx := And.intro h0 <| h4
  repeat' (first
   | refine w_seq ?_ | refine w_reg fun K hK => ?_
   | ((with_reducible refine s_end hK ?_); clear hK K)
   | (with_reducible first | refine then_normal ?_)
   | (with_reducible first | refine s_none ?_)
   | (with_reducible refine x_q (h := ?_))
   | fail)
  all_goals try clear fx
  refine w_if (by simp []; first | done | rfl | exact (Bool.not_not _).symm) (fun ht => ?_) (fun hf => ?_)
  · have hlt : i < xs.length := by simpa using ht
    obtain ⟨x, hxi⟩ : ∃ x, xs[i]? = some x := ⟨_, gE hlt⟩
    obtain ⟨_, hxe⟩ := gS hxi
    have hset := pre_set (z := 0) hxi
    have hpl := pre_len (z := (0 : Int)) hi
    clear ht
    all_goals have fx := And.intro h0 <| And.intro h4 <| And.intro h3 <| And.intro hp3 <| And.intro hxi <| And.intro hxe <| And.intro hlt <| hpl
    repeat' (first
     | refine w_seq ?_ | refine w_block ?_ | refine w_skip ?_ | refine w_reg fun K hK => ?_
     | ((with_reducible refine s_end hK ?_); clear hK K)
     | (with_reducible first | refine then_normal ?_)
     | (with_reducible first | refine s_none ?_ | refine x_assign (h := ?_) | refine x_store0 (h := ?_))
     | (with_reducible refine x_q (h := ?_))
     | fail)
    all_goals try clear fx
    refine ⟨xs.length - (i + 1), by omega, i + 1, rfl, by omega, by simp [h0], by simp [h3], by simp [← hset], by simp; exact wrp (by omega) (by omega)⟩
  · have hge : i = xs.length := by
      have : ¬ i < xs.length := by simpa using hf
      omega
    subst hge
    rw [pre_all] at hp3
    all_goals have fx := And.intro h3 <| hp3
    repeat' (first
     | refine w_seq ?_ | refine w_reg fun K hK => ?_
     | ((with_reducible refine s_end hK ?_); clear hK K)
     | (with_reducible first | refine then_normal ?_)
     | refine w_exit ?_
     | refine w_ret ?_
     | (with_reducible first | refine s_none ?_ | refine x_assign (h := ?_))
     | (with_reducible refine x_q (h := ?_))
     | fail)
    all_goals try clear fx
    exact e_list (t := 2) (by first | (simp [hp3]; done) | (simp [hp3]; rfl)) (by first | (simp [hp3]; done) | (simp [hp3]; rfl)) (by simp)
theorem toStmt_fn (gl) (s : Stm) : FnOk Tryz.prog gl 178 [s.av] (fun _ y _ => y = s.av) := by
  refine FnOk.of_sem Tryz.func178 rfl (by kernel_rfl) (rs := [.cell 2 86]) rfl Tryz.ntmps178 (Nat.le_of_ble_eq_true rfl) fun C w g root => ?_
  all_goals have fx := fx0
  repeat' (first
   | refine w_seq ?_ | refine w_reg fun K hK => ?_
   | ((with_reducible refine s_end hK ?_); clear hK K)
   | (with_reducible first | refine then_normal ?_)
   | refine w_ret ?_
   | (with_reducible first | refine s_none ?_ | refine x_box (h := ?_) | refine x_alloc (h := ?_) | refine x_store0 (h := ?_))
   | (with_reducible refine x_q (h := ?_))
   | fail)
  all_goals try clear fx
  refine e_ret [] .nil (by simp; rfl) ?_
  simp
theorem toStmtS_fn (gl) (xs : List Stm) (hx : xs.length ≤ 1048576) : FnOk Tryz.prog gl 147 [ssl xs] (fun r y H' => y = .hs r 4 0 xs.length ∧ H' r = some (.row 4 (srows xs))) := by
  refine FnOk.of_sem Tryz.func147 rfl (by kernel_rfl) (rs := [.tmp 2]) rfl Tryz.ntmps147 (Nat.le_of_ble_eq_true rfl) fun C w g root => ?_
  all_goals have fx := fx0
  repeat' (first
   | refine w_seq ?_ | refine w_block ?_ | refine w_reg fun K hK => ?_
   | ((with_reducible refine s_end hK ?_); clear hK K)
   | (with_reducible first | refine s_none ?_ | refine x_assign (h := ?_) | refine x_make (h := ?_))
   | (with_reducible refine x_q (h := ?_))
   | fail)
  all_goals try clear fx
  refine w_loop (fun n st => ∃ i : Nat, n = xs.length - i ∧ i ≤ xs.length ∧ st.tm 0 = ssl xs ∧ st.tm 3 = .hs (.s 3) 4 0 xs.length ∧ st.hp (.s 3) = some (.row 4 (srows (pre ⟨0, 0, 0, 0⟩ xs i))) ∧ st.tm 4 = iv i) xs.length ?_ ?_
  · exact ⟨0, by simp, by simp, by simp, by simp, by simp [pre_zero, srows_rep], by simp⟩
  rintro n st - - ⟨i, rfl, hi, h0, h3, hp3, h4⟩
  all_goals have fx := And.intro h0 <| h4
  repeat' (first
   | refine w_seq ?_ | refine w_reg fun K hK => ?_
   | ((with_reducible refine s_end hK ?_); clear hK K)
   | (with_reducible first | refine then_normal ?_)
   | (with_reducible first | refine s_none ?_)
   | (with_reducible refine x_q (h := ?_))
   | fail)
  all_goals try clear fx
  refine w_if (by simp []; first | done | rfl | exact (Bool.not_not _).symm) (fun ht => ?_) (fun hf => ?_)
  · have hlt : i < xs.length := by simpa using ht
    obtain ⟨x, hxi⟩ : ∃ x, xs[i]? = some x := ⟨_, gE hlt⟩
    obtain ⟨_, hxe⟩ := gS hxi
    have hset := pre_set (z := (⟨0, 0, 0, 0⟩ : Stm)) hxi
    have hpl := pre_len (z := (⟨0, 0, 0, 0⟩ : Stm)) hi
    have hsr := srows_set (ss := pre ⟨0, 0, 0, 0⟩ xs i) (i := i) (s := x)
    clear ht
    all_goals have fx := And.intro h0 <| And.intro h4 <| And.intro h3 <| And.intro hp3 <| And.intro hxi <| And.intro hxe <| And.intro hlt <| hpl
    repeat' (first
     | refine w_seq ?_ | refine w_block ?_ | refine w_skip ?_ | refine w_reg fun K hK => ?_
     | ((with_reducible refine s_end hK ?_); clear hK K)
     | (with_reducible first | refine then_normal ?_)
     | (with_reducible first | refine s_none ?_ | refine x_assign (h := ?_) | refine x_store0 (h := ?_))
     | ((with_reducible refine o_id 178 rfl ?_); refine x_call (hF := toStmt_fn _ x) (h := ?_))
     | (with_reducible refine x_q (h := ?_))
     | fail)
    all_goals try clear fx
    refine ⟨xs.length - (i + 1), by omega, i + 1, rfl, by omega, by simp [h0], by simp [h3], by simp [← hset, hsr], by simp; exact wrp (by omega) (by omega)⟩
  · have hge : i = xs.length := by
      have : ¬ i < xs.length := by simpa using hf
      omega
    subst hge
    rw [pre_all] at hp3
    all_goals have fx := And.intro h3 <| hp3
    repeat' (first
     | refine w_seq ?_ | refine w_reg fun K hK => ?_
     | ((with_reducible refine s_end hK ?_); clear hK K)
     | (with_reducible first | refine then_normal ?_)
     | refine w_exit ?_
     | refine w_ret ?_
     | (with_reducible first | refine s_none ?_ | refine x_assign (h := ?_))
     | (with_reducible refine x_q (h := ?_))
     | fail)
    all_goals try clear fx
    exact e_list (t := 2) (by first | (simp [hp3]; done) | (simp [hp3]; rfl)) (by first | (simp [hp3]; done) | (simp [hp3]; rfl)) (by simp)
theorem toBlock_fn (gl) (k : Blk) (hp : k.params.length ≤ 1048576) (hb : k.body.length ≤ 1048576) : FnOk Tryz.prog gl 95 [k.av] (fun r y H' => y = .agg (pRow r 0 k) ∧ H' (.c r 0 2) = some (.row 1 (irows k.params)) ∧ H' (.c r 0 3) = some (.row 4 (srows k.body))) := by
  refine FnOk.of_sem Tryz.func95 rfl (by kernel_rfl) (rs := [.cell 2 44]) rfl Tryz.ntmps95 (Nat.le_of_ble_eq_true rfl) fun C w g root => ?_
  all_goals have fx := fx0
  repeat' (first
   | refine w_seq ?_ | refine w_reg fun K hK => ?_
   | ((with_reducible refine s_end hK ?_); clear hK K)
   | (with_reducible first | refine then_normal ?_)
   | refine w_ret ?_
   | (with_reducible first | refine s_none ?_ | refine x_box (h := ?_) | refine x_alloc (h := ?_) | refine x_store0 (h := ?_))
   | ((with_reducible refine o_id 146 rfl ?_); refine x_callh (hF := toIntS_fn _ k.params hp) (h := ?_))
   | ((with_reducible refine o_id 147 rfl ?_); refine x_callh (hF := toStmtS_fn _ k.body hb) (h := ?_))
   | (with_reducible refine x_q (h := ?_))
   | fail)
  all_goals try clear fx
  refine e_ret [(.s 3, root)] (.one rfl) (by simp; rfl) ⟨by simp [pRow], by simp, by simp⟩
theorem toBlockS_fn (gl) (p : Prg) (hs : Sml p) : FnOk Tryz.prog gl 44 [ksl p] (fun r y H' => y = .hs r 4 0 p.length ∧ OwnP H' r p) := by
  have hpl := hs.len
  refine FnOk.of_sem Tryz.func44 rfl (by kernel_rfl) (rs := [.tmp 2]) rfl Tryz.ntmps44 (Nat.le_of_ble_eq_true rfl) fun C w g root => ?_
  all_goals have fx := fx0
  repeat' (first
   | refine w_seq ?_ | refine w_block ?_ | refine w_reg fun K hK => ?_
   | ((with_reducible refine s_end hK ?_); clear hK K)
   | (with_reducible first | refine s_none ?_ | refine x_assign (h := ?_) | refine x_make (h := ?_))
   | (with_reducible refine x_q (h := ?_))
   | fail)
  all_goals try clear fx
  refine w_loop (fun n st => ∃ i : Nat, n = p.length - i ∧ i ≤ p.length ∧ st.tm 0 = ksl p ∧ st.tm 3 = .hs (.s 3) 4 0 p.length ∧ CopP st.hp (.s 3) p i ∧ st.tm 4 = iv i) p.length ?_ ?_
  · refine ⟨0, by simp, by simp, by simp, by simp, ⟨?_, fun j k hj => by omega, fun j k hj => by omega⟩, by simp⟩
    rw [← cRows_zero]
    simp [zblk, nilS]
  rintro n st - - ⟨i, rfl, hi, h0, h3, ⟨ho1, ho2, ho3⟩, h4⟩
  all_goals have fx := And.intro h0 <| h4
  repeat' (first
   | refine w_seq ?_ | refine w_reg fun K hK => ?_
   | ((with_reducible refine s_end hK ?_); clear hK K)
   | (with_reducible first | refine then_normal ?_)
   | (with_reducible first | refine s_none ?_)
   | (with_reducible refine x_q (h := ?_))
   | fail)
  all_goals try clear fx
  refine w_if (by simp []; first | done | rfl | exact (Bool.not_not _).symm) (fun ht => ?_) (fun hf => ?_)
  · have hlt : i < p.length := by simpa using ht
    obtain ⟨k, hk⟩ : ∃ k, p[i]? = some k := ⟨_, gE hlt⟩
    obtain ⟨hkp, hkb⟩ := hs.bsm hk
    obtain ⟨_, hke⟩ := gS hk
    have hset := cRows_setP (n := .s 3) hk
    simp only [pRow] at hset
    clear ht
    all_goals have fx := And.intro h0 <| And.intro h4 <| And.intro h3 <| And.intro hk <| And.intro hke <| hlt
    repeat' (first
     | refine w_seq ?_ | refine w_block ?_ | refine w_skip ?_ | refine w_reg fun K hK => ?_
     | (with_reducible first | refine s_none ?_)
     | ((with_reducible refine o_id 95 rfl ?_); refine x_callg (hF := toBlock_fn _ k hkp hkb) (h := ?_))
     | (with_reducible refine x_q (h := ?_))
     | fail)
    all_goals try clear fx
    rintro y H' ⟨rfl, hp2, hp3⟩
    have hp2 := hcln_row hp2 (by simp)
    have hp3 := hcln_row hp3 (by simp)
    refine ⟨by simp [pRow], ?_⟩
    refine s_mv (.c (.s 20) 0 2) (.c (.s 3) i 2) (.inl rfl) (.inl rfl) ?_
    refine s_mv (.c (.s 20) 0 3) (.c (.s 3) i 3) (.inl rfl) (.inl rfl) ?_
    simp only [pRow]
    all_goals have fx := And.intro h0 <| And.intro h4 <| And.intro h3 <| And.intro ho1 <| And.intro hk <| And.intro hke <| hlt
    repeat' (first
     | refine w_reg fun K hK => ?_
     | ((with_reducible refine s_end hK ?_); clear hK K)
     | (with_reducible first | refine then_normal ?_)
     | (with_reducible first | refine s_none ?_ | refine x_assign (h := ?_) | refine x_store0 (h := ?_))
     | (with_reducible refine x_q (h := ?_))
     | fail)
    all_goals try clear fx
    refine ⟨p.length - (i + 1), by omega, i + 1, rfl, by omega, by simp [h0], by simp [h3], ⟨?_, fun j r hj hr => ?_, fun j r hj hr => ?_⟩, by simp [h4]; exact wrp (by omega) (by omega)⟩
    · simp [ho1, hset]
    · rcases Nat.lt_succ_iff_lt_or_eq.1 hj with hlj | rfl
      · have hne : ¬ j = i := by omega
        simp [ho2 j r hlj hr, hne]
      · rw [hk] at hr
        obtain rfl := Option.some.inj hr
        simp [hp2]
    · rcases Nat.lt_succ_iff_lt_or_eq.1 hj with hlj | rfl
      · have hne : ¬ j = i := by omega
        simp [ho3 j r hlj hr, hne]
      · rw [hk] at hr
        obtain rfl := Option.some.inj hr
        simp [hp3]
  · have hge : i = p.length := by
      have : ¬ i < p.length := by simpa using hf
      omega
    subst hge
    rw [cRows_all] at ho1
    all_goals have fx :=  h3
    repeat' (first
     | refine w_seq ?_ | refine w_reg fun K hK => ?_
     | ((with_reducible refine s_end hK ?_); clear hK K)
     | (with_reducible first | refine then_normal ?_)
     | refine w_exit ?_
     | refine w_ret ?_
     | (with_reducible first | refine s_none ?_ | refine x_assign (h := ?_))
     | (with_reducible refine x_q (h := ?_))
     | fail)
    all_goals try clear fx
    refine e_ret [(.s 2, root)] (.one rfl) (by simp; rfl) ⟨by simp, ⟨?_, fun j r hj => ?_, fun j r hj => ?_⟩⟩
    · simp [ho1, pRows_tr (n := .s 2) (m := root) (f := finf noD [(.s 2, root)]) (p := p) (by simp)]
    · simp [ho2 j r (gS hj).1 hj]
    · simp [ho3 j r (gS hj).1 hj]
theorem toProgram_fn (gl) (p : Prg) (hs : Sml p) : FnOk Tryz.prog gl 16 [pav p] (fun r y H' => y = .agg [.hs r 4 0 p.length] ∧ OwnP H' r p) := by
  refine FnOk.of_sem Tryz.func16 rfl (by kernel_rfl) (rs := [.cell 2 24]) rfl Tryz.ntmps16 (Nat.le_of_ble_eq_true rfl) fun C w g root => ?_
  all_goals have fx := fx0
  repeat' (first
   | refine w_seq ?_ | refine w_reg fun K hK => ?_
   | ((with_reducible refine s_end hK ?_); clear hK K)
   | (with_reducible first | refine s_none ?_ | refine x_box (h := ?_) | refine x_alloc (h := ?_))
   | ((with_reducible refine o_id 44 rfl ?_); refine x_callg (hF := toBlockS_fn _ p hs) (h := ?_))
   | (with_reducible refine x_q (h := ?_))
   | fail)
  all_goals try clear fx
  rintro y H' ⟨rfl, hO⟩
  obtain ⟨ho1, ho2, ho3⟩ := hO.hcln
  refine ⟨by simp, ?_⟩
  all_goals have fx := fx0
  repeat' (first
   | refine w_seq ?_ | refine w_reg fun K hK => ?_
   | ((with_reducible refine s_end hK ?_); clear hK K)
   | (with_reducible first | refine then_normal ?_)
   | refine w_ret ?_
   | (with_reducible first | refine s_none ?_ | refine x_store0 (h := ?_))
   | (with_reducible refine x_q (h := ?_))
   | fail)
  all_goals try clear fx
  refine e_ret [(.c (.s 3) 0 0, root)] (.one rfl) (by simp; rfl) ⟨by simp, ⟨?_, fun j r hj => ?_, fun j r hj => ?_⟩⟩
  · simp [ho1, pRows_tr (n := .c (.s 3) 0 0) (m := root) (f := finf noD [(.c (.s 3) 0 0, root)]) (p := p) (by simp)]
  · simp [ho2 j r hj]
  · simp [ho3 j r hj]
abbrev qsLb0 : Sch := .q 0 <| .q 1 <| .q 2 <| .q 3 <| .q 4 <| .q 5 <| .q 6 <| .q 7 <| .l 8 [6, 5, 4, 2, 1, 0] <| .q 9 <| .done
theorem eqIntS_fn (gl) (xs ys : List Int) (hx : xs.length ≤ 1048576) (hy : ys.length ≤ 1048576) : FnOk Tryz.prog gl 131 [isl xs, isl ys] (fun _ z _ => z = bv (decide (xs = ys))) := by
  refine FnOk.of_sem Tryz.func131 rfl (by kernel_rfl) (rs := [.tmp 4]) rfl Tryz.ntmps131 (Nat.le_of_ble_eq_true rfl) fun C w g root => ?_
  by_cases hl : xs.length = ys.length
  case neg =>
    have h1 : ((xs.length : Int) == ys.length) = false := by simp; omega
    all_goals have fx := And.intro h1 <| @bne_def
    repeat' (first
     | refine w_seq ?_ | refine w_reg fun K hK => ?_
     | ((with_reducible refine s_end hK ?_); clear hK K)
     | (with_reducible first | refine then_normal ?_ | refine then_ret ?_)
     | refine w_ret ?_
     | (with_reducible first | refine s_none ?_ | refine x_assign (h := ?_))
     | (with_reducible refine x_q (h := ?_))
     | refine x_condt (h1 := ?_)
     | fail)
    all_goals try clear fx
    refine e_ret [] .nil (by simp; rfl) ?_
    have : ¬ xs = ys := fun e => hl (by rw [e])
    simp [this]
  all_goals have fx := And.intro hl <| @bne_def
  repeat' (first
   | refine w_seq ?_ | refine w_block ?_ | refine w_skip ?_ | refine w_reg fun K hK => ?_
   | ((with_reducible refine s_end hK ?_); clear hK K)
   | (with_reducible first | refine then_normal ?_)
   | (with_reducible first | refine s_none ?_ | refine x_assign (h := ?_))
   | (with_reducible refine x_q (h := ?_))
   | refine x_condf (h1 := ?_)
   | fail)
  all_goals try clear fx
  refine w_loop (fun n st => ∃ i : Nat, n = xs.length - i ∧ i ≤ xs.length ∧ st.tm 0 = isl xs ∧ st.tm 1 = isl ys ∧ st.tm 5 = iv i ∧ xs.take i = ys.take i) xs.length ?_ ?_
  · exact ⟨0, by simp⟩
  rintro n st - - ⟨i, rfl, hi, h0, h1, h5, heq⟩
  all_goals have fx := And.intro h0 <| h5
  repeat' (first
   | refine w_seq ?_ | refine w_reg fun K hK => ?_
   | ((with_reducible refine s_end hK ?_); clear hK K)
   | (with_reducible first | refine then_normal ?_)
   | (with_reducible first | refine s_none ?_)
   | (with_reducible refine x_q (h := ?_))
   | fail)
  all_goals try clear fx
  refine w_if (by simp []; first | done | rfl | exact (Bool.not_not _).symm) (fun ht => ?_) (fun hf => ?_)
  · have hlt : i < xs.length := by simpa using ht
    obtain ⟨x, hxi⟩ : ∃ x, xs[i]? = some x := ⟨_, gE (by omega)⟩
    obtain ⟨y, hyi⟩ : ∃ y, ys[i]? = some y := ⟨_, gE (by omega)⟩
    clear ht
    all_goals have fx := And.intro h0 <| And.intro h1 <| And.intro h5 <| And.intro hxi <| And.intro hyi <| @bne_def
    repeat' (first
     | refine w_seq ?_ | refine w_block ?_ | refine w_skip ?_ | refine w_reg fun K hK => ?_
     | ((with_reducible refine s_end hK ?_); clear hK K)
     | (with_reducible first | refine then_normal ?_ | refine then_ret ?_ | refine in_ret ?_)
     | refine w_ret ?_
     | (with_reducible first | refine s_none ?_ | refine x_assign (h := ?_))
     | (with_reducible refine x_q (h := ?_))
     | (refine wSc (id := 6) (.q 0 <| .q 1 <| .q 2 <| .q 3 <| .q 4 <| .q 5 <| .q 6 <| .q 7 <| .q 8 <| .done) mixed fun K hK => ?_)
     | ((with_reducible refine a_end hK ?_); clear hK K)
     | ((with_reducible refine a_id ?_); first | refine xa_q (h := ?_))
     | refine x_if (h1 := fun ht => ?_) (h2 := fun ht => ?_)
     | fail)
    all_goals try clear fx
    all_goals first
      | (refine e_ret [] .nil (by simp; rfl) ?_
         have hne : ¬ xs = ys := fun e => by rw [e, hyi] at hxi; obtain rfl := Option.some.inj hxi; simp at ht
         simp [hne])
      | (have hxy : x = y := by simpa using ht
         refine ⟨xs.length - (i + 1), by omega, i + 1, rfl, by omega, by simp [h0], by simp [h1], by simp; exact wrp (by omega) (by omega), ?_⟩
         rw [List.take_add_one, List.take_add_one, heq, hxi, hyi, hxy])
  · have hge : i = xs.length := by
      have : ¬ i < xs.length := by simpa using hf
      omega
    have : xs = ys := by rw [hge, List.take_length, hl, List.take_length] at heq; exact heq
    all_goals have fx := fx0
    repeat' (first
     | refine w_seq ?_ | refine w_reg fun K hK => ?_
     | ((with_reducible refine s_end hK ?_); clear hK K)
     | (with_reducible first | refine then_normal ?_)
     | refine w_exit ?_
     | refine w_ret ?_
     | (with_reducible first | refine s_none ?_ | refine x_assign (h := ?_))
     | fail)
    all_goals try clear fx
    refine e_ret [] .nil (by simp []; rfl) (by simp [this])
theorem eqStmt_fn (gl) (s t : Stm) : FnOk Tryz.prog gl 171 [s.av, t.av] (fun _ z _ => z = bv (decide (s = t))) := by
  obtain ⟨a, b, c, d⟩ := s
  obtain ⟨a', b', c', d'⟩ := t
  refine FnOk.of_sem Tryz.func171 rfl (by kernel_rfl) (rs := [.tmp 4]) rfl Tryz.ntmps171 (Nat.le_of_ble_eq_true rfl) fun C w g root => ?_
  all_goals have fx :=  @bne_def
  repeat' (first
   | refine w_seq ?_ | refine w_skip ?_ | refine w_reg fun K hK => ?_
   | ((with_reducible refine s_end hK ?_); clear hK K)
   | (with_reducible first | refine then_normal ?_ | refine then_ret ?_)
   | refine w_ret ?_
   | (with_reducible first | refine s_none ?_ | refine x_assign (h := ?_) | refine x_box (h := ?_))
   | (with_reducible refine x_q (h := ?_))
   | refine x_if (h1 := fun ht => ?_) (h2 := fun ht => ?_)
   | fail)
  all_goals try clear fx
  all_goals refine e_ret [] .nil (by simp; rfl) ?_
  all_goals simp_all
theorem eqStmtS_fn (gl) (xs ys : List Stm) (hx : xs.length ≤ 1048576) (hy : ys.length ≤ 1048576) : FnOk Tryz.prog gl 132 [ssl xs, ssl ys] (fun _ z _ => z = bv (decide (xs = ys))) := by
  refine FnOk.of_sem Tryz.func132 rfl (by kernel_rfl) (rs := [.tmp 4]) rfl Tryz.ntmps132 (Nat.le_of_ble_eq_true rfl) fun C w g root => ?_
  by_cases hl : xs.length = ys.length
  case neg =>
    have h1 : ((xs.length : Int) == ys.length) = false := by simp; omega
    all_goals have fx := And.intro h1 <| @bne_def
    repeat' (first
     | refine w_seq ?_ | refine w_reg fun K hK => ?_
     | ((with_reducible refine s_end hK ?_); clear hK K)
     | (with_reducible first | refine then_normal ?_ | refine then_ret ?_)
     | refine w_ret ?_
     | (with_reducible first | refine s_none ?_ | refine x_assign (h := ?_))
     | (with_reducible refine x_q (h := ?_))
     | refine x_condt (h1 := ?_)
     | fail)
    all_goals try clear fx
    refine e_ret [] .nil (by simp; rfl) ?_
    have : ¬ xs = ys := fun e => hl (by rw [e])
    simp [this]
  all_goals have fx := And.intro hl <| @bne_def
  repeat' (first
   | refine w_seq ?_ | refine w_block ?_ | refine w_skip ?_ | refine w_reg fun K hK => ?_
   | ((with_reducible refine s_end hK ?_); clear hK K)
   | (with_reducible first | refine then_normal ?_)
   | (with_reducible first | refine s_none ?_ | refine x_assign (h := ?_))
   | (with_reducible refine x_q (h := ?_))
   | refine x_condf (h1 := ?_)
   | fail)
  all_goals try clear fx
  refine w_loop (fun n st => ∃ i : Nat, n = xs.length - i ∧ i ≤ xs.length ∧ st.tm 0 = ssl xs ∧ st.tm 1 = ssl ys ∧ st.tm 5 = iv i ∧ xs.take i = ys.take i) xs.length ?_ ?_
  · exact ⟨0, by simp⟩
  rintro n st - - ⟨i, rfl, hi, h0, h1, h5, heq⟩
  all_goals have fx := And.intro h0 <| h5
  repeat' (first
   | refine w_seq ?_ | refine w_reg fun K hK => ?_
   | ((with_reducible refine s_end hK ?_); clear hK K)
   | (with_reducible first | refine then_normal ?_)
   | (with_reducible first | refine s_none ?_)
   | (with_reducible refine x_q (h := ?_))
   | fail)
  all_goals try clear fx
  refine w_if (by simp []; first | done | rfl | exact (Bool.not_not _).symm) (fun ht => ?_) (fun hf => ?_)
  · have hlt : i < xs.length := by simpa using ht
    obtain ⟨x, hxi⟩ : ∃ x, xs[i]? = some x := ⟨_, gE (by omega)⟩
    obtain ⟨y, hyi⟩ : ∃ y, ys[i]? = some y := ⟨_, gE (by omega)⟩
    clear ht
    all_goals have fx := And.intro h0 <| And.intro h1 <| And.intro h5 <| And.intro hxi <| hyi
    repeat' (first
     | refine w_seq ?_ | refine w_block ?_ | refine w_skip ?_ | refine w_reg fun K hK => ?_
     | ((with_reducible refine s_end hK ?_); clear hK K)
     | (with_reducible first | refine then_normal ?_ | refine then_ret ?_ | refine in_ret ?_ | refine s_nil ?_)
     | refine w_ret ?_
     | (with_reducible first | refine s_none ?_ | refine x_assign (h := ?_))
     | ((with_reducible refine o_id 171 rfl ?_); refine x_call (hF := eqStmt_fn _ x y) (h := ?_))
     | (with_reducible refine x_q (h := ?_))
     | (refine wSc (id := 6) qsLb0 mixed fun K hK => ?_)
     | ((with_reducible refine a_end hK ?_); clear hK K)
     | ((with_reducible refine a_id ?_); first | refine xa_q (h := ?_))
     | refine a_l rfl ?_ | (with_reducible refine And.intro ?_ ?_) | exact st_nil | refine xa_st (h2 := ?_)
     | refine x_if (h1 := fun ht => ?_) (h2 := fun ht => ?_)
     | fail)
    all_goals try clear fx
    all_goals first
      | (refine e_ret [] .nil (by simp; rfl) ?_
         have hne : ¬ xs = ys := fun e => by rw [e, hyi] at hxi; obtain rfl := Option.some.inj hxi; simp at ht
         simp [hne])
      | (have hxy : x = y := by simpa using ht
         refine ⟨xs.length - (i + 1), by omega, i + 1, rfl, by omega, by simp [h0], by simp [h1], by simp; exact wrp (by omega) (by omega), ?_⟩
         rw [List.take_add_one, List.take_add_one, heq, hxi, hyi, hxy])
  · have hge : i = xs.length := by
      have : ¬ i < xs.length := by simpa using hf
      omega
    have : xs = ys := by rw [hge, List.take_length, hl, List.take_length] at heq; exact heq
    all_goals have fx := fx0
    repeat' (first
     | refine w_seq ?_ | refine w_reg fun K hK => ?_
     | ((with_reducible refine s_end hK ?_); clear hK K)
     | (with_reducible first | refine then_normal ?_)
     | refine w_exit ?_
     | refine w_ret ?_
     | (with_reducible first | refine s_none ?_ | refine x_assign (h := ?_))
     | fail)
    all_goals try clear fx
    refine e_ret [] .nil (by simp []; rfl) (by simp [this])
theorem eqBlock_fn (gl) (k l : Blk) (hk : BSm k) (hl : BSm l) : FnOk Tryz.prog gl 80 [k.av, l.av] (fun _ z _ => z = bv (decide (k = l))) := by
  obtain ⟨a, b, c, d⟩ := k
  obtain ⟨a', b', c', d'⟩ := l
  have h1 := eqIntS_fn gl c c' hk.params hl.params
  have h2 := eqStmtS_fn gl d d' hk.body hl.body
  refine FnOk.of_sem Tryz.func80 rfl (by kernel_rfl) (rs := [.tmp 4]) rfl Tryz.ntmps80 (Nat.le_of_ble_eq_true rfl) fun C w g root => ?_
  all_goals have fx :=  @bne_def
  repeat' (first
   | refine w_seq ?_ | refine w_skip ?_ | refine w_reg fun K hK => ?_
   | ((with_reducible refine s_end hK ?_); clear hK K)
   | (with_reducible first | refine then_normal ?_ | refine then_ret ?_)
   | refine w_ret ?_
   | (with_reducible first | refine s_none ?_ | refine x_assign (h := ?_) | refine x_box (h := ?_))
   | ((with_reducible refine o_id 131 rfl ?_); refine x_call (hF := h1) (h := ?_))
   | ((with_reducible refine o_id 132 rfl ?_); refine x_call (hF := h2) (h := ?_))
   | (with_reducible refine x_q (h := ?_))
   | refine x_if (h1 := fun ht => ?_) (h2 := fun ht => ?_)
   | fail)
  all_goals try clear fx
  all_goals refine e_ret [] .nil (by simp; rfl) ?_
  all_goals simp_all
theorem eqBlockS_fn (gl) (xs ys : Prg) (hx : Sml xs) (hy : Sml ys) : FnOk Tryz.prog gl 34 [ksl xs, ksl ys] (fun _ z _ => z = bv (decide (xs = ys))) := by
  have hxl := hx.len
  have hyl := hy.len
  refine FnOk.of_sem Tryz.func34 rfl (by kernel_rfl) (rs := [.tmp 4]) rfl Tryz.ntmps34 (Nat.le_of_ble_eq_true rfl) fun C w g root => ?_
  by_cases hl : xs.length = ys.length
  case neg =>
    have h1 : ((xs.length : Int) == ys.length) = false := by simp; omega
    all_goals have fx := And.intro h1 <| @bne_def
    repeat' (first
     | refine w_seq ?_ | refine w_reg fun K hK => ?_
     | ((with_reducible refine s_end hK ?_); clear hK K)
     | (with_reducible first | refine then_normal ?_ | refine then_ret ?_)
     | refine w_ret ?_
     | (with_reducible first | refine s_none ?_ | refine x_assign (h := ?_))
     | (with_reducible refine x_q (h := ?_))
     | refine x_condt (h1 := ?_)
     | fail)
    all_goals try clear fx
    refine e_ret [] .nil (by simp; rfl) ?_
    have : ¬ xs = ys := fun e => hl (by rw [e])
    simp [this]
  all_goals have fx := And.intro hl <| @bne_def
  repeat' (first
   | refine w_seq ?_ | refine w_block ?_ | refine w_skip ?_ | refine w_reg fun K hK => ?_
   | ((with_reducible refine s_end hK ?_); clear hK K)
   | (with_reducible first | refine then_normal ?_)
   | (with_reducible first | refine s_none ?_ | refine x_assign (h := ?_))
   | (with_reducible refine x_q (h := ?_))
   | refine x_condf (h1 := ?_)
   | fail)
  all_goals try clear fx
  refine w_loop (fun n st => ∃ i : Nat, n = xs.length - i ∧ i ≤ xs.length ∧ st.tm 0 = ksl xs ∧ st.tm 1 = ksl ys ∧ st.tm 5 = iv i ∧ xs.take i = ys.take i) xs.length ?_ ?_
  · exact ⟨0, by simp⟩
  rintro n st - - ⟨i, rfl, hi, h0, h1, h5, heq⟩
  all_goals have fx := And.intro h0 <| h5
  repeat' (first
   | refine w_seq ?_ | refine w_reg fun K hK => ?_
   | ((with_reducible refine s_end hK ?_); clear hK K)
   | (with_reducible first | refine then_normal ?_)
   | (with_reducible first | refine s_none ?_)
   | (with_reducible refine x_q (h := ?_))
   | fail)
  all_goals try clear fx
  refine w_if (by simp []; first | done | rfl | exact (Bool.not_not _).symm) (fun ht => ?_) (fun hf => ?_)
  · have hlt : i < xs.length := by simpa using ht
    obtain ⟨x, hxi⟩ : ∃ x, xs[i]? = some x := ⟨_, gE (by omega)⟩
    obtain ⟨y, hyi⟩ : ∃ y, ys[i]? = some y := ⟨_, gE (by omega)⟩
    clear ht
    all_goals have fx := And.intro h0 <| And.intro h1 <| And.intro h5 <| And.intro hxi <| hyi
    repeat' (first
     | refine w_seq ?_ | refine w_block ?_ | refine w_skip ?_ | refine w_reg fun K hK => ?_
     | ((with_reducible refine s_end hK ?_); clear hK K)
     | (with_reducible first | refine then_normal ?_ | refine then_ret ?_ | refine in_ret ?_ | refine s_nil ?_)
     | refine w_ret ?_
     | (with_reducible first | refine s_none ?_ | refine x_assign (h := ?_))
     | ((with_reducible refine o_id 80 rfl ?_); refine x_call (hF := eqBlock_fn _ x y (hx.bsm hxi) (hy.bsm hyi)) (h := ?_))
     | (with_reducible refine x_q (h := ?_))
     | (refine wSc (id := 6) qsLb0 mixed fun K hK => ?_)
     | ((with_reducible refine a_end hK ?_); clear hK K)
     | ((with_reducible refine a_id ?_); first | refine xa_q (h := ?_))
     | refine a_l rfl ?_ | (with_reducible refine And.intro ?_ ?_) | exact st_nil | refine xa_st (h2 := ?_)
     | refine x_if (h1 := fun ht => ?_) (h2 := fun ht => ?_)
     | fail)
    all_goals try clear fx
    all_goals first
      | (refine e_ret [] .nil (by simp; rfl) ?_
         have hne : ¬ xs = ys := fun e => by rw [e, hyi] at hxi; obtain rfl := Option.some.inj hxi; simp at ht
         simp [hne])
      | (have hxy : x = y := by simpa using ht
         refine ⟨xs.length - (i + 1), by omega, i + 1, rfl, by omega, by simp [h0], by simp [h1], by simp; exact wrp (by omega) (by omega), ?_⟩
         rw [List.take_add_one, List.take_add_one, heq, hxi, hyi, hxy])
  · have hge : i = xs.length := by
      have : ¬ i < xs.length := by simpa using hf
      omega
    have : xs = ys := by rw [hge, List.take_length, hl, List.take_length] at heq; exact heq
    all_goals have fx := fx0
    repeat' (first
     | refine w_seq ?_ | refine w_reg fun K hK => ?_
     | ((with_reducible refine s_end hK ?_); clear hK K)
     | (with_reducible first | refine then_normal ?_)
     | refine w_exit ?_
     | refine w_ret ?_
     | (with_reducible first | refine s_none ?_ | refine x_assign (h := ?_))
     | fail)
    all_goals try clear fx
    refine e_ret [] .nil (by simp []; rfl) (by simp [this])
theorem eqProgram_fn (gl) (xs ys : Prg) (hx : Sml xs) (hy : Sml ys) : FnOk Tryz.prog gl 11 [pav xs, pav ys] (fun _ z _ => z = bv (decide (xs = ys))) := by
  refine FnOk.of_sem Tryz.func11 rfl (by kernel_rfl) (rs := [.tmp 4]) rfl Tryz.ntmps11 (Nat.le_of_ble_eq_true rfl) fun C w g root => ?_
  all_goals have fx := fx0
  repeat' (first
   | refine w_seq ?_ | refine w_skip ?_ | refine w_reg fun K hK => ?_
   | ((with_reducible refine s_end hK ?_); clear hK K)
   | (with_reducible first | refine then_normal ?_ | refine then_ret ?_)
   | refine w_ret ?_
   | (with_reducible first | refine s_none ?_ | refine x_assign (h := ?_) | refine x_box (h := ?_))
   | ((with_reducible refine o_id 34 rfl ?_); refine x_call (hF := eqBlockS_fn _ xs ys hx hy) (h := ?_))
   | (with_reducible refine x_q (h := ?_))
   | refine x_if (h1 := fun ht => ?_) (h2 := fun ht => ?_)
   | fail)
  all_goals try clear fx
  all_goals refine e_ret [] .nil (by simp; rfl) ?_
  all_goals simp_all
end Go.Proofs.YtmaoicgfcngciaaGreatDoor
end
section
namespace Go.Proofs.YtmaoicgfcngciaaGreatDoor
open Go Go.Hm Go.Proofs
end Go.Proofs.YtmaoicgfcngciaaGreatDoor
end
section
namespace Go.Proofs.YtmaoicgfcngciaaGreatDoor
open Go Go.Hm Go.Proofs
abbrev qsUj0 : Sch := .q 0 <| .q 1 <| .l 2 [0] <| .l 3 [] <| .q 4 <| .done
theorem FnExactShowCode_fn (gl : Nat → Option (List AV)) (hgl : gl 0 = some ((vtx opW).map AV.sc)) (hgc : gl 3 = some codesL) (p : Prg) (b : Int) (hb : Big p) : FnOk Tryz.prog gl 4 [pav p, iv b] (fun _ y _ => y = bv true) := by
  refine FnOk.of_sem Tryz.func4 rfl (by kernel_rfl) (rs := [.tmp 4]) rfl Tryz.ntmps4 (Nat.le_of_ble_eq_true rfl) fun C w g root => ?_
  by_cases ht : tot p ≤ 1048576
  case neg =>
    have fx :=  ht
    have c1 := szProgram_fn gl p hb
    refine k_run ?_
    repeat ((first | refine wSc (id := 10) qsUj0 mixed ?_); refine k_rund ?_; refine k_run ?_)
    clear fx c1
    refine e_ret [] .nil (by simp; rfl) (by simp)
  have hs := tot_sml ht
  have hge : ¬ 1048576 - (tot p : Int) < 0 := by omega
  have hsa := spec_ShowCode_fn gl p b hs
  have hia := impl_ShowCode_fn gl hgl hgc p b hs
  generalize fmtO (codeG p b).ops = v at hsa hia
  have fx := And.intro ht <| hge
  have c1 := szProgram_fn gl p hb
  have e1 := toProgram_fn gl p hs
  refine k_run ?_
  repeat ((first | refine wSc (id := 10) qsUj0 mixed ?_); refine k_rund ?_; refine k_run ?_)
  clear fx c1 e1
  rintro K hK y H1 ⟨rfl, hO⟩
  obtain ⟨ho1, ho2, ho3⟩ := hO.hcln
  refine ⟨by simp, ?_⟩
  have fx := And.intro ht <| hge
  have c1 := hsa
  refine k_run ?_
  repeat ((first | refine wSc (id := 10) qsUj0 mixed ?_); refine k_rund ?_; refine k_run ?_)
  clear fx c1
  intro K hK
  refine o_abs (fun st => st.tm 2 = .pt (.s 2) 0 ∧ st.hp (.s 2) = some (.row 1 [[ksl p]]) ∧ st.tm 6 = tx v ∧ st.tm 1 = iv b ∧ st.tm 18 = pav p) ⟨by simp, by simp, by simp, by simp, by simp⟩ ?_
  clear hO ho1 ho2 ho3
  rintro st ⟨h2, hp2, h6, h1, h18⟩
  have fx := And.intro h2 <| And.intro hp2 <| And.intro h6 <| And.intro h1 <| h18
  have e1 := toProgram_fn gl p hs
  refine k_run ?_
  repeat ((first | refine wSc (id := 10) qsUj0 mixed ?_); refine k_rund ?_; refine k_run ?_)
  clear fx e1
  rintro y H2 ⟨rfl, hO⟩
  obtain ⟨b1, b2, b3⟩ := hO.hcln
  refine ⟨by simp, ?_⟩
  have fx := And.intro h2 <| And.intro hp2 <| And.intro h6 <| And.intro h1 <| And.intro b1 <| @bne_def
  have c1 := hia
  have e1 := toProgram_fn gl p hs
  refine k_run ?_
  repeat ((first | refine wSc (id := 10) qsUj0 mixed ?_); refine k_rund ?_; refine k_run ?_)
  clear fx c1 e1
  rintro K hK y H3 ⟨rfl, hO3⟩
  obtain ⟨ho1, ho2, ho3⟩ := hO3.hcln
  refine ⟨by simp, ?_⟩
  have fx := And.intro h2 <| And.intro hp2 <| And.intro b1 <| ho1
  have c1 := eqProgram_fn gl p p hs hs
  refine k_run ?_
  repeat ((first | refine wSc (id := 10) qsUj0 mixed ?_); refine k_rund ?_; refine k_run ?_)
  clear fx c1
  refine e_ret [] .nil (by simp; rfl) (by simp)
end Go.Proofs.YtmaoicgfcngciaaGreatDoor
end
section
namespace Go.Proofs.YtmaoicgfcngciaaGreatDoor
open Go.ChangeShapes Go.WideShapes Go.ChangeAt Go.RowKit Go.Deep Go.Hm
theorem law_u3 : Tryz.prog.underlying 3 = some (.int .i64) := by kernel_rfl
theorem law_c3 : Tryz.prog.cellsOf 3 = 1 := by kernel_rfl
theorem law_b3 : Tryz.prog.bytesOf 3 = 8 := by kernel_rfl
theorem law_u145 : Tryz.prog.underlying 237 = some (.struct #[{ name := "Kind", type := 3, offset := 0, embedded := false, tag := "", pkgPath := "", byteOffset := 0 }, { name := "To", type := 3, offset := 1, embedded := false, tag := "", pkgPath := "", byteOffset := 8 }, { name := "A", type := 3, offset := 2, embedded := false, tag := "", pkgPath := "", byteOffset := 16 }, { name := "B", type := 3, offset := 3, embedded := false, tag := "", pkgPath := "", byteOffset := 24 }]) := by kernel_rfl
theorem law_o145 : oneCellFields Tryz.prog #[{ name := "Kind", type := 3, offset := 0, embedded := false, tag := "", pkgPath := "", byteOffset := 0 }, { name := "To", type := 3, offset := 1, embedded := false, tag := "", pkgPath := "", byteOffset := 8 }, { name := "A", type := 3, offset := 2, embedded := false, tag := "", pkgPath := "", byteOffset := 16 }, { name := "B", type := 3, offset := 3, embedded := false, tag := "", pkgPath := "", byteOffset := 24 }] = true := by kernel_rfl
theorem law_c145 : Tryz.prog.cellsOf 237 = 4 := by kernel_rfl
theorem law_b145 : Tryz.prog.bytesOf 237 = 32 := by kernel_rfl
theorem law_u90 : Tryz.prog.underlying 130 = some (.struct #[{ name := "Kind", type := 3, offset := 0, embedded := false, tag := "", pkgPath := "", byteOffset := 0 }, { name := "Parent", type := 3, offset := 1, embedded := false, tag := "", pkgPath := "", byteOffset := 8 }, { name := "Params", type := 41, offset := 2, embedded := false, tag := "", pkgPath := "", byteOffset := 16 }, { name := "Body", type := 128, offset := 3, embedded := false, tag := "", pkgPath := "", byteOffset := 40 }]) := by kernel_rfl
theorem law_o90 : oneCellFields Tryz.prog #[{ name := "Kind", type := 3, offset := 0, embedded := false, tag := "", pkgPath := "", byteOffset := 0 }, { name := "Parent", type := 3, offset := 1, embedded := false, tag := "", pkgPath := "", byteOffset := 8 }, { name := "Params", type := 41, offset := 2, embedded := false, tag := "", pkgPath := "", byteOffset := 16 }, { name := "Body", type := 128, offset := 3, embedded := false, tag := "", pkgPath := "", byteOffset := 40 }] = true := by kernel_rfl
theorem law_c90 : Tryz.prog.cellsOf 130 = 4 := by kernel_rfl
theorem law_b90 : Tryz.prog.bytesOf 130 = 64 := by kernel_rfl
theorem law_u24 : Tryz.prog.underlying 32 = some (.struct #[{ name := "Blocks", type := 30, offset := 0, embedded := false, tag := "", pkgPath := "", byteOffset := 0 }]) := by kernel_rfl
theorem law_o24 : oneCellFields Tryz.prog #[{ name := "Blocks", type := 30, offset := 0, embedded := false, tag := "", pkgPath := "", byteOffset := 0 }] = true := by kernel_rfl
theorem law_c24 : Tryz.prog.cellsOf 32 = 1 := by kernel_rfl
theorem law_u41 : Tryz.prog.underlying 41 = some (.slice 3) := by kernel_rfl
theorem law_u88 : Tryz.prog.underlying 128 = some (.slice 237) := by kernel_rfl
theorem law_u22 : Tryz.prog.underlying 30 = some (.slice 130) := by kernel_rfl
set_option maxRecDepth 100000 in
theorem rd_program {H : Type} {enc : TypeId × Value → H} {w : World} {r : Reach} {b0 : Nat} {v : Value} {d : DataW H} {p : List MemPlace} (hv : Value.okWide Tryz.prog w r b0 32 v) (h : DataW.Trod enc Tryz.prog w 0 (fun _ => true) true 32 v d p)
    (hw : ∀ m ∈ d.weights Tryz.prog 32, m ≤ reachBytes) : ∃ x : Prg, Big x ∧ RV (g0 w) w v (pav x) := by
  refine rd_prog (P := Tryz.prog) (w := w) (tp := (32 : TypeId)) (v := v) (d := d) (p := p) (r := r) (q0 := b0) (enc := enc) law_u3 law_c3 (by rw [law_b3]; decide) law_u145 law_o145 law_c145 (by rw [law_b145]; decide) rfl rfl rfl rfl law_u41 law_u88 law_u90 law_o90 law_c90 (by rw [law_b90]; decide) rfl rfl rfl rfl law_u22 law_u24 law_o24 law_c24 rfl ?_ ?_ ?_
  · assumption
  · assumption
  · assumption
theorem law_own : ownKnob Tryz.prog.godebug = none := by kernel_rfl
theorem law_laid : laidOutB Tryz.prog = true := by kernel_rfl
theorem law_bool : Tryz.prog.underlying 4 = some .bool := by kernel_rfl
end Go.Proofs.YtmaoicgfcngciaaGreatDoor
end
section
namespace Go.Proofs.YtmaoicgfcngciaaGreatDoor
open Go Go.Hm Go.Proofs
theorem pf_laid : laidOutB Tryz.prog = true := by kernel_rfl
theorem pf_maps : mapsRowed Tryz.prog = true := by kernel_rfl
theorem pf_stops : (Tryz.prog.stops == []) = true := by kernel_rfl
theorem pf_knobs : (Tryz.prog.stopKnobs == []) = true := by kernel_rfl
theorem pf_keys : Tryz.prog.plainKeys = true := by kernel_rfl
theorem pf_heard : Tryz.prog.stopsHeard = true := by kernel_rfl
theorem pf_may : Tryz.prog.mayEnter = true := by kernel_rfl
theorem pf_lifts : Tryz.prog.liftsFinal = false := by kernel_rfl
theorem pf_make : (Tryz.prog.make == some .cut) = true := by kernel_rfl
theorem progFacts : ProgFacts Tryz.prog := ⟨pf_laid, pf_maps, pf_stops, pf_knobs, pf_keys, pf_heard, pf_may, pf_lifts, pf_make⟩
end Go.Proofs.YtmaoicgfcngciaaGreatDoor
end
