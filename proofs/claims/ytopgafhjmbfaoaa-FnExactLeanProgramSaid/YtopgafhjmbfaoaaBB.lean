/-
  Own texts, joined by merge.py: Gd, Ge, Gf, Gg.
-/
import Derived.Test.YtopgafhjmbfaoaaBA
import Derived.Test.YtopgafhjmbfaoaaA4

section
/-
  Functions of the reference on names in blocks: what they return.
-/
set_option maxRecDepth 100000
set_option maxHeartbeats 1000000
set_option linter.unusedSimpArgs false
namespace Go.Proofs.Ytopgafhjmbfaoaa
open Go Go.Hm Go.Proofs

theorem isLocal_fn (gl) (p : Prg) (b : Nat) (k : Blk) (x : Int) (hk : p[b]? = some k) (hs : BSm k) : FnOk Try.prog gl 41 [pav p, iv b, iv x] (fun _ y _ => y = bv (isLocal b k x)) := by
  refine FnOk.of_sem Try.func41 rfl (by kernel_rfl) (rs := [.tmp 6]) rfl Try.ntmps41 (Nat.le_of_ble_eq_true rfl) fun C w g root => ?_
  all_goals have fx :=  hk
  repeat' (first
   | refine w_seq ?_ | refine w_reg fun K hK => ?_
   | ((with_reducible refine s_end hK ?_); clear hK K)
   | (with_reducible first | refine then_normal ?_ | refine then_ret ?_)
   | refine w_ret ?_
   | (with_reducible refine s_none ?_)
   | ((with_reducible refine g_id ?_); refine x_guard (h := ?_))
   | (with_reducible first | refine gx_tt ?_ | refine gx_ff ?_ | refine x_tf (h := ?_) | refine x_ft (h := ?_) | refine x_u (h := ?_) | refine x_assign (h := ?_) | refine x_box (h := ?_))
   | ((with_reducible refine o_id 73 rfl ?_); refine x_callh (hF := bound_fn _ p b k hk hs) (h := ?_))
   | ((with_reducible refine o_id 43 rfl ?_); refine x_call (hF := has_fn _ _ _ (by first | exact Nat.le_trans (Blk.bd_len _) (by decide) | exact Nat.le_trans (Blk.dc_len _ _) (by decide) | exact Nat.le_trans (Blk.rd_len _) (by decide))) (h := ?_))
   | ((with_reducible refine o_id 68 rfl ?_); refine x_callh (hF := declared_fn _ p b k _ hk hs) (h := ?_))
   | (with_reducible refine x_q (h := ?_))
   | (with_reducible refine gx_s (fun ht => ?_) (fun ht => ?_))
   | fail)
  all_goals try clear fx
  all_goals refine e_ret [] .nil (by simp; rfl) ?_
  all_goals simp_all [isLocal]

end Go.Proofs.Ytopgafhjmbfaoaa
end

section
/-
  Functions of the reference on names in blocks: what they return.
-/
set_option maxRecDepth 100000
set_option maxHeartbeats 1000000
set_option linter.unusedSimpArgs false
namespace Go.Proofs.Ytopgafhjmbfaoaa
open Go Go.Hm Go.Proofs

theorem outer_fn (gl) (p : Prg) (b : Nat) (k : Blk) (x : Int) (hk : p[b]? = some k) (hs : Sml p) (hh : Heads p) : FnOk Try.prog gl 69 [pav p, iv b, iv x] (fun _ y _ => y = iv (outer p b x)) := by
  refine FnOk.of_sem Try.func69 rfl (by kernel_rfl) (rs := [.tmp 6]) rfl Try.ntmps69 (Nat.le_of_ble_eq_true rfl) fun C w g root => ?_
  all_goals have fx :=  hk
  repeat' (first
   | refine w_seq ?_ | refine w_block ?_ | refine w_skip ?_ | refine w_reg fun K hK => ?_
   | ((with_reducible refine s_end hK ?_); clear hK K)
   | (with_reducible first | refine then_normal ?_ | refine in_normal ?_ | refine then_exit ?_ | refine in_exit ?_ | refine then_ret ?_ | refine in_ret ?_ | refine in_other (by decide) ?_)
   | refine w_exit ?_
   | refine w_ret ?_
   | (with_reducible first | refine s_none ?_ | refine x_assign (h := ?_) | refine x_box (h := ?_))
   | (with_reducible refine x_q (h := ?_))
   | refine x_condt (h1 := ?_) | refine x_condf (h1 := ?_)
   | fail)
  all_goals try clear fx
  obtain ⟨hk1, hk2, _⟩ := hh b k hk
  have hbl : b < p.length := (List.getElem?_eq_some_iff.1 hk).1
  refine w_loop (fun n st => ∃ j : Int, n = (j + 1).toNat ∧ -1 ≤ j ∧ j < p.length ∧ outerF p x p.length j = outer p b x ∧ st.tm 2 = iv x ∧ st.tm 3 = .pt (.s 3) 0 ∧ st.hp (.s 3) = some (.row 1 [[ksl p]]) ∧ st.tm 7 = iv j) (k.parent + 1).toNat ?_ ?_
  · exact ⟨k.parent, rfl, hk1, by omega, (outer_fuel hh hk).symm, by simp⟩
  rintro n st - - ⟨j, rfl, hj1, hj2, ho, h2, h3, hp3, h7⟩
  all_goals have fx := And.intro h2 <| And.intro h3 <| And.intro hp3 <| h7
  repeat' (first
   | refine w_seq ?_ | refine w_block ?_ | refine w_skip ?_ | refine w_reg fun K hK => ?_
   | ((with_reducible refine s_end hK ?_); clear hK K)
   | (with_reducible first | refine then_normal ?_ | refine in_normal ?_ | refine then_exit ?_ | refine in_exit ?_ | refine then_ret ?_ | refine in_ret ?_ | refine in_other (by decide) ?_)
   | refine w_exit ?_
   | refine w_ret ?_
   | (with_reducible first | refine s_none ?_ | refine x_assign (h := ?_) | refine x_box (h := ?_))
   | (with_reducible refine x_q (h := ?_))
   | refine x_condt (h1 := ?_) | refine x_condf (h1 := ?_)
   | fail)
  all_goals try clear fx
  refine w_if (by simp []; first | done | rfl | exact (Bool.not_not _).symm) (fun ht => ?_) (fun hf => ?_)
  · have hj0 : 0 < j := by simpa using ht
    obtain ⟨j, rfl⟩ : ∃ i : Nat, j = i := ⟨j.toNat, by omega⟩
    have hj0 : 0 < j := by omega
    obtain ⟨q, hq⟩ : ∃ q, p[j]? = some q := ⟨_, List.getElem?_eq_getElem (by omega)⟩
    rw [outerF_step hh hq hj0] at ho
    obtain ⟨hq1, hq2, hq3⟩ := hh j q hq
    cases hc : (q.kind == 1)
    · skip
      all_goals have fx := And.intro h2 <| And.intro h3 <| And.intro hp3 <| And.intro h7 <| And.intro hq <| And.intro hc <| @bne_def
      repeat' (first
       | refine w_seq ?_ | refine w_block ?_ | refine w_skip ?_ | refine w_reg fun K hK => ?_
       | ((with_reducible refine s_end hK ?_); clear hK K)
       | (with_reducible first | refine then_normal ?_ | refine in_normal ?_ | refine then_exit ?_ | refine in_exit ?_ | refine then_ret ?_ | refine in_ret ?_ | refine in_other (by decide) ?_)
       | refine w_exit ?_
       | refine w_ret ?_
       | (with_reducible first | refine s_none ?_ | refine x_assign (h := ?_) | refine x_box (h := ?_))
       | (with_reducible refine x_q (h := ?_))
       | refine x_condt (h1 := ?_) | refine x_condf (h1 := ?_)
       | fail)
      all_goals try clear fx
      refine ⟨(q.parent + 1).toNat, by omega, q.parent, rfl, hq1, by omega, ?_, by simp [h2, h3, hp3]⟩
      rw [← ho, if_pos (by simpa using hc)]
    · rw [if_neg (by simpa using hc)] at ho
      all_goals have fx := And.intro h2 <| And.intro h3 <| And.intro hp3 <| And.intro h7 <| And.intro hq <| And.intro hc <| @bne_def
      repeat' (first
       | refine w_seq ?_ | refine w_block ?_ | refine w_skip ?_ | refine w_reg fun K hK => ?_
       | ((with_reducible refine s_end hK ?_); clear hK K)
       | (with_reducible first | refine then_normal ?_ | refine in_normal ?_ | refine then_exit ?_ | refine in_exit ?_ | refine then_ret ?_ | refine in_ret ?_ | refine in_other (by decide) ?_)
       | refine w_exit ?_
       | refine w_ret ?_
       | (with_reducible first | refine s_none ?_ | refine x_assign (h := ?_) | refine x_box (h := ?_))
       | ((with_reducible refine o_id 68 rfl ?_); refine x_callh (hF := declared_fn _ p j q _ hq (hs.bsm hq)) (h := ?_))
       | ((with_reducible refine o_id 43 rfl ?_); refine x_call (hF := has_fn _ _ _ (Nat.le_trans (Blk.dc_len _ _) (by decide))) (h := ?_))
       | (with_reducible refine x_q (h := ?_))
       | refine x_condt (h1 := ?_) | refine x_condf (h1 := ?_)
       | fail)
      all_goals try clear fx
      refine w_if (by simp []; first | done | rfl | exact (Bool.not_not _).symm) (fun ht => ?_) (fun hf => ?_)
      · have hm : x ∈ q.dc 9 := by simpa using ht
        rw [if_pos hm] at ho
        all_goals have fx := And.intro h2 <| And.intro h3 <| And.intro hp3 <| And.intro h7 <| hq
        repeat' (first
         | refine w_seq ?_ | refine w_block ?_ | refine w_skip ?_ | refine w_reg fun K hK => ?_
         | ((with_reducible refine s_end hK ?_); clear hK K)
         | (with_reducible first | refine then_normal ?_ | refine in_normal ?_ | refine then_exit ?_ | refine in_exit ?_ | refine then_ret ?_ | refine in_ret ?_ | refine in_other (by decide) ?_)
         | refine w_exit ?_
         | refine w_ret ?_
         | (with_reducible first | refine s_none ?_ | refine x_assign (h := ?_) | refine x_box (h := ?_))
         | (with_reducible refine x_q (h := ?_))
         | refine x_condt (h1 := ?_) | refine x_condf (h1 := ?_)
         | fail)
        all_goals try clear fx
        refine e_ret [] .nil (by simp []; rfl) (by simp [← ho])
      · have hm : ¬ x ∈ q.dc 9 := by simpa using hf
        rw [if_neg hm] at ho
        all_goals have fx := And.intro h2 <| And.intro h3 <| And.intro hp3 <| And.intro h7 <| hq
        repeat' (first
         | refine w_seq ?_ | refine w_block ?_ | refine w_skip ?_ | refine w_reg fun K hK => ?_
         | ((with_reducible refine s_end hK ?_); clear hK K)
         | (with_reducible first | refine then_normal ?_ | refine in_normal ?_ | refine then_exit ?_ | refine in_exit ?_ | refine then_ret ?_ | refine in_ret ?_ | refine in_other (by decide) ?_)
         | refine w_exit ?_
         | refine w_ret ?_
         | (with_reducible first | refine s_none ?_ | refine x_assign (h := ?_) | refine x_box (h := ?_))
         | ((with_reducible refine o_id 41 rfl ?_); refine x_call (hF := isLocal_fn _ p j q x hq (hs.bsm hq)) (h := ?_))
         | (with_reducible refine x_q (h := ?_))
         | refine x_condt (h1 := ?_) | refine x_condf (h1 := ?_)
         | fail)
        all_goals try clear fx
        refine w_if (by simp []; first | done | rfl | exact (Bool.not_not _).symm) (fun ht => ?_) (fun hf => ?_)
        · rw [if_pos ht] at ho
          all_goals have fx := And.intro h2 <| And.intro h3 <| And.intro hp3 <| And.intro h7 <| hq
          repeat' (first
           | refine w_seq ?_ | refine w_block ?_ | refine w_skip ?_ | refine w_reg fun K hK => ?_
           | ((with_reducible refine s_end hK ?_); clear hK K)
           | (with_reducible first | refine then_normal ?_ | refine in_normal ?_ | refine then_exit ?_ | refine in_exit ?_ | refine then_ret ?_ | refine in_ret ?_ | refine in_other (by decide) ?_)
           | refine w_exit ?_
           | refine w_ret ?_
           | (with_reducible first | refine s_none ?_ | refine x_assign (h := ?_) | refine x_box (h := ?_))
           | (with_reducible refine x_q (h := ?_))
           | refine x_condt (h1 := ?_) | refine x_condf (h1 := ?_)
           | fail)
          all_goals try clear fx
          refine e_ret [] .nil (by simp []; rfl) (by simp [← ho])
        · rw [if_neg (by simp [hf])] at ho
          all_goals have fx := And.intro h2 <| And.intro h3 <| And.intro hp3 <| And.intro h7 <| hq
          repeat' (first
           | refine w_seq ?_ | refine w_block ?_ | refine w_skip ?_ | refine w_reg fun K hK => ?_
           | ((with_reducible refine s_end hK ?_); clear hK K)
           | (with_reducible first | refine then_normal ?_ | refine in_normal ?_ | refine then_exit ?_ | refine in_exit ?_ | refine then_ret ?_ | refine in_ret ?_ | refine in_other (by decide) ?_)
           | refine w_exit ?_
           | refine w_ret ?_
           | (with_reducible first | refine s_none ?_ | refine x_assign (h := ?_) | refine x_box (h := ?_))
           | (with_reducible refine x_q (h := ?_))
           | refine x_condt (h1 := ?_) | refine x_condf (h1 := ?_)
           | fail)
          all_goals try clear fx
          refine ⟨(q.parent + 1).toNat, by omega, q.parent, rfl, hq1, by omega, ho, by simp [h2, h3, hp3]⟩
  · have hj : j ≤ 0 := by simpa using hf
    rw [outerF_end hj] at ho
    all_goals have fx := fx0
    repeat' (first
     | refine w_seq ?_ | refine w_block ?_ | refine w_skip ?_ | refine w_reg fun K hK => ?_
     | ((with_reducible refine s_end hK ?_); clear hK K)
     | (with_reducible first | refine then_normal ?_ | refine in_normal ?_ | refine then_exit ?_ | refine in_exit ?_ | refine then_ret ?_ | refine in_ret ?_ | refine in_other (by decide) ?_)
     | refine w_exit ?_
     | refine w_ret ?_
     | (with_reducible first | refine s_none ?_ | refine x_assign (h := ?_) | refine x_box (h := ?_))
     | (with_reducible refine x_q (h := ?_))
     | refine x_condt (h1 := ?_) | refine x_condf (h1 := ?_)
     | fail)
    all_goals try clear fx
    refine e_ret [] .nil (by simp []; rfl) (by simp [← ho])
end Go.Proofs.Ytopgafhjmbfaoaa
end

section
/-
  Functions of the reference on names in blocks: what they return.
-/
set_option maxRecDepth 100000
set_option maxHeartbeats 1000000
set_option linter.unusedSimpArgs false
namespace Go.Proofs.Ytopgafhjmbfaoaa
open Go Go.Hm Go.Proofs

theorem owner_fn (gl) (p : Prg) (b : Nat) (k : Blk) (x : Int) (hk : p[b]? = some k) (hs : Sml p) (hh : Heads p) : FnOk Try.prog gl 72 [pav p, iv b, iv x] (fun _ y _ => y = iv (owner p b x)) := by
  refine FnOk.of_sem Try.func72 rfl (by kernel_rfl) (rs := [.tmp 6]) rfl Try.ntmps72 (Nat.le_of_ble_eq_true rfl) fun C w g root => ?_
  all_goals have fx :=  hk
  repeat' (first
   | refine w_seq ?_ | refine w_skip ?_ | refine w_reg fun K hK => ?_
   | ((with_reducible refine s_end hK ?_); clear hK K)
   | (with_reducible first | refine then_normal ?_ | refine then_ret ?_)
   | refine w_ret ?_
   | (with_reducible refine s_none ?_)
   | ((with_reducible refine g_id ?_); refine x_guard (h := ?_))
   | (with_reducible first | refine gx_tt ?_ | refine gx_ff ?_ | refine x_tf (h := ?_) | refine x_ft (h := ?_) | refine x_u (h := ?_) | refine x_assign (h := ?_) | refine x_box (h := ?_))
   | ((with_reducible refine o_id 68 rfl ?_); refine x_callh (hF := declared_fn _ p b k _ hk (hs.bsm hk)) (h := ?_))
   | ((with_reducible refine o_id 43 rfl ?_); refine x_call (hF := has_fn _ _ _ (Nat.le_trans (Blk.dc_len _ _) (by decide))) (h := ?_))
   | ((with_reducible refine o_id 41 rfl ?_); refine x_call (hF := isLocal_fn _ p b k x hk (hs.bsm hk)) (h := ?_))
   | ((with_reducible refine o_id 69 rfl ?_); refine x_call (hF := outer_fn _ p b k x hk hs hh) (h := ?_))
   | (with_reducible refine x_q (h := ?_))
   | (with_reducible refine gx_s (fun ht => ?_) (fun ht => ?_))
   | refine x_condt (h1 := ?_) | refine x_condf (h1 := ?_)
   | refine x_if (h1 := fun ht => ?_) (h2 := fun ht => ?_)
   | fail)
  all_goals try clear fx
  all_goals refine e_ret [] .nil (by simp; rfl) ?_
  all_goals simp_all [owner]

theorem madeAs_fn (gl) (p : Prg) (b : Nat) (j kind : Int) (hs : Sml p) (hb : b < p.length) : FnOk Try.prog gl 116 [pav p, iv b, iv j, iv kind] (fun _ y _ => y = bv (madeAs p b j kind)) := by
  have hpl := hs.len
  have w1 : IntKind.i64.wrap ((b : Int) + 1) = b + 1 := wrp (by omega) (by omega)
  have w2 : IntKind.i64.wrap ((p.length : Int) - 1) = p.length - 1 := wrp (by omega) (by omega)
  refine FnOk.of_sem Try.func116 rfl (by kernel_rfl) (rs := [.tmp 8]) rfl Try.ntmps116 (Nat.le_of_ble_eq_true rfl) fun C w g root => ?_
  by_cases hj : (b : Int) + 1 ≤ j ∧ j ≤ (p.length : Int) - 1
  · obtain ⟨j, rfl⟩ : ∃ i : Nat, j = i := ⟨j.toNat, by omega⟩
    obtain ⟨q, hq⟩ : ∃ q, p[j]? = some q := ⟨_, List.getElem?_eq_getElem (by omega)⟩
    all_goals have fx := And.intro hq <| And.intro w1 <| And.intro w2 <| hj
    repeat' (first
     | refine w_seq ?_ | refine w_reg fun K hK => ?_
     | ((with_reducible refine s_end hK ?_); clear hK K)
     | (with_reducible first | refine then_normal ?_ | refine then_ret ?_)
     | refine w_ret ?_
     | (with_reducible refine s_none ?_)
     | ((with_reducible refine g_id ?_); refine x_guard (h := ?_))
     | (with_reducible first | refine gx_tt ?_ | refine gx_ff ?_ | refine x_tf (h := ?_) | refine x_ft (h := ?_) | refine x_u (h := ?_) | refine x_assign (h := ?_) | refine x_box (h := ?_))
     | ((with_reducible refine o_id 87 rfl ?_); refine x_call (hF := inRange_fn _ _ _ _) (h := ?_))
     | (with_reducible refine x_q (h := ?_))
     | (with_reducible refine gx_s (fun ht => ?_) (fun ht => ?_))
     | refine x_if (h1 := fun ht => ?_) (h2 := fun ht => ?_)
     | fail)
    all_goals try clear fx
    all_goals refine e_ret [] .nil (by simp; rfl) ?_
    all_goals simp_all [madeAs]
  · have hj' : (decide ((b : Int) + 1 ≤ j) && decide (j ≤ (p.length : Int) - 1)) = false := by simpa using hj
    all_goals have fx := And.intro w1 <| And.intro w2 <| hj'
    repeat' (first
     | refine w_seq ?_ | refine w_reg fun K hK => ?_
     | ((with_reducible refine s_end hK ?_); clear hK K)
     | (with_reducible first | refine then_normal ?_ | refine then_ret ?_)
     | refine w_ret ?_
     | (with_reducible refine s_none ?_)
     | ((with_reducible refine g_id ?_); refine x_guard (h := ?_))
     | (with_reducible first | refine gx_tt ?_ | refine gx_ff ?_ | refine x_tf (h := ?_) | refine x_ft (h := ?_) | refine x_u (h := ?_) | refine x_assign (h := ?_) | refine x_box (h := ?_))
     | ((with_reducible refine o_id 87 rfl ?_); refine x_call (hF := inRange_fn _ _ _ _) (h := ?_))
     | (with_reducible refine x_q (h := ?_))
     | (with_reducible refine gx_s (fun ht => ?_) (fun ht => ?_))
     | refine x_if (h1 := fun ht => ?_) (h2 := fun ht => ?_)
     | fail)
    all_goals try clear fx
    all_goals refine e_ret [] .nil (by simp; rfl) ?_
    all_goals simp_all [madeAs]
    intro h1 h2
    exact absurd (hj h1) (by omega)

theorem validBlock_fn (gl) (p : Prg) (b : Nat) (k : Blk) (hk : p[b]? = some k) (hb : b < p.length) (hs : Sml p) : FnOk Try.prog gl 104 [pav p, iv b] (fun _ y _ => y = bv (decide (HeadOk b k))) := by
  have hpl := hs.len
  have w2 : IntKind.i64.wrap ((b : Int) - 1) = b - 1 := wrp (by omega) (by omega)
  refine FnOk.of_sem Try.func104 rfl (by kernel_rfl) (rs := [.tmp 4]) rfl Try.ntmps104 (Nat.le_of_ble_eq_true rfl) fun C w g root => ?_
  obtain ⟨kind, parent, params, body⟩ := k
  by_cases hp : 2 ≤ params.length
  · have c0 : ((params.length : Int) == 0) = false := by simp only [beq_eq_false_iff_ne, ne_eq]; omega
    have c1 : ((params.length : Int) == 1) = false := by simp only [beq_eq_false_iff_ne, ne_eq]; omega
    all_goals have fx := And.intro hk <| And.intro w2 <| And.intro c0 <| c1
    repeat' (first
     | refine w_seq ?_ | refine w_skip ?_ | refine w_reg fun K hK => ?_
     | ((with_reducible refine s_end hK ?_); clear hK K)
     | (with_reducible first | refine then_normal ?_ | refine then_ret ?_)
     | refine w_ret ?_
     | (with_reducible refine s_none ?_)
     | ((with_reducible refine g_id ?_); refine x_guard (h := ?_))
     | (with_reducible first | refine gx_tt ?_ | refine gx_ff ?_ | refine x_tf (h := ?_) | refine x_ft (h := ?_) | refine x_u (h := ?_) | refine x_assign (h := ?_) | refine x_box (h := ?_) | refine x_alloc (h := ?_) | refine x_store0 (h := ?_) | refine x_store (h := ?_))
     | ((with_reducible refine o_id 87 rfl ?_); refine x_call (hF := inRange_fn _ _ _ _) (h := ?_))
     | ((with_reducible refine o_id 40 rfl ?_); refine x_call (hF := spec_isName_fn _ _) (h := ?_))
     | (with_reducible refine x_q (h := ?_))
     | (with_reducible refine gx_s (fun ht => ?_) (fun ht => ?_))
     | refine x_condt (h1 := ?_) | refine x_condf (h1 := ?_)
     | refine x_if (h1 := fun ht => ?_) (h2 := fun ht => ?_)
     | fail)
    all_goals try clear fx
    all_goals refine e_ret [] .nil (by simp; rfl) ?_
    all_goals simp_all [HeadOk]
    all_goals (intros; omega)
  · rcases params with _ | ⟨x, _ | ⟨y, l⟩⟩
    rotate_left 2
    · simp at hp
    all_goals have fx := And.intro hk <| w2
    repeat' (first
     | refine w_seq ?_ | refine w_skip ?_ | refine w_reg fun K hK => ?_
     | ((with_reducible refine s_end hK ?_); clear hK K)
     | (with_reducible first | refine then_normal ?_ | refine then_ret ?_)
     | refine w_ret ?_
     | (with_reducible refine s_none ?_)
     | ((with_reducible refine g_id ?_); refine x_guard (h := ?_))
     | (with_reducible first | refine gx_tt ?_ | refine gx_ff ?_ | refine x_tf (h := ?_) | refine x_ft (h := ?_) | refine x_u (h := ?_) | refine x_assign (h := ?_) | refine x_box (h := ?_) | refine x_alloc (h := ?_) | refine x_store0 (h := ?_) | refine x_store (h := ?_))
     | ((with_reducible refine o_id 87 rfl ?_); refine x_call (hF := inRange_fn _ _ _ _) (h := ?_))
     | ((with_reducible refine o_id 40 rfl ?_); refine x_call (hF := spec_isName_fn _ _) (h := ?_))
     | (with_reducible refine x_q (h := ?_))
     | (with_reducible refine gx_s (fun ht => ?_) (fun ht => ?_))
     | refine x_condt (h1 := ?_) | refine x_condf (h1 := ?_)
     | refine x_if (h1 := fun ht => ?_) (h2 := fun ht => ?_)
     | fail)
    all_goals try clear fx
    all_goals refine e_ret [] .nil (by simp; rfl) ?_
    all_goals simp_all [HeadOk]
    all_goals (intros; omega)
end Go.Proofs.Ytopgafhjmbfaoaa
end

section
/-
  Functions of the reference on names in blocks: what they return.
-/
set_option maxRecDepth 100000
set_option maxHeartbeats 1000000
set_option linter.unusedSimpArgs false
namespace Go.Proofs.Ytopgafhjmbfaoaa
open Go Go.Hm Go.Proofs

theorem validStmt_fn (gl) (p : Prg) (b : Nat) (k : Blk) (s : Stm) (hk : p[b]? = some k) (hs : Sml p) (hb : b < p.length) : FnOk Try.prog gl 105 [pav p, iv b, Stm.av s] (fun _ y _ => y = bv (StmOk p b k s)) := by
  refine FnOk.of_sem Try.func105 rfl (by kernel_rfl) (rs := [.tmp 6]) rfl Try.ntmps105 (Nat.le_of_ble_eq_true rfl) fun C w g root => ?_
  obtain ⟨kind, to, a, c⟩ := s
  all_goals have fx :=  hk
  repeat' (first
   | refine w_seq ?_ | refine w_block ?_ | refine w_skip ?_ | refine w_reg fun K hK => ?_
   | ((with_reducible refine s_end hK ?_); clear hK K)
   | (with_reducible first | refine then_normal ?_ | refine in_normal ?_ | refine then_exit ?_ | refine in_exit ?_ | refine then_ret ?_ | refine in_ret ?_ | refine in_other (by decide) ?_)
   | refine w_exit ?_
   | refine w_ret ?_
   | (with_reducible refine s_none ?_)
   | ((with_reducible refine g_id ?_); refine x_guard (h := ?_))
   | (with_reducible first | refine gx_tt ?_ | refine gx_ff ?_ | refine x_tf (h := ?_) | refine x_ft (h := ?_) | refine x_u (h := ?_) | refine x_assign (h := ?_) | refine x_box (h := ?_))
   | ((with_reducible refine o_id 107 rfl ?_); refine x_callh (hF := readsOf_fn _ ⟨kind, to, a, c⟩) (h := ?_))
   | ((with_reducible refine o_id 40 rfl ?_); refine x_call (hF := spec_isName_fn _ _) (h := ?_))
   | (with_reducible refine x_q (h := ?_))
   | (with_reducible refine gx_s (fun ht => ?_) (fun ht => ?_))
   | refine x_condt (h1 := ?_) | refine x_condf (h1 := ?_)
   | refine x_if (h1 := fun ht => ?_) (h2 := fun ht => ?_)
   | fail)
  all_goals try clear fx
  · have hto : isNm to = false := by
      rw [Bool.eq_false_iff]
      intro h
      simp at h ht
      omega
    refine e_ret [] .nil (by simp; rfl) ?_
    simp only [StmOk, hto]
    rfl
  have hto : isNm to = true := by simpa using ht
  generalize hr : Stm.reads ⟨kind, to, a, c⟩ = rs
  have hrl : rs.length ≤ 2 := hr ▸ Stm.reads_len _
  refine w_loop (fun n st => ∃ i : Nat, n = rs.length - i ∧ i ≤ rs.length ∧ st.tm 1 = iv b ∧ st.tm 3 = .pt (.s 3) 0 ∧ st.hp (.s 3) = some (.row 1 [[ksl p]]) ∧ st.tm 5 = .pt (.s 5) 0 ∧ st.hp (.s 5) = some (.row 4 [[iv kind, iv to, iv a, iv c]]) ∧ st.tm 8 = iv i ∧ st.tm 7 = .hs (.s 7) 1 0 rs.length ∧ st.hp (.s 7) = some (.row 1 (irows rs)) ∧ (rs.take i).all isNm = true) rs.length ?_ ?_
  · exact ⟨0, by simp [hr]⟩
  rintro n st - - ⟨i, rfl, hi, h1, h3, hp3, h5, hp5, h8, h7, hp7, hal⟩
  all_goals have fx := And.intro h1 <| And.intro h3 <| And.intro hp3 <| And.intro h5 <| And.intro hp5 <| And.intro h8 <| And.intro h7 <| hp7
  repeat' (first
   | refine w_seq ?_ | refine w_block ?_ | refine w_skip ?_ | refine w_reg fun K hK => ?_
   | ((with_reducible refine s_end hK ?_); clear hK K)
   | (with_reducible first | refine then_normal ?_ | refine in_normal ?_ | refine then_exit ?_ | refine in_exit ?_ | refine then_ret ?_ | refine in_ret ?_ | refine in_other (by decide) ?_)
   | refine w_exit ?_
   | refine w_ret ?_
   | (with_reducible refine s_none ?_)
   | ((with_reducible refine g_id ?_); refine x_guard (h := ?_))
   | (with_reducible first | refine gx_tt ?_ | refine gx_ff ?_ | refine x_tf (h := ?_) | refine x_ft (h := ?_) | refine x_u (h := ?_) | refine x_assign (h := ?_) | refine x_box (h := ?_))
   | (with_reducible refine x_q (h := ?_))
   | (with_reducible refine gx_s (fun ht => ?_) (fun ht => ?_))
   | refine x_condt (h1 := ?_) | refine x_condf (h1 := ?_)
   | fail)
  all_goals try clear fx
  refine w_if (by simp []; first | done | rfl | exact (Bool.not_not _).symm) (fun ht => ?_) (fun hf => ?_)
  · have hlt : i < rs.length := by simpa using ht
    obtain ⟨y, hy⟩ : ∃ y, rs[i]? = some y := ⟨_, List.getElem?_eq_getElem hlt⟩
    obtain ⟨_, hy'⟩ := List.getElem?_eq_some_iff.1 hy
    all_goals have fx := And.intro h1 <| And.intro h3 <| And.intro hp3 <| And.intro h5 <| And.intro hp5 <| And.intro h8 <| And.intro h7 <| And.intro hp7 <| And.intro hy' <| hlt
    repeat' (first
     | refine w_seq ?_ | refine w_block ?_ | refine w_skip ?_ | refine w_reg fun K hK => ?_
     | ((with_reducible refine s_end hK ?_); clear hK K)
     | (with_reducible first | refine then_normal ?_ | refine in_normal ?_ | refine then_exit ?_ | refine in_exit ?_ | refine then_ret ?_ | refine in_ret ?_ | refine in_other (by decide) ?_)
     | refine w_exit ?_
     | refine w_ret ?_
     | (with_reducible refine s_none ?_)
     | ((with_reducible refine g_id ?_); refine x_guard (h := ?_))
     | (with_reducible first | refine gx_tt ?_ | refine gx_ff ?_ | refine x_tf (h := ?_) | refine x_ft (h := ?_) | refine x_u (h := ?_) | refine x_assign (h := ?_) | refine x_box (h := ?_))
     | ((with_reducible refine o_id 40 rfl ?_); refine x_call (hF := spec_isName_fn _ _) (h := ?_))
     | (with_reducible refine x_q (h := ?_))
     | (with_reducible refine gx_s (fun ht => ?_) (fun ht => ?_))
     | refine x_condt (h1 := ?_) | refine x_condf (h1 := ?_)
     | refine x_if (h1 := fun ht => ?_) (h2 := fun ht => ?_)
     | fail)
    all_goals try clear fx
    · have hno : isNm y = false := by
        rw [Bool.eq_false_iff]
        intro h
        simp at h ht
        omega
      refine e_ret [] .nil (by simp; rfl) ?_
      have hall : rs.all isNm = false := by
        rw [Bool.eq_false_iff]
        intro h
        have := List.all_eq_true.1 h y (List.mem_of_getElem? hy)
        rw [hno] at this
        cases this
      simp only [StmOk, hr, hall]
      simp
    · have hyes : isNm y = true := by simpa using ht
      refine ⟨rs.length - (i + 1), by omega, i + 1, rfl, by omega, by simp [h1], by simp [h3], by simp [hp3], by simp [h5], by simp [hp5], by simp; exact wrp (by omega) (by omega), by simp [h7], by simp [hp7], ?_⟩
      rw [List.take_add_one, hy, List.all_append, hal]
      simp only [Option.toList_some, List.all_cons, List.all_nil, hyes]
      rfl
  · have hge : i = rs.length := by
      have : ¬ i < rs.length := by simpa using hf
      omega
    subst hge
    rw [List.take_length] at hal
    have hok : StmOk p b k ⟨kind, to, a, c⟩ = (if kind = 0 then decide (0 ≤ a) && decide (a ≤ 99) && c == 0 else if kind = 1 then c == 0 else if kind = 2 ∨ kind = 5 then true
      else if kind = 3 then c == 0 && madeAs p b a 1 else if kind = 4 then c == 0 && madeAs p b a 2 else if kind = 6 then isNm c
      else if kind = 7 then to == 0 && c == 0 else if kind = 8 then to == 0 && c == 0 && k.kind == 1
      else if kind = 9 ∨ kind = 10 then a == 0 && c == 0 && k.kind != 0 else if kind = 11 then a == 0 && c == 0 else false) := by
      simp only [StmOk, hr, hal, hto, Bool.true_and]
    rw [hok]
    clear hok
    all_goals have fx := And.intro h1 <| And.intro h3 <| And.intro hp3 <| And.intro h5 <| And.intro hp5 <| hk
    repeat' (first
     | refine w_seq ?_ | refine w_block ?_ | refine w_skip ?_ | refine w_reg fun K hK => ?_
     | ((with_reducible refine s_end hK ?_); clear hK K)
     | (with_reducible first | refine then_normal ?_ | refine in_normal ?_ | refine then_exit ?_ | refine in_exit ?_ | refine then_ret ?_ | refine in_ret ?_ | refine in_other (by decide) ?_)
     | refine w_exit ?_
     | refine w_ret ?_
     | (with_reducible refine s_none ?_)
     | ((with_reducible refine g_id ?_); refine x_guard (h := ?_))
     | (with_reducible first | refine gx_tt ?_ | refine gx_ff ?_ | refine x_tf (h := ?_) | refine x_ft (h := ?_) | refine x_u (h := ?_) | refine x_assign (h := ?_) | refine x_box (h := ?_))
     | ((with_reducible refine o_id 40 rfl ?_); refine x_call (hF := spec_isName_fn _ _) (h := ?_))
     | ((with_reducible refine o_id 87 rfl ?_); refine x_call (hF := inRange_fn _ _ _ _) (h := ?_))
     | ((with_reducible refine o_id 116 rfl ?_); refine x_call (hF := madeAs_fn _ p b _ _ hs hb) (h := ?_))
     | (with_reducible refine x_q (h := ?_))
     | (with_reducible refine gx_s (fun ht => ?_) (fun ht => ?_))
     | refine x_condt (h1 := ?_) | refine x_condf (h1 := ?_)
     | refine x_if (h1 := fun ht => ?_) (h2 := fun ht => ?_)
     | fail)
    all_goals try clear fx
    all_goals refine e_ret [] .nil (by simp; rfl) ?_
    all_goals simp_all
    all_goals (intros; omega)
end Go.Proofs.Ytopgafhjmbfaoaa
end
