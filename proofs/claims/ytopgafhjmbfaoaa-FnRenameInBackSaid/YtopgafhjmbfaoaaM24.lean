/-
  Own texts, joined by mkclaim.py: Gq.
-/
import Derived.Test.YtopgafhjmbfaoaaM23
import Derived.Test.YtopgafhjmbfaoaaM10

section
/-
  The reference's RenameIn: what it returns. (Under way.)
-/
set_option maxRecDepth 100000
set_option maxHeartbeats 1000000
set_option linter.unusedSimpArgs false
namespace Go.Proofs.Ytopgafhjmbfaoaa
open Go Go.Hm Go.Proofs

theorem spec_RenameIn_fn (gl) (p : Prg) (b x y : Int) (hs : Sml p) : FnOk Try.prog gl 14 [pav p, iv b, iv x, iv y] (fun r z H' => z = .tup [.agg [.hs r 4 0 (renG p b x y).length], bv (renOk p b x y)] ∧ OwnP H' r (renG p b x y)) := by
  have hpl := hs.len
  refine FnOk.of_sem Try.func14 rfl (by kernel_rfl) (rs := [.cell 8 28, .tmp 9]) rfl Try.ntmps14 (Nat.le_of_ble_eq_true rfl) fun C w g root => ?_
  cases hv : progOk p
  · have hno : renOk p b x y = false := by simp [renOk, hv]
    all_goals have fx :=  hv
    repeat' (first
     | refine w_seq ?_ | refine w_reg fun K hK => ?_
     | ((with_reducible refine s_end hK ?_); clear hK K)
     | (with_reducible first | refine then_normal ?_ | refine then_ret ?_)
     | refine w_ret ?_
     | (with_reducible refine s_none ?_)
     | ((with_reducible refine g_id ?_); refine x_guard (h := ?_))
     | (with_reducible first | refine x_ft (h := ?_) | refine x_assign (h := ?_) | refine x_box (h := ?_) | refine x_alloc (h := ?_) | refine x_store (h := ?_))
     | ((with_reducible refine o_id 24 rfl ?_); refine x_call (hF := validProgram_fn _ p hs) (h := ?_))
     | (with_reducible refine x_q (h := ?_))
     | refine x_condt (h1 := ?_)
     | fail)
    all_goals try clear fx
    simp only [renG, hno]
    refine e_ret [(.c (.s 8) 0 0, root)] (.one rfl) (by simp; rfl) ?_
    refine ⟨by simp, ⟨by simp, fun j k hk => by simp at hk, fun j k hk => by simp at hk⟩⟩
  have hsh : shapeOk p = true := by
    simp only [progOk, Bool.and_eq_true] at hv
    exact hv.1
  have hP := ShapeP.of hs hsh
  obtain ⟨hh, hl1, hl7, hbo, _⟩ := shapeOk_heads hsh
  by_cases hu : ((0 ≤ b ∧ b < p.length) ∧ 0 ≤ x ∧ x ≤ 7)
  rotate_left
  · have hno : renOk p b x y = false := by
      apply Bool.eq_false_iff.2
      intro h
      simp only [renOk, Bool.and_eq_true, decide_eq_true_eq] at h
      exact hu ⟨h.1.1.1.1.2, h.1.1.1.2⟩
    have hu' : ((shapeOk p && (decide (0 ≤ b) && decide (b ≤ (p.length : Int) - 1))) && (decide (0 ≤ x) && decide (x ≤ 7))) = false := by
      apply Bool.eq_false_iff.2
      intro h
      simp only [Bool.and_eq_true, decide_eq_true_eq] at h
      exact hu ⟨⟨h.1.2.1, by omega⟩, h.2⟩
    all_goals have fx := And.intro hv <| hu'
    repeat' (first
     | refine w_seq ?_ | refine w_reg fun K hK => ?_
     | ((with_reducible refine s_end hK ?_); clear hK K)
     | (with_reducible first | refine then_normal ?_ | refine then_ret ?_)
     | refine w_ret ?_
     | (with_reducible refine s_none ?_)
     | ((with_reducible refine g_id ?_); refine x_guard (h := ?_))
     | (with_reducible first | refine gx_ff ?_ | refine x_ft (h := ?_) | refine x_assign (h := ?_) | refine x_box (h := ?_) | refine x_alloc (h := ?_) | refine x_store (h := ?_))
     | ((with_reducible refine o_id 24 rfl ?_); refine x_call (hF := validProgram_fn _ p hs) (h := ?_))
     | ((with_reducible refine o_id 39 rfl ?_); refine x_call (hF := validUse_fn _ p b x hs) (h := ?_))
     | (with_reducible refine x_q (h := ?_))
     | refine x_condt (h1 := ?_)
     | fail)
    all_goals try clear fx
    simp only [renG, hno]
    refine e_ret [(.c (.s 8) 0 0, root)] (.one rfl) (by simp; rfl) ?_
    refine ⟨by simp, ⟨by simp, fun j k hk => by simp at hk, fun j k hk => by simp at hk⟩⟩
  obtain ⟨⟨hb0, hbl⟩, hx0, hx7⟩ := hu
  obtain ⟨B, rfl⟩ : ∃ i : Nat, b = i := ⟨b.toNat, by omega⟩
  have hBl : B < p.length := by omega
  obtain ⟨k, hk⟩ : ∃ k, p[B]? = some k := ⟨_, List.getElem?_eq_getElem hBl⟩
  have hbm : (B : Int) ≤ (p.length : Int) - 1 := by omega
  cases hy : (decide (0 ≤ y) && decide (y ≤ 7))
  · have hno : renOk p B x y = false := by simp only [renOk, hy]; simp
    all_goals have fx := And.intro hv <| And.intro hsh <| And.intro hbm <| And.intro hx0 <| And.intro hx7 <| hy
    repeat' (first
     | refine w_seq ?_ | refine w_reg fun K hK => ?_
     | ((with_reducible refine s_end hK ?_); clear hK K)
     | (with_reducible first | refine then_normal ?_ | refine then_ret ?_)
     | refine w_ret ?_
     | (with_reducible refine s_none ?_)
     | ((with_reducible refine g_id ?_); refine x_guard (h := ?_))
     | (with_reducible first | refine gx_ff ?_ | refine x_ft (h := ?_) | refine x_assign (h := ?_) | refine x_box (h := ?_) | refine x_alloc (h := ?_) | refine x_store (h := ?_))
     | ((with_reducible refine o_id 24 rfl ?_); refine x_call (hF := validProgram_fn _ p hs) (h := ?_))
     | ((with_reducible refine o_id 39 rfl ?_); refine x_call (hF := validUse_fn _ p B x hs) (h := ?_))
     | ((with_reducible refine o_id 40 rfl ?_); refine x_call (hF := spec_isName_fn _ _) (h := ?_))
     | (with_reducible refine x_q (h := ?_))
     | refine x_condt (h1 := ?_)
     | fail)
    all_goals try clear fx
    simp only [renG, hno]
    refine e_ret [(.c (.s 8) 0 0, root)] (.one rfl) (by simp; rfl) ?_
    refine ⟨by simp, ⟨by simp, fun j k hk => by simp at hk, fun j k hk => by simp at hk⟩⟩
  cases hxy : (x == y)
  rotate_left
  · have hno : renOk p B x y = false := by simp only [renOk, bne, hxy]; simp
    all_goals have fx := And.intro hv <| And.intro hsh <| And.intro hbm <| And.intro hx0 <| And.intro hx7 <| And.intro hy <| hxy
    repeat' (first
     | refine w_seq ?_ | refine w_reg fun K hK => ?_
     | ((with_reducible refine s_end hK ?_); clear hK K)
     | (with_reducible first | refine then_normal ?_ | refine then_ret ?_)
     | refine w_ret ?_
     | (with_reducible refine s_none ?_)
     | ((with_reducible refine g_id ?_); refine x_guard (h := ?_))
     | (with_reducible first | refine gx_ff ?_ | refine x_ft (h := ?_) | refine x_assign (h := ?_) | refine x_box (h := ?_) | refine x_alloc (h := ?_) | refine x_store (h := ?_))
     | ((with_reducible refine o_id 24 rfl ?_); refine x_call (hF := validProgram_fn _ p hs) (h := ?_))
     | ((with_reducible refine o_id 39 rfl ?_); refine x_call (hF := validUse_fn _ p B x hs) (h := ?_))
     | ((with_reducible refine o_id 40 rfl ?_); refine x_call (hF := spec_isName_fn _ _) (h := ?_))
     | (with_reducible refine x_q (h := ?_))
     | refine x_condt (h1 := ?_)
     | fail)
    all_goals try clear fx
    simp only [renG, hno]
    refine e_ret [(.c (.s 8) 0 0, root)] (.one rfl) (by simp; rfl) ?_
    refine ⟨by simp, ⟨by simp, fun j k hk => by simp at hk, fun j k hk => by simp at hk⟩⟩
  cases hkd : (k.kind == 1)
  · have hno : renOk p B x y = false := by simp [renOk, renAt, hk, hkd]
    all_goals have fx := And.intro hv <| And.intro hsh <| And.intro hbm <| And.intro hx0 <| And.intro hx7 <| And.intro hy <| And.intro hxy <| And.intro hk <| And.intro hkd <| @bne_def
    repeat' (first
     | refine w_seq ?_ | refine w_reg fun K hK => ?_
     | ((with_reducible refine s_end hK ?_); clear hK K)
     | (with_reducible first | refine then_normal ?_ | refine then_ret ?_)
     | refine w_ret ?_
     | (with_reducible refine s_none ?_)
     | ((with_reducible refine g_id ?_); refine x_guard (h := ?_))
     | (with_reducible first | refine gx_ff ?_ | refine x_ft (h := ?_) | refine x_assign (h := ?_) | refine x_box (h := ?_) | refine x_alloc (h := ?_) | refine x_store (h := ?_))
     | ((with_reducible refine o_id 24 rfl ?_); refine x_call (hF := validProgram_fn _ p hs) (h := ?_))
     | ((with_reducible refine o_id 39 rfl ?_); refine x_call (hF := validUse_fn _ p B x hs) (h := ?_))
     | ((with_reducible refine o_id 40 rfl ?_); refine x_call (hF := spec_isName_fn _ _) (h := ?_))
     | (with_reducible refine x_q (h := ?_))
     | refine x_condt (h1 := ?_)
     | fail)
    all_goals try clear fx
    simp only [renG, hno]
    refine e_ret [(.c (.s 8) 0 0, root)] (.one rfl) (by simp; rfl) ?_
    refine ⟨by simp, ⟨by simp, fun j k hk => by simp at hk, fun j k hk => by simp at hk⟩⟩
  cases hlo : isLocal B k x
  · have hno : renOk p B x y = false := by simp [renOk, renAt, hk, hlo]
    all_goals have fx := And.intro hv <| And.intro hsh <| And.intro hbm <| And.intro hx0 <| And.intro hx7 <| And.intro hy <| And.intro hxy <| And.intro hk <| And.intro hkd <| And.intro hlo <| @bne_def
    repeat' (first
     | refine w_seq ?_ | refine w_reg fun K hK => ?_
     | ((with_reducible refine s_end hK ?_); clear hK K)
     | (with_reducible first | refine then_normal ?_ | refine then_ret ?_)
     | refine w_ret ?_
     | (with_reducible refine s_none ?_)
     | ((with_reducible refine g_id ?_); refine x_guard (h := ?_))
     | (with_reducible first | refine gx_ff ?_ | refine x_assign (h := ?_) | refine x_box (h := ?_) | refine x_alloc (h := ?_) | refine x_store (h := ?_))
     | ((with_reducible refine o_id 24 rfl ?_); refine x_call (hF := validProgram_fn _ p hs) (h := ?_))
     | ((with_reducible refine o_id 39 rfl ?_); refine x_call (hF := validUse_fn _ p B x hs) (h := ?_))
     | ((with_reducible refine o_id 40 rfl ?_); refine x_call (hF := spec_isName_fn _ _) (h := ?_))
     | ((with_reducible refine o_id 41 rfl ?_); refine x_call (hF := isLocal_fn _ p B k x hk (hs.bsm hk)) (h := ?_))
     | (with_reducible refine x_q (h := ?_))
     | refine x_condt (h1 := ?_)
     | fail)
    all_goals try clear fx
    simp only [renG, hno]
    refine e_ret [(.c (.s 8) 0 0, root)] (.one rfl) (by simp; rfl) ?_
    refine ⟨by simp, ⟨by simp, fun j k hk => by simp at hk, fun j k hk => by simp at hk⟩⟩
  all_goals have fx := And.intro hv <| And.intro hsh <| And.intro hbm <| And.intro hx0 <| And.intro hx7 <| And.intro hy <| And.intro hxy <| And.intro hk <| And.intro hkd <| And.intro hlo <| @bne_def
  repeat' (first
   | refine w_seq ?_ | refine w_block ?_ | refine w_skip ?_ | refine w_reg fun K hK => ?_
   | ((with_reducible refine s_end hK ?_); clear hK K)
   | (with_reducible first | refine then_normal ?_)
   | (with_reducible refine s_none ?_)
   | ((with_reducible refine g_id ?_); refine x_guard (h := ?_))
   | (with_reducible first | refine gx_ff ?_ | refine x_assign (h := ?_) | refine x_box (h := ?_) | refine x_alloc (h := ?_))
   | ((with_reducible refine o_id 24 rfl ?_); refine x_call (hF := validProgram_fn _ p hs) (h := ?_))
   | ((with_reducible refine o_id 39 rfl ?_); refine x_call (hF := validUse_fn _ p B x hs) (h := ?_))
   | ((with_reducible refine o_id 40 rfl ?_); refine x_call (hF := spec_isName_fn _ _) (h := ?_))
   | ((with_reducible refine o_id 41 rfl ?_); refine x_call (hF := isLocal_fn _ p B k x hk (hs.bsm hk)) (h := ?_))
   | (with_reducible refine x_q (h := ?_))
   | refine x_condf (h1 := ?_)
   | fail)
  all_goals try clear fx
  refine w_loop (fun n st => ∃ c : Nat, n = p.length - c ∧ c ≤ p.length ∧ st.tm 1 = iv B ∧ st.tm 2 = iv x ∧ st.tm 3 = iv y ∧ st.tm 4 = .pt (.s 4) 0 ∧ st.hp (.s 4) = some (.row 1 [[ksl p]]) ∧ st.tm 10 = iv c ∧ st.tm 8 = .pt (.s 8) 0 ∧ st.hp (.s 8) = some (.row 1 [[.hs (.c (.s 8) 0 0) 4 0 0]]) ∧ st.hp (.c (.s 8) 0 0) = some (.row 4 []) ∧ B ≤ c ∧ ∀ d, d < c → clashAt p B y d = false) (p.length - B) ?_ ?_
  · refine ⟨B, rfl, by omega, by simp, by simp, by simp, by simp, by simp, by simp, by simp, by simp, by simp, Nat.le_refl _, fun d hd => ?_⟩
    simp only [clashAt]
    rw [decide_eq_false (by omega)]
    rfl
  rintro n st - - ⟨c, rfl, hc, h1, h2, h3, h4, hp4, h10, h8, hp8, hp8', hBc, hcl⟩
  all_goals have fx := And.intro h1 <| And.intro h2 <| And.intro h3 <| And.intro h4 <| And.intro hp4 <| h10
  repeat' (first
   | refine w_seq ?_ | refine w_reg fun K hK => ?_
   | ((with_reducible refine s_end hK ?_); clear hK K)
   | (with_reducible first | refine then_normal ?_)
   | (with_reducible refine s_none ?_)
   | (with_reducible refine x_q (h := ?_))
   | fail)
  all_goals try clear fx
  refine w_if (by simp []; first | done | rfl | exact (Bool.not_not _).symm) (fun ht => ?_) (fun hf => ?_)
  · have hlt : c < p.length := by simpa using ht
    obtain ⟨q, hq⟩ : ∃ q, p[c]? = some q := ⟨_, List.getElem?_eq_getElem hlt⟩
    clear ht
    have next : ∀ {d : Nat}, clashAt p B y c = false → d < c + 1 → clashAt p B y d = false := by
      intro d h0 hd
      rcases Nat.lt_succ_iff_lt_or_eq.1 hd with h | rfl
      · exact hcl d h
      · exact h0
    cases hin : inside p c B
    · have h0 : clashAt p B y c = false := by simp [clashAt, hq, hin]
      all_goals have fx := And.intro h1 <| And.intro h2 <| And.intro h3 <| And.intro h4 <| And.intro hp4 <| And.intro h10 <| hin
      repeat' (first
       | refine w_seq ?_ | refine w_block ?_ | refine w_skip ?_ | refine w_reg fun K hK => ?_
       | ((with_reducible refine s_end hK ?_); clear hK K)
       | (with_reducible first | refine then_normal ?_)
       | (with_reducible refine s_none ?_)
       | ((with_reducible refine g_id ?_); refine x_guard (h := ?_))
       | (with_reducible first | refine x_tf (h := ?_) | refine x_assign (h := ?_))
       | ((with_reducible refine o_id 42 rfl ?_); refine x_call (hF := inside_fn _ p c B hs hh hlt) (h := ?_))
       | (with_reducible refine x_q (h := ?_))
       | refine x_condf (h1 := ?_)
       | fail)
      all_goals try clear fx
      exact ⟨p.length - (c + 1), by omega, c + 1, rfl, by omega, by simp [h1], by simp [h2], by simp [h3], by simp [h4], by simp [hp4], by simp; exact wrp (by omega) (by omega), by simp [h8], by simp [hp8], by simp [hp8'], by omega, fun d hd => next h0 hd⟩
    · cases hm : decide (y ∈ q.us)
      · have h0 : clashAt p B y c = false := by simp [clashAt, hq, hm]
        all_goals have fx := And.intro h1 <| And.intro h2 <| And.intro h3 <| And.intro h4 <| And.intro hp4 <| And.intro h10 <| And.intro hin <| And.intro hq <| hm
        repeat' (first
         | refine w_seq ?_ | refine w_block ?_ | refine w_skip ?_ | refine w_reg fun K hK => ?_
         | ((with_reducible refine s_end hK ?_); clear hK K)
         | (with_reducible first | refine then_normal ?_)
         | (with_reducible refine s_none ?_)
         | ((with_reducible refine g_id ?_); refine x_guard (h := ?_))
         | (with_reducible first | refine gx_tt ?_ | refine x_assign (h := ?_))
         | ((with_reducible refine o_id 42 rfl ?_); refine x_call (hF := inside_fn _ p c B hs hh hlt) (h := ?_))
         | ((with_reducible refine o_id 44 rfl ?_); refine x_callh (hF := used_fn _ p c q hq (hs.bsm hq)) (h := ?_))
         | ((with_reducible refine o_id 43 rfl ?_); refine x_call (hF := has_fn _ _ _ (Nat.le_trans (Blk.us_len _) (by decide))) (h := ?_))
         | (with_reducible refine x_q (h := ?_))
         | refine x_condf (h1 := ?_)
         | fail)
        all_goals try clear fx
        exact ⟨p.length - (c + 1), by omega, c + 1, rfl, by omega, by simp [h1], by simp [h2], by simp [h3], by simp [h4], by simp [hp4], by simp; exact wrp (by omega) (by omega), by simp [h8], by simp [hp8], by simp [hp8'], by omega, fun d hd => next h0 hd⟩
      · have hm' : y ∈ q.us := by simpa using hm
        have hno : renOk p B x y = false := by
          have hc1 : clash p B y = true := List.any_eq_true.2 ⟨c, List.mem_range.2 hlt, by simp [clashAt, hq, hin, hm', hBc]⟩
          simp [renOk, renAt, hk, hc1]
        all_goals have fx := And.intro h1 <| And.intro h2 <| And.intro h3 <| And.intro h4 <| And.intro hp4 <| And.intro h10 <| And.intro h8 <| And.intro hp8 <| And.intro hp8' <| And.intro hin <| And.intro hq <| hm
        repeat' (first
         | refine w_seq ?_ | refine w_block ?_ | refine w_skip ?_ | refine w_reg fun K hK => ?_
         | ((with_reducible refine s_end hK ?_); clear hK K)
         | (with_reducible first | refine then_normal ?_ | refine then_ret ?_ | refine in_ret ?_)
         | refine w_ret ?_
         | (with_reducible refine s_none ?_)
         | ((with_reducible refine g_id ?_); refine x_guard (h := ?_))
         | (with_reducible first | refine gx_tt ?_ | refine x_assign (h := ?_) | refine x_store (h := ?_))
         | ((with_reducible refine o_id 42 rfl ?_); refine x_call (hF := inside_fn _ p c B hs hh hlt) (h := ?_))
         | ((with_reducible refine o_id 44 rfl ?_); refine x_callh (hF := used_fn _ p c q hq (hs.bsm hq)) (h := ?_))
         | ((with_reducible refine o_id 43 rfl ?_); refine x_call (hF := has_fn _ _ _ (Nat.le_trans (Blk.us_len _) (by decide))) (h := ?_))
         | (with_reducible refine x_q (h := ?_))
         | refine x_condt (h1 := ?_)
         | fail)
        all_goals try clear fx
        simp only [renG, hno]
        refine e_ret [(.c (.s 8) 0 0, root)] (.one rfl) (by simp [h8]; rfl) ?_
        refine ⟨by simp, ⟨by simp, fun j k hk => by simp at hk, fun j k hk => by simp at hk⟩⟩
  have hge : c = p.length := by
    have : ¬ c < p.length := by simpa using hf
    omega
  have hyes : renOk p B x y = true := by
    have hc0 : clash p B y = false := by
      apply Bool.eq_false_iff.2
      intro h
      obtain ⟨d, hd, hd'⟩ := List.any_eq_true.1 h
      rw [hcl d (by have := List.mem_range.1 hd; omega)] at hd'
      cases hd'
    simp only [renOk, hv, hy, bne, hxy, Int.toNat_natCast, renAt, hk, hkd, hlo, hc0]
    simp [hx0, hx7]
    omega
  have hg : renG p B x y = renS (touches p B x) x y p := by simp only [renG, hyes, if_true]
  rw [hg, hyes]
  clear hf hcl
  all_goals have fx := And.intro h1 <| And.intro h2 <| And.intro h3 <| And.intro h4 <| hp4
  repeat' (first
   | refine w_seq ?_ | refine w_reg fun K hK => ?_
   | refine w_exit ?_
   | (with_reducible refine s_none ?_)
   | ((with_reducible refine o_id 25 rfl ?_); refine x_callg (hF := copyProgram_fn _ p hs) (h := ?_))
   | (with_reducible refine x_q (h := ?_))
   | fail)
  all_goals try clear fx
  rintro z H' ⟨rfl, hO⟩
  obtain ⟨ho1, ho2, ho3⟩ := hO.hcln
  refine ⟨by simp, ?_⟩
  all_goals have fx := And.intro h1 <| And.intro h2 <| And.intro h3 <| And.intro h4 <| And.intro hp4 <| ho1
  repeat' (first
   | refine w_seq ?_ | refine w_block ?_ | refine w_reg fun K hK => ?_
   | ((with_reducible refine s_end hK ?_); clear hK K)
   | (with_reducible refine s_none ?_)
   | (with_reducible first | refine x_assign (h := ?_) | refine x_alloc (h := ?_) | refine x_store0 (h := ?_))
   | ((with_reducible refine o_id 45 rfl ?_); refine x_callh (hF := touched_fn _ p B x hs hh) (h := ?_))
   | (with_reducible refine x_q (h := ?_))
   | fail)
  all_goals try clear fx
  have hTl : (touched p B x).length ≤ p.length := touchTo_len p.length
  refine w_loop (fun n st => ∃ i : Nat, n = (touched p B x).length - i ∧ i ≤ (touched p B x).length ∧ st.tm 2 = iv x ∧ st.tm 3 = iv y ∧ st.tm 8 = .pt (.s 8) 0 ∧ st.hp (.s 8) = some (.row 1 [[.hs (.c (.s 8) 0 0) 4 0 0]]) ∧ st.hp (.c (.s 8) 0 0) = some (.row 4 []) ∧
    st.tm 11 = .pt (.s 11) 0 ∧ st.hp (.s 11) = some (.row 1 [[.hs (.c (.s 11) 0 0) 4 0 p.length]]) ∧ st.tm 12 = .hs (.s 12) 1 0 (touched p B x).length ∧ st.hp (.s 12) = some (.row 1 (irows (touched p B x))) ∧ st.tm 13 = iv i ∧
    OwnP st.hp (.c (.s 11) 0 0) (renS (fun c => decide ((c : Int) ∈ (touched p B x).take i)) x y p)) (touched p B x).length ?_ ?_
  · have e0 : renS (fun c => decide ((c : Int) ∈ (touched p B x).take 0)) x y p = p := by
      simp only [List.take_zero, List.not_mem_nil, decide_false]
      exact renS_none
    refine ⟨0, by omega, by omega, by simp [h2], by simp [h3], by simp [h8], by simp [hp8], by simp [hp8'], by simp, by simp, by simp, by simp, by simp, ?_⟩
    rw [e0]
    exact ⟨by simp [ho1], fun j k hk => by simp [ho2 j k hk], fun j k hk => by simp [ho3 j k hk]⟩
  rintro n st - - ⟨i, rfl, hi, h2, h3, h8, hp8, hp8', h11, hp11, h12, hp12, h13, ⟨ho1, ho2, ho3⟩⟩
  all_goals have fx := And.intro h2 <| And.intro h3 <| And.intro h11 <| And.intro hp11 <| And.intro h12 <| And.intro hp12 <| h13
  repeat' (first
   | refine w_seq ?_ | refine w_reg fun K hK => ?_
   | ((with_reducible refine s_end hK ?_); clear hK K)
   | (with_reducible first | refine then_normal ?_)
   | (with_reducible refine s_none ?_)
   | (with_reducible refine x_q (h := ?_))
   | fail)
  all_goals try clear fx
  refine w_if (by simp []; first | done | rfl | exact (Bool.not_not _).symm) (fun ht => ?_) (fun hf => ?_)
  · have hlt : i < (touched p B x).length := by simpa using ht
    obtain ⟨z, hz⟩ : ∃ z, (touched p B x)[i]? = some z := ⟨_, List.getElem?_eq_getElem hlt⟩
    obtain ⟨c, rfl, hcp, _⟩ := touched_at hz
    have hcT := hz
    obtain ⟨k, hk⟩ : ∃ k, p[c]? = some k := ⟨_, List.getElem?_eq_getElem hcp⟩
    have hkR := ren_get (x := x) (y := y) hcT hk
    have hcl : c < p.length := (List.getElem?_eq_some_iff.1 hk).1
    obtain ⟨_, hcT'⟩ := List.getElem?_eq_some_iff.1 hcT
    obtain ⟨_, hkR'⟩ := List.getElem?_eq_some_iff.1 hkR
    clear ht
    obtain ⟨hkp, hkb⟩ := hs.bsm hk
    have hpar := ho2 c k hkR
    have hbod := ho3 c k hkR
    all_goals have fx := And.intro h2 <| And.intro h3 <| And.intro h11 <| And.intro hp11 <| And.intro h12 <| And.intro hp12 <| And.intro h13 <| And.intro hlt <| And.intro hcT <| And.intro hcT' <| And.intro ho1 <| And.intro hcl <| And.intro hkR <| hkR'
    repeat' (first
     | refine w_seq ?_ | refine w_block ?_ | refine w_skip ?_ | refine w_reg fun K hK => ?_
     | ((with_reducible refine s_end hK ?_); clear hK K)
     | (with_reducible first | refine s_nil ?_)
     | (with_reducible refine s_none ?_)
     | (with_reducible first | refine x_assign (h := ?_) | refine x_alloc (h := ?_) | refine x_store0 (h := ?_))
     | (refine w_sch (id := 13) (.q 0 <| .q 1 <| .q 2 <| .q 3 <| .q 4 <| .q 5 <| .q 6 <| .q 7 <| .l 8 [7, 6, 5, 4, 3, 2, 1, 0] <| .l 9 [] <| .done) mixed (by kernel_rfl) (by kernel_rfl) fun K hK => ?_)
     | ((with_reducible refine a_end hK ?_); clear hK K)
     | ((with_reducible refine a_id ?_); first | refine xa_q (h := ?_))
     | refine a_l rfl ?_ | (with_reducible refine And.intro ?_ ?_) | exact st_nil | refine xa_st (h2 := ?_)
     | fail)
    all_goals try clear fx
    refine w_loop (fun n st => ∃ j : Nat, n = k.params.length - j ∧ j ≤ k.params.length ∧ st.tm 2 = iv x ∧ st.tm 3 = iv y ∧ st.tm 8 = .pt (.s 8) 0 ∧ st.hp (.s 8) = some (.row 1 [[.hs (.c (.s 8) 0 0) 4 0 0]]) ∧ st.hp (.c (.s 8) 0 0) = some (.row 4 []) ∧
      st.tm 11 = .pt (.s 11) 0 ∧ st.hp (.s 11) = some (.row 1 [[.hs (.c (.s 11) 0 0) 4 0 p.length]]) ∧ st.tm 12 = .hs (.s 12) 1 0 (touched p B x).length ∧ st.hp (.s 12) = some (.row 1 (irows (touched p B x))) ∧ st.tm 13 = iv i ∧
      st.tm 14 = .pt (.s 14) 0 ∧ st.hp (.s 14) = some (.row 4 [[iv k.kind, iv k.parent, .hs (.c (.c (.s 11) 0 0) c 2) 1 0 k.params.length, .hs (.c (.c (.s 11) 0 0) c 3) 4 0 k.body.length]]) ∧ st.tm 15 = iv j ∧
      st.hp (.c (.s 11) 0 0) = some (.row 4 (pRows (.c (.s 11) 0 0) (renS (fun c => decide ((c : Int) ∈ (touched p B x).take i)) x y p))) ∧
      st.hp (.c (.c (.s 11) 0 0) c 2) = some (.row 1 (irows (mapTo (fun n => swapI n x y) k.params j))) ∧ st.hp (.c (.c (.s 11) 0 0) c 3) = some (.row 4 (srows k.body)) ∧
      (∀ (d : Nat) q, (renS (fun c => decide ((c : Int) ∈ (touched p B x).take i)) x y p)[d]? = some q → d ≠ c → st.hp (.c (.c (.s 11) 0 0) d 2) = some (.row 1 (irows q.params)) ∧ st.hp (.c (.c (.s 11) 0 0) d 3) = some (.row 4 (srows q.body)))) k.params.length ?_ ?_
    · refine ⟨0, by omega, by omega, by simp [h2], by simp [h3], by simp [h8], by simp [hp8], by simp [hp8'], by simp [h11], by simp [hp11], by simp [h12], by simp [hp12], by simp [h13], by simp, by simp, by simp, by simp [ho1], ?_, by simp [hbod], fun d q hq hd => ⟨by simp [ho2 d q hq], by simp [ho3 d q hq]⟩⟩
      rw [mapTo_zero]
      simp [hpar]
    clear h2 h3 h8 hp8 hp8' h11 hp11 h12 hp12 h13 ho1 ho2 ho3 hpar hbod
    rintro n st - - ⟨j, rfl, hj, h2, h3, h8, hp8, hp8', h11, hp11, h12, hp12, h13, h14, hp14, h15, ho1, hpar, hbod, hoth⟩
    all_goals have fx := And.intro h14 <| And.intro hp14 <| h15
    repeat' (first
     | refine w_seq ?_ | refine w_reg fun K hK => ?_
     | ((with_reducible refine s_end hK ?_); clear hK K)
     | (with_reducible first | refine then_normal ?_)
     | (with_reducible refine s_none ?_)
     | (with_reducible refine x_q (h := ?_))
     | fail)
    all_goals try clear fx
    refine w_if (by simp []; first | done | rfl | exact (Bool.not_not _).symm) (fun ht => ?_) (fun hf => ?_)
    · have hjl : j < k.params.length := by simpa using ht
      obtain ⟨u, hu⟩ : ∃ u, k.params[j]? = some u := ⟨_, List.getElem?_eq_getElem hjl⟩
      have hm := mapTo_get (f := fun n => swapI n x y) hu
      obtain ⟨_, hm'⟩ := List.getElem?_eq_some_iff.1 hm
      clear ht
      all_goals have fx := And.intro h2 <| And.intro h3 <| And.intro h14 <| And.intro hp14 <| And.intro h15 <| And.intro hpar <| And.intro hjl <| And.intro hm <| hm'
      repeat' (first
       | refine w_seq ?_ | refine w_block ?_ | refine w_skip ?_ | refine w_reg fun K hK => ?_
       | ((with_reducible refine s_end hK ?_); clear hK K)
       | (with_reducible first | refine then_normal ?_ | refine s_nil ?_)
       | (with_reducible refine s_none ?_)
       | (with_reducible first | refine x_assign (h := ?_) | refine x_store0 (h := ?_))
       | ((with_reducible refine o_id 46 rfl ?_); refine x_call (hF := swap_fn _ _ x y) (h := ?_))
       | (with_reducible refine x_q (h := ?_))
       | (refine w_sch (id := 17) (.q 0 <| .q 1 <| .q 2 <| .q 3 <| .q 4 <| .q 5 <| .q 6 <| .q 7 <| .q 8 <| .q 9 <| .l 10 [6, 5, 4, 3, 2, 1, 0] <| .q 11 <| .l 12 [] <| .done) mixed (by kernel_rfl) (by kernel_rfl) fun K hK => ?_)
       | (refine w_sch (id := 21) (.q 0 <| .q 1 <| .q 2 <| .q 3 <| .q 4 <| .q 5 <| .q 6 <| .q 7 <| .q 8 <| .q 9 <| .l 10 [6, 5, 4, 3, 2, 1, 0] <| .q 11 <| .l 12 [] <| .done) mixed (by kernel_rfl) (by kernel_rfl) fun K hK => ?_)
       | ((with_reducible refine a_end hK ?_); clear hK K)
       | ((with_reducible refine a_id ?_); first | refine xa_q (h := ?_))
       | refine a_l rfl ?_ | (with_reducible refine And.intro ?_ ?_) | exact st_nil | refine xa_st (h2 := ?_)
       | fail)
      all_goals try clear fx
      refine ⟨k.params.length - (j + 1), by omega, j + 1, rfl, by omega, by simp [h2], by simp [h3], by simp [h8], by simp [hp8], by simp [hp8'], by simp [h11], by simp [hp11], by simp [h12], by simp [hp12], by simp [h13], by simp [h14], by simp [hp14], by simp; exact wrp (by omega) (by omega), by simp [ho1], ?_, by simp [hbod], fun d q hq hd => ⟨by simp [(hoth d q hq hd).1, hd], by simp [(hoth d q hq hd).2]⟩⟩
      rw [← mapTo_set (f := fun n => swapI n x y) hu]
      simp [irows]
    have hge : j = k.params.length := by
      have : ¬ j < k.params.length := by simpa using hf
      omega
    subst hge
    rw [mapTo_all] at hpar
    clear hf
    all_goals have fx := And.intro h14 <| And.intro hp14 <| h15
    repeat' (first
     | refine w_seq ?_ | refine w_block ?_ | refine w_reg fun K hK => ?_
     | ((with_reducible refine s_end hK ?_); clear hK K)
     | refine w_exit ?_
     | (with_reducible refine s_none ?_)
     | (with_reducible first | refine x_assign (h := ?_))
     | fail)
    all_goals try clear fx
    refine w_loop (fun n st => ∃ j : Nat, n = k.body.length - j ∧ j ≤ k.body.length ∧ st.tm 2 = iv x ∧ st.tm 3 = iv y ∧ st.tm 8 = .pt (.s 8) 0 ∧ st.hp (.s 8) = some (.row 1 [[.hs (.c (.s 8) 0 0) 4 0 0]]) ∧ st.hp (.c (.s 8) 0 0) = some (.row 4 []) ∧
      st.tm 11 = .pt (.s 11) 0 ∧ st.hp (.s 11) = some (.row 1 [[.hs (.c (.s 11) 0 0) 4 0 p.length]]) ∧ st.tm 12 = .hs (.s 12) 1 0 (touched p B x).length ∧ st.hp (.s 12) = some (.row 1 (irows (touched p B x))) ∧ st.tm 13 = iv i ∧
      st.tm 14 = .pt (.s 14) 0 ∧ st.hp (.s 14) = some (.row 4 [[iv k.kind, iv k.parent, .hs (.c (.c (.s 11) 0 0) c 2) 1 0 k.params.length, .hs (.c (.c (.s 11) 0 0) c 3) 4 0 k.body.length]]) ∧ st.tm 16 = iv j ∧
      st.hp (.c (.s 11) 0 0) = some (.row 4 (pRows (.c (.s 11) 0 0) (renS (fun c => decide ((c : Int) ∈ (touched p B x).take i)) x y p))) ∧
      st.hp (.c (.c (.s 11) 0 0) c 2) = some (.row 1 (irows (k.params.map (fun n => swapI n x y)))) ∧ st.hp (.c (.c (.s 11) 0 0) c 3) = some (.row 4 (srows (mapTo (fun s => s.ren x y) k.body j))) ∧
      (∀ (d : Nat) q, (renS (fun c => decide ((c : Int) ∈ (touched p B x).take i)) x y p)[d]? = some q → d ≠ c → st.hp (.c (.c (.s 11) 0 0) d 2) = some (.row 1 (irows q.params)) ∧ st.hp (.c (.c (.s 11) 0 0) d 3) = some (.row 4 (srows q.body)))) k.body.length ?_ ?_
    · refine ⟨0, by omega, by omega, by simp [h2], by simp [h3], by simp [h8], by simp [hp8], by simp [hp8'], by simp [h11], by simp [hp11], by simp [h12], by simp [hp12], by simp [h13], by simp [h14], by simp [hp14], by simp, by simp [ho1], by simp [hpar], ?_, fun d q hq hd => ⟨by simp [(hoth d q hq hd).1], by simp [(hoth d q hq hd).2]⟩⟩
      rw [mapTo_zero]
      simp [hbod]
    clear h2 h3 h8 hp8 hp8' h11 hp11 h12 hp12 h13 h14 hp14 h15 ho1 hpar hbod hoth
    rintro n st - - ⟨j, rfl, hj, h2, h3, h8, hp8, hp8', h11, hp11, h12, hp12, h13, h14, hp14, h16, ho1, hpar, hbod, hoth⟩
    all_goals have fx := And.intro h14 <| And.intro hp14 <| h16
    repeat' (first
     | refine w_seq ?_ | refine w_reg fun K hK => ?_
     | ((with_reducible refine s_end hK ?_); clear hK K)
     | (with_reducible first | refine then_normal ?_)
     | (with_reducible refine s_none ?_)
     | (with_reducible refine x_q (h := ?_))
     | fail)
    all_goals try clear fx
    refine w_if (by simp []; first | done | rfl | exact (Bool.not_not _).symm) (fun ht => ?_) (fun hf => ?_)
    · have hjl : j < k.body.length := by simpa using ht
      obtain ⟨u, hu⟩ : ∃ u, k.body[j]? = some u := ⟨_, List.getElem?_eq_getElem hjl⟩
      have hm := mapTo_get (f := fun s => s.ren x y) hu
      obtain ⟨_, hm'⟩ := List.getElem?_eq_some_iff.1 hm
      clear ht
      all_goals have fx := And.intro h2 <| And.intro h3 <| And.intro h14 <| And.intro hp14 <| And.intro h16 <| And.intro hbod <| And.intro hjl <| And.intro hm <| hm'
      repeat' (first
       | refine w_seq ?_ | refine w_block ?_ | refine w_skip ?_ | refine w_reg fun K hK => ?_
       | ((with_reducible refine s_end hK ?_); clear hK K)
       | (with_reducible first | refine then_normal ?_ | refine s_nil ?_)
       | (with_reducible refine s_none ?_)
       | (with_reducible first | refine x_assign (h := ?_) | refine x_store0 (h := ?_))
       | ((with_reducible refine o_id 47 rfl ?_); refine x_call (hF := spec_renamed_fn _ u x y) (h := ?_))
       | (with_reducible refine x_q (h := ?_))
       | (refine w_sch (id := 17) (.q 0 <| .q 1 <| .q 2 <| .q 3 <| .q 4 <| .q 5 <| .q 6 <| .q 7 <| .q 8 <| .q 9 <| .l 10 [6, 5, 4, 3, 2, 1, 0] <| .q 11 <| .l 12 [] <| .done) mixed (by kernel_rfl) (by kernel_rfl) fun K hK => ?_)
       | (refine w_sch (id := 21) (.q 0 <| .q 1 <| .q 2 <| .q 3 <| .q 4 <| .q 5 <| .q 6 <| .q 7 <| .q 8 <| .q 9 <| .l 10 [6, 5, 4, 3, 2, 1, 0] <| .q 11 <| .l 12 [] <| .done) mixed (by kernel_rfl) (by kernel_rfl) fun K hK => ?_)
       | ((with_reducible refine a_end hK ?_); clear hK K)
       | ((with_reducible refine a_id ?_); first | refine xa_q (h := ?_))
       | refine a_l rfl ?_ | (with_reducible refine And.intro ?_ ?_) | exact st_nil | refine xa_st (h2 := ?_)
       | fail)
      all_goals try clear fx
      refine ⟨k.body.length - (j + 1), by omega, j + 1, rfl, by omega, by simp [h2], by simp [h3], by simp [h8], by simp [hp8], by simp [hp8'], by simp [h11], by simp [hp11], by simp [h12], by simp [hp12], by simp [h13], by simp [h14], by simp [hp14], by simp; exact wrp (by omega) (by omega), by simp [ho1], by simp [hpar], ?_, fun d q hq hd => ⟨by simp [(hoth d q hq hd).1], by simp [(hoth d q hq hd).2, hd]⟩⟩
      rw [← mapTo_set (f := fun s => s.ren x y) hu]
      simp [srows_set]
    have hge : j = k.body.length := by
      have : ¬ j < k.body.length := by simpa using hf
      omega
    subst hge
    rw [mapTo_all] at hbod
    clear hf
    all_goals have fx :=  h13
    repeat' (first
     | refine w_reg fun K hK => ?_
     | ((with_reducible refine s_end hK ?_); clear hK K)
     | (with_reducible first | refine then_normal ?_)
     | refine w_exit ?_
     | (with_reducible refine s_none ?_)
     | (with_reducible first | refine x_assign (h := ?_))
     | (with_reducible refine x_q (h := ?_))
     | fail)
    all_goals try clear fx
    refine ⟨(touched p B x).length - (i + 1), by omega, i + 1, rfl, by omega, by simp [h2], by simp [h3], by simp [h8], by simp [hp8], by simp [hp8'], by simp [h11], by simp [hp11], by simp [h12], by simp [hp12], by simp; exact wrp (by omega) (by omega), ?_⟩
    rw [← ren_step hcT hk]
    refine ⟨?_, fun d q hq => ?_, fun d q hq => ?_⟩
    · rw [pRows_ren hkR]
      simp [ho1]
    all_goals
      rw [List.getElem?_set] at hq
      by_cases e : c = d
      · subst e
        rw [if_pos rfl, if_pos (List.getElem?_eq_some_iff.1 hkR).1] at hq
        obtain rfl := Option.some.inj hq
        simp [hpar, hbod, Blk.ren]
      · rw [if_neg e] at hq
        simp [(hoth d q hq (Ne.symm e)).1, (hoth d q hq (Ne.symm e)).2]
  have hge : i = (touched p B x).length := by
    have : ¬ i < (touched p B x).length := by simpa using hf
    omega
  subst hge
  simp only [ren_all] at ho1 ho2 ho3
  clear hf
  all_goals have fx := And.intro h8 <| And.intro hp8 <| And.intro hp8' <| And.intro h11 <| hp11
  repeat' (first
   | refine w_seq ?_ | refine w_reg fun K hK => ?_
   | ((with_reducible refine s_end hK ?_); clear hK K)
   | (with_reducible first | refine then_normal ?_)
   | refine w_exit ?_
   | refine w_ret ?_
   | (with_reducible refine s_none ?_)
   | (with_reducible first | refine x_assign (h := ?_) | refine x_store0 (h := ?_))
   | (with_reducible refine x_q (h := ?_))
   | fail)
  all_goals try clear fx
  refine e_ret [(.c (.s 11) 0 0, root)] (.one rfl) (by simp [h8]; rfl) ⟨by simp, ⟨?_, fun j r hj => ?_, fun j r hj => ?_⟩⟩
  · simp [ho1, pRows_tr (n := .c (.s 11) 0 0) (m := root) (f := finf noD [(.c (.s 11) 0 0, root)]) (p := renS (touches p B x) x y p) (by simp)]
  · simp [ho2 j r hj]
  · simp [ho3 j r hj]
end Go.Proofs.Ytopgafhjmbfaoaa
end
