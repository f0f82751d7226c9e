/-
  Own texts, joined by mkclaim.py: Hc, Hd.
-/
import Derived.Test.YtpckgioefpkmoaaGreatM20
import Derived.Test.YtpckgioefpkmoaaGreatM10
set_option linter.unusedSimpArgs false
set_option linter.unusedVariables false

section
set_option maxRecDepth 100000
set_option maxHeartbeats 1000000
set_option linter.unusedSimpArgs false
namespace Go.Proofs.YtpckgioefpkmoaaGreat
open Go Go.Hm Go.Proofs
theorem madeAs_at {p : Prg} {b j : Nat} {q : Blk} {d : Int} (hh : Heads p) (hq : p[j]? = some q) : madeAs p b j d = ((q.kind == d) && (q.parent == b)) := by
  have hj : j < p.length := (List.getElem?_eq_some_iff.1 hq).1
  obtain ⟨_, h2, _⟩ := hh j q hq
  simp only [madeAs, Int.toNat_natCast, hq]
  by_cases h : q.parent = b
  · have : (b : Int) + 1 ≤ j ∧ (j : Int) ≤ p.length - 1 := by omega
    simp [this]
  · simp [h]
theorem madeAs_no {p : Prg} {b : Nat} {j d : Int} (h : ¬ (0 ≤ j ∧ j < p.length)) : madeAs p b j d = false := by
  have : ¬ ((b : Int) + 1 ≤ j ∧ j ≤ (p.length : Int) - 1) := by omega
  simp [madeAs, this]
theorem fitsStmt_fn (gl) (p : Prg) (b : Nat) (k : Blk) (s : Stm) (hk : p[b]? = some k) (hh : Heads p) (hd : HeadOk b k) : FnOk Tryz.prog gl 93 [pav p, iv b, s.av] (fun _ x _ => x = bv (StmOk p b k s)) := by
  obtain ⟨n, to, a, c⟩ := s
  have hb0 : (k.kind = 0) ↔ b = 0 := by
    unfold HeadOk at hd
    split at hd <;> omega
  refine FnOk.of_sem Tryz.func93 rfl (by kernel_rfl) (rs := [.tmp 6]) rfl Tryz.ntmps93 (Nat.le_of_ble_eq_true rfl) fun C w g root => ?_
  by_cases hto : 0 ≤ to ∧ to ≤ 7
  case neg =>
    have h1 : (decide (0 ≤ to) && decide (to ≤ 7)) = false := by simp; omega
    all_goals have fx :=  h1
    repeat' (first
     | refine w_seq ?_ | refine w_reg fun K hK => ?_
     | ((with_reducible refine s_end hK ?_); clear hK K)
     | (with_reducible first | refine then_normal ?_ | refine then_ret ?_)
     | refine w_ret ?_
     | (with_reducible refine s_none ?_)
     | (with_reducible first | refine x_assign (h := ?_) | refine x_box (h := ?_))
     | ((with_reducible refine o_id 72 rfl ?_); refine x_call (hF := impl_isName_fn _ to) (h := ?_))
     | (with_reducible refine x_q (h := ?_))
     | refine x_condt (h1 := ?_)
     | fail)
    all_goals try clear fx
    refine e_ret [] .nil (by simp; rfl) ?_
    simp [StmOk, h1]
  have h1 : (decide (0 ≤ to) && decide (to ≤ 7)) = true := by simp; omega
  rcases kind_cases n with rfl | rfl | rfl | rfl | rfl | rfl | rfl | rfl | rfl | rfl | rfl | rfl | hn
  case inr.inr.inr.inr.inr.inr.inr.inr.inr.inr.inr.inr =>
    have hf : formAV ⟨n, to, a, c⟩ = .sc .nilIface := formAV_no hn
    all_goals have fx := And.intro h1 <| hf
    repeat' (first
     | refine w_seq ?_ | refine w_block ?_ | refine w_skip ?_ | refine w_reg fun K hK => ?_
     | ((with_reducible refine s_end hK ?_); clear hK K)
     | (with_reducible first | refine then_normal ?_)
     | refine w_ret ?_
     | (with_reducible refine s_none ?_)
     | (with_reducible first | refine x_assign (h := ?_) | refine x_box (h := ?_))
     | ((with_reducible refine o_id 72 rfl ?_); refine x_call (hF := impl_isName_fn _ to) (h := ?_))
     | ((with_reducible refine o_id 94 rfl ?_); refine x_call (hF := formOf_fn _ ⟨n, to, a, c⟩) (h := ?_))
     | (with_reducible refine x_q (h := ?_))
     | refine x_condf (h1 := ?_)
     | fail)
    all_goals try clear fx
    refine e_ret [] .nil (by simp; rfl) ?_
    have h2 : ¬ (n = 0 ∨ n = 1 ∨ n = 2 ∨ n = 3 ∨ n = 4 ∨ n = 5 ∨ n = 6 ∨ n = 7 ∨ n = 8 ∨ n = 9 ∨ n = 10 ∨ n = 11) := by omega
    simp only [not_or] at h2
    simp [StmOk, h2]
  case inr.inr.inr.inl =>
    by_cases ha : 0 ≤ a ∧ a < p.length
    · obtain ⟨j, rfl⟩ : ∃ j : Nat, a = j := ⟨a.toNat, by omega⟩
      obtain ⟨q, hq⟩ : ∃ q, p[j]? = some q := ⟨_, List.getElem?_eq_getElem (by omega)⟩
      obtain ⟨h2, h3⟩ := List.getElem?_eq_some_iff.1 hq
      all_goals have fx := And.intro h1 <| And.intro hq <| And.intro h2 <| h3
      repeat' (first
       | refine w_seq ?_ | refine w_block ?_ | refine w_skip ?_ | refine w_reg fun K hK => ?_
       | ((with_reducible refine s_end hK ?_); clear hK K)
       | (with_reducible first | refine then_normal ?_ | refine then_ret ?_ | refine in_ret ?_)
       | refine w_ret ?_
       | (with_reducible refine s_none ?_)
       | ((with_reducible refine g_id ?_); refine x_guard (h := ?_))
       | (with_reducible first | refine gx_tt ?_ | refine gx_ff ?_ | refine x_tf (h := ?_) | refine x_assign (h := ?_) | refine x_box (h := ?_) | refine x_alloc (h := ?_) | refine x_store0 (h := ?_))
       | ((with_reducible refine o_id 72 rfl ?_); refine x_call (hF := impl_isName_fn _ to) (h := ?_))
       | ((with_reducible refine o_id 94 rfl ?_); refine x_call (hF := formOf_fn _ ⟨_, to, _, c⟩) (h := ?_))
       | ((with_reducible refine o_id 69 rfl ?_); refine x_call (hF := impl_isBlock_fn _ p _) (h := ?_))
       | (with_reducible refine x_q (h := ?_))
       | (with_reducible refine gx_s (fun ht => ?_) (fun ht => ?_))
       | refine x_condt (h1 := ?_) | refine x_condf (h1 := ?_)
       | refine x_if (h1 := fun ht => ?_) (h2 := fun ht => ?_)
       | fail)
      all_goals try clear fx
      all_goals refine e_ret [] .nil (by simp; rfl) ?_
      all_goals simp_all [StmOk, madeAs_at, Stm.reads]
    · have h2 : ¬ (0 ≤ a ∧ a < p.length) := ha
      all_goals have fx := And.intro h1 <| h2
      repeat' (first
       | refine w_seq ?_ | refine w_block ?_ | refine w_skip ?_ | refine w_reg fun K hK => ?_
       | ((with_reducible refine s_end hK ?_); clear hK K)
       | (with_reducible first | refine then_normal ?_ | refine then_ret ?_ | refine in_ret ?_)
       | refine w_ret ?_
       | (with_reducible refine s_none ?_)
       | ((with_reducible refine g_id ?_); refine x_guard (h := ?_))
       | (with_reducible first | refine x_ft (h := ?_) | refine x_assign (h := ?_) | refine x_box (h := ?_) | refine x_alloc (h := ?_) | refine x_store0 (h := ?_))
       | ((with_reducible refine o_id 72 rfl ?_); refine x_call (hF := impl_isName_fn _ to) (h := ?_))
       | ((with_reducible refine o_id 94 rfl ?_); refine x_call (hF := formOf_fn _ ⟨_, to, _, c⟩) (h := ?_))
       | ((with_reducible refine o_id 69 rfl ?_); refine x_call (hF := impl_isBlock_fn _ p _) (h := ?_))
       | (with_reducible refine x_q (h := ?_))
       | refine x_condt (h1 := ?_) | refine x_condf (h1 := ?_)
       | fail)
      all_goals try clear fx
      all_goals refine e_ret [] .nil (by simp; rfl) ?_
      all_goals simp [StmOk, madeAs_no h2]
  case inr.inr.inr.inr.inl =>
    by_cases ha : 0 ≤ a ∧ a < p.length
    · obtain ⟨j, rfl⟩ : ∃ j : Nat, a = j := ⟨a.toNat, by omega⟩
      obtain ⟨q, hq⟩ : ∃ q, p[j]? = some q := ⟨_, List.getElem?_eq_getElem (by omega)⟩
      obtain ⟨h2, h3⟩ := List.getElem?_eq_some_iff.1 hq
      all_goals have fx := And.intro h1 <| And.intro hq <| And.intro h2 <| h3
      repeat' (first
       | refine w_seq ?_ | refine w_block ?_ | refine w_skip ?_ | refine w_reg fun K hK => ?_
       | ((with_reducible refine s_end hK ?_); clear hK K)
       | (with_reducible first | refine then_normal ?_ | refine then_ret ?_ | refine in_ret ?_)
       | refine w_ret ?_
       | (with_reducible refine s_none ?_)
       | ((with_reducible refine g_id ?_); refine x_guard (h := ?_))
       | (with_reducible first | refine gx_tt ?_ | refine gx_ff ?_ | refine x_tf (h := ?_) | refine x_assign (h := ?_) | refine x_box (h := ?_) | refine x_alloc (h := ?_) | refine x_store0 (h := ?_))
       | ((with_reducible refine o_id 72 rfl ?_); refine x_call (hF := impl_isName_fn _ to) (h := ?_))
       | ((with_reducible refine o_id 94 rfl ?_); refine x_call (hF := formOf_fn _ ⟨_, to, _, c⟩) (h := ?_))
       | ((with_reducible refine o_id 69 rfl ?_); refine x_call (hF := impl_isBlock_fn _ p _) (h := ?_))
       | (with_reducible refine x_q (h := ?_))
       | (with_reducible refine gx_s (fun ht => ?_) (fun ht => ?_))
       | refine x_condt (h1 := ?_) | refine x_condf (h1 := ?_)
       | refine x_if (h1 := fun ht => ?_) (h2 := fun ht => ?_)
       | fail)
      all_goals try clear fx
      all_goals refine e_ret [] .nil (by simp; rfl) ?_
      all_goals simp_all [StmOk, madeAs_at, Stm.reads]
    · have h2 : ¬ (0 ≤ a ∧ a < p.length) := ha
      all_goals have fx := And.intro h1 <| h2
      repeat' (first
       | refine w_seq ?_ | refine w_block ?_ | refine w_skip ?_ | refine w_reg fun K hK => ?_
       | ((with_reducible refine s_end hK ?_); clear hK K)
       | (with_reducible first | refine then_normal ?_ | refine then_ret ?_ | refine in_ret ?_)
       | refine w_ret ?_
       | (with_reducible refine s_none ?_)
       | ((with_reducible refine g_id ?_); refine x_guard (h := ?_))
       | (with_reducible first | refine x_ft (h := ?_) | refine x_assign (h := ?_) | refine x_box (h := ?_) | refine x_alloc (h := ?_) | refine x_store0 (h := ?_))
       | ((with_reducible refine o_id 72 rfl ?_); refine x_call (hF := impl_isName_fn _ to) (h := ?_))
       | ((with_reducible refine o_id 94 rfl ?_); refine x_call (hF := formOf_fn _ ⟨_, to, _, c⟩) (h := ?_))
       | ((with_reducible refine o_id 69 rfl ?_); refine x_call (hF := impl_isBlock_fn _ p _) (h := ?_))
       | (with_reducible refine x_q (h := ?_))
       | refine x_condt (h1 := ?_) | refine x_condf (h1 := ?_)
       | fail)
      all_goals try clear fx
      all_goals refine e_ret [] .nil (by simp; rfl) ?_
      all_goals simp [StmOk, madeAs_no h2]
  all_goals
    all_goals have fx := And.intro h1 <| hk
    repeat' (first
     | refine w_seq ?_ | refine w_block ?_ | refine w_skip ?_ | refine w_reg fun K hK => ?_
     | ((with_reducible refine s_end hK ?_); clear hK K)
     | (with_reducible first | refine then_normal ?_ | refine then_ret ?_ | refine in_ret ?_)
     | refine w_ret ?_
     | (with_reducible refine s_none ?_)
     | ((with_reducible refine g_id ?_); refine x_guard (h := ?_))
     | (with_reducible first | refine gx_tt ?_ | refine gx_ff ?_ | refine x_tf (h := ?_) | refine x_ft (h := ?_) | refine x_u (h := ?_) | refine x_assign (h := ?_) | refine x_box (h := ?_) | refine x_alloc (h := ?_) | refine x_store0 (h := ?_))
     | ((with_reducible refine o_id 72 rfl ?_); refine x_call (hF := impl_isName_fn _ _) (h := ?_))
     | ((with_reducible refine o_id 94 rfl ?_); refine x_call (hF := formOf_fn _ ⟨_, to, a, c⟩) (h := ?_))
     | (with_reducible refine x_q (h := ?_))
     | (with_reducible refine gx_s (fun ht => ?_) (fun ht => ?_))
     | refine x_condt (h1 := ?_) | refine x_condf (h1 := ?_)
     | fail)
    all_goals try clear fx
  all_goals refine e_ret [] .nil (by simp [hk]; rfl) ?_
  all_goals simp_all [StmOk, Stm.reads]
  all_goals first | omega | grind
end Go.Proofs.YtpckgioefpkmoaaGreat
end

section
set_option maxRecDepth 100000
set_option maxHeartbeats 1000000
set_option linter.unusedSimpArgs false
namespace Go.Proofs.YtpckgioefpkmoaaGreat
open Go Go.Hm Go.Proofs
theorem tas_make {s : Stm} (h : s.kind = 3 ∨ s.kind = 4) : ∃ d, tasAV Tryz.prog 132 (formAV s) = some (.tup [.agg [iv d, iv s.a], bv true]) := by
  obtain ⟨n, to, a, b⟩ := s
  rcases h with h | h
  · simp only at h
    subst h
    exact ⟨1, by simp⟩
  · simp only at h
    subst h
    exact ⟨2, by simp⟩
theorem tas_no {s : Stm} (h : ¬ (s.kind = 3 ∨ s.kind = 4)) : tasAV Tryz.prog 132 (formAV s) = some (.tup [.agg [iv 0, iv 0], bv false]) := by
  simp only [not_or] at h
  obtain ⟨h3, h4⟩ := h
  unfold formAV
  rw [if_neg h3, if_neg h4]
  repeat' split
  all_goals simp
theorem impl_ValidShape_fn (gl) (p : Prg) (hs : Sml p) : FnOk Tryz.prog gl 66 [pav p] (fun _ y _ => y = bv (shapeOk p)) := by
  have hpl := hs.len
  refine FnOk.of_sem Tryz.func66 rfl (by kernel_rfl) (rs := [.tmp 2]) rfl Tryz.ntmps66 (Nat.le_of_ble_eq_true rfl) fun C w g root => ?_
  all_goals have fx := fx0
  repeat' (first
   | refine w_seq ?_ | refine w_block ?_ | refine w_skip ?_ | refine w_reg fun K hK => ?_
   | ((with_reducible refine s_end hK ?_); clear hK K)
   | (with_reducible first | refine then_normal ?_ | refine then_ret ?_)
   | refine w_ret ?_
   | (with_reducible refine s_none ?_)
   | ((with_reducible refine g_id ?_); refine x_guard (h := ?_))
   | (with_reducible first | refine gx_ff ?_ | refine x_ft (h := ?_) | refine x_assign (h := ?_) | refine x_box (h := ?_))
   | (with_reducible refine x_q (h := ?_))
   | (with_reducible refine gx_s (fun ht => ?_) (fun ht => ?_))
   | refine x_condt (h1 := ?_)
   | refine x_if (h1 := fun ht => ?_) (h2 := fun ht => ?_)
   | fail)
  all_goals try clear fx
  · refine e_ret [] .nil (by simp; rfl) ?_
    have hno : (decide (1 ≤ p.length) && decide (p.length ≤ 7)) = false := by
      rw [Bool.eq_false_iff]
      intro h
      simp at h ht
      omega
    simp only [shapeOk, hno]
    rfl
  · refine e_ret [] .nil (by simp; rfl) ?_
    have hno : (decide (1 ≤ p.length) && decide (p.length ≤ 7)) = false := by
      rw [Bool.eq_false_iff]
      intro h
      simp at h ht
      omega
    simp only [shapeOk, hno]
    rfl
  rename_i ht1
  have hyes : 1 ≤ p.length ∧ p.length ≤ 7 := by
    simp at ht ht1
    omega
  clear ht ht1
  refine w_loop (fun n st => ∃ i : Nat, n = p.length - i ∧ i ≤ p.length ∧ st.tm 1 = .pt (.s 1) 0 ∧ st.hp (.s 1) = some (.row 1 [[ksl p]]) ∧ st.tm 24 = ksl p ∧ st.tm 25 = iv p.length ∧ st.tm 26 = iv i ∧ ∀ (j : Nat) q, j < i → p[j]? = some q → headOk j q = true ∧ q.body.length ≤ 12) p.length ?_ ?_
  · exact ⟨0, by simp⟩
  rintro n st - - ⟨i, rfl, hi, h1, hp1, h24, h25, h26, hal⟩
  all_goals have fx := And.intro h1 <| And.intro hp1 <| And.intro h24 <| And.intro h25 <| h26
  repeat' (first
   | refine w_seq ?_ | refine w_reg fun K hK => ?_
   | ((with_reducible refine s_end hK ?_); clear hK K)
   | (with_reducible refine s_none ?_)
   | (with_reducible refine x_q (h := ?_))
   | fail)
  all_goals try clear fx
  refine w_if (by simp []; first | done | rfl | exact (Bool.not_not _).symm) (fun ht => ?_) (fun hf => ?_)
  · have hlt : i < p.length := by simpa using ht
    obtain ⟨k, hk⟩ : ∃ k, p[i]? = some k := ⟨_, List.getElem?_eq_getElem hlt⟩
    have fin : (headOk i k = true → ¬ k.body.length ≤ 12) → shapeOk p = false := fun h => by
      have : blkOk p i = false := by
        simp only [blkOk, hk, Bool.and_eq_false_iff, decide_eq_false_iff_not]
        cases hh : headOk i k with
        | false => exact .inl (.inl rfl)
        | true => exact .inl (.inr (h hh))
      simp only [shapeOk, range_false hlt this, Bool.and_false, Bool.false_and]
    have hbl := (hs.bsm hk).body
    clear ht
    all_goals have fx := And.intro h1 <| And.intro hp1 <| And.intro h24 <| And.intro h25 <| And.intro h26 <| hk
    repeat' (first
     | refine w_seq ?_ | refine w_block ?_ | refine w_skip ?_ | refine w_reg fun K hK => ?_
     | ((with_reducible refine s_end hK ?_); clear hK K)
     | (with_reducible first | refine then_normal ?_ | refine then_ret ?_ | refine in_ret ?_)
     | refine w_ret ?_
     | (with_reducible refine s_none ?_)
     | ((with_reducible refine g_id ?_); refine x_guard (h := ?_))
     | (with_reducible first | refine gx_ff ?_ | refine x_ft (h := ?_) | refine x_assign (h := ?_) | refine x_alloc (h := ?_) | refine x_store0 (h := ?_))
     | ((with_reducible refine o_id 92 rfl ?_); refine x_call (hF := fitsHead_fn _ i k) (h := ?_))
     | (with_reducible refine x_q (h := ?_))
     | (with_reducible refine gx_s (fun ht => ?_) (fun ht => ?_))
     | refine x_condt (h1 := ?_)
     | refine x_if (h1 := fun ht => ?_) (h2 := fun ht => ?_)
     | fail)
    all_goals try clear fx
    · refine e_ret [] .nil (by simp; rfl) ?_
      rw [fin (fun h => by simp [h] at ht)]
      rfl
    · refine e_ret [] .nil (by simp; rfl) ?_
      rw [fin (fun _ h => by simp at ht; omega)]
      rfl
    · rename_i ht1
      refine ⟨p.length - (i + 1), by omega, i + 1, rfl, by omega, by simp [h1], by simp [hp1], by simp [h24], by simp [h25], by simp; exact wrp (by omega) (by omega), fun j q hj hq => ?_⟩
      rcases Nat.lt_succ_iff_lt_or_eq.1 hj with h | rfl
      · exact hal j q h hq
      · rw [hk] at hq
        obtain rfl := Option.some.inj hq
        refine ⟨by simpa using ht1, ?_⟩
        simp at ht
        omega
  have hge : i = p.length := by
    have : ¬ i < p.length := by simpa using hf
    omega
  subst hge
  clear hf hi
  have hal' : ∀ (j : Nat) q, p[j]? = some q → HeadOk j q ∧ q.body.length ≤ 12 := fun j q hq => by
    obtain ⟨h1, h2⟩ := hal j q (List.getElem?_eq_some_iff.1 hq).1 hq
    exact ⟨by simpa only [headOk, decide_eq_true_eq] using h1, h2⟩
  clear hal
  have hh : Heads p := fun j q hq => (hal' j q hq).1.head
  have hb12 : ∀ q ∈ p, q.body.length ≤ 12 := fun q hq => by
    obtain ⟨j, hj⟩ := List.getElem?_of_mem hq
    exact (hal' j q hj).2
  all_goals have fx := And.intro h1 <| hp1
  repeat' (first
   | refine w_seq ?_ | refine w_block ?_ | refine w_reg fun K hK => ?_
   | ((with_reducible refine s_end hK ?_); clear hK K)
   | refine w_exit ?_
   | (with_reducible refine s_none ?_)
   | (with_reducible first | refine x_alloc (h := ?_))
   | (with_reducible refine x_q (h := ?_))
   | fail)
  all_goals try clear fx
  refine w_loop (fun n st => ∃ i : Nat, n = p.length - i ∧ i ≤ p.length ∧ st.tm 1 = .pt (.s 1) 0 ∧ st.hp (.s 1) = some (.row 1 [[ksl p]]) ∧ st.tm 5 = .pt (.s 5) 0 ∧ st.hp (.s 5) = some (.row 7 [(madeL p [] i).map iv]) ∧ st.tm 43 = ksl p ∧ st.tm 44 = iv p.length ∧ st.tm 45 = iv i ∧ (List.range i).all (blkOk p) = true) p.length ?_ ?_
  · refine ⟨0, by simp, by simp, by simp [h1], by simp [hp1], by simp, ?_, by simp, by simp, by simp, by simp⟩
    simp [madeL, madeN, mkN]
    rfl
  clear h1 hp1 h24 h25 h26
  rintro n st - - ⟨i, rfl, hi, h1, hp1, h5, hp5, h43, h44, h45, hal⟩
  all_goals have fx := And.intro h1 <| And.intro hp1 <| And.intro h43 <| And.intro h44 <| h45
  repeat' (first
   | refine w_seq ?_ | refine w_reg fun K hK => ?_
   | ((with_reducible refine s_end hK ?_); clear hK K)
   | (with_reducible refine s_none ?_)
   | (with_reducible refine x_q (h := ?_))
   | fail)
  all_goals try clear fx
  refine w_if (by simp []; first | done | rfl | exact (Bool.not_not _).symm) (fun ht => ?_) (fun hf => ?_)
  · have hlt : i < p.length := by simpa using ht
    obtain ⟨k, hk⟩ : ∃ k, p[i]? = some k := ⟨_, List.getElem?_eq_getElem hlt⟩
    have hbf : blkOk p i = (headOk i k && decide (k.body.length ≤ 12) && k.body.all (StmOk p i k)) := by simp only [blkOk, hk]
    obtain ⟨hhd, hbd⟩ := hal' i k hk
    have hhd' : headOk i k = true := by simpa only [headOk, decide_eq_true_eq] using hhd
    clear ht
    all_goals have fx := And.intro h1 <| And.intro hp1 <| And.intro h43 <| And.intro h44 <| And.intro h45 <| hk
    repeat' (first
     | refine w_seq ?_ | refine w_block ?_ | refine w_skip ?_ | refine w_reg fun K hK => ?_
     | ((with_reducible refine s_end hK ?_); clear hK K)
     | (with_reducible refine s_none ?_)
     | (with_reducible first | refine x_assign (h := ?_) | refine x_alloc (h := ?_) | refine x_store0 (h := ?_))
     | (with_reducible refine x_q (h := ?_))
     | fail)
    all_goals try clear fx
    refine w_loop (fun n st => ∃ j : Nat, n = k.body.length - j ∧ j ≤ k.body.length ∧ st.tm 1 = .pt (.s 1) 0 ∧ st.hp (.s 1) = some (.row 1 [[ksl p]]) ∧ st.tm 5 = .pt (.s 5) 0 ∧ st.hp (.s 5) = some (.row 7 [(madeL p (k.body.take j) i).map iv]) ∧ st.tm 43 = ksl p ∧ st.tm 44 = iv p.length ∧ st.tm 45 = iv i ∧ st.tm 6 = iv i ∧ st.tm 51 = ssl k.body ∧ st.tm 52 = iv k.body.length ∧ st.tm 53 = iv j ∧ (k.body.take j).all (StmOk p i k) = true) k.body.length ?_ ?_
    · exact ⟨0, by simp [h1, hp1, h5, hp5, h43, h44, h45]⟩
    clear h1 hp1 h5 hp5 h43 h44 h45
    rintro n st - - ⟨j, rfl, hj, h1, hp1, h5, hp5, h43, h44, h45, h6, h51, h52, h53, haj⟩
    all_goals have fx := And.intro h51 <| And.intro h52 <| h53
    repeat' (first
     | refine w_seq ?_ | refine w_reg fun K hK => ?_
     | ((with_reducible refine s_end hK ?_); clear hK K)
     | (with_reducible refine s_none ?_)
     | (with_reducible refine x_q (h := ?_))
     | fail)
    all_goals try clear fx
    refine w_if (by simp []; first | done | rfl | exact (Bool.not_not _).symm) (fun ht => ?_) (fun hf => ?_)
    · have hlj : j < k.body.length := by simpa using ht
      obtain ⟨s, hsj⟩ : ∃ s, k.body[j]? = some s := ⟨_, List.getElem?_eq_getElem hlj⟩
      clear ht
      cases hok : StmOk p i k s with
      | false =>
        all_goals have fx := And.intro h1 <| And.intro hp1 <| And.intro h51 <| And.intro h52 <| And.intro h53 <| And.intro h6 <| And.intro hsj <| hok
        repeat' (first
         | refine w_seq ?_ | refine w_block ?_ | refine w_skip ?_ | refine w_reg fun K hK => ?_
         | ((with_reducible refine s_end hK ?_); clear hK K)
         | (with_reducible first | refine then_normal ?_ | refine then_ret ?_ | refine in_ret ?_)
         | refine w_ret ?_
         | (with_reducible refine s_none ?_)
         | (with_reducible first | refine x_assign (h := ?_) | refine x_alloc (h := ?_) | refine x_store0 (h := ?_))
         | ((with_reducible refine o_id 93 rfl ?_); refine x_call (hF := fitsStmt_fn _ p i k s hk hh hhd) (h := ?_))
         | (with_reducible refine x_q (h := ?_))
         | refine x_condt (h1 := ?_)
         | fail)
        all_goals try clear fx
        refine e_ret [] .nil (by simp; rfl) ?_
        have : blkOk p i = false := by rw [hbf, all_false (List.mem_of_getElem? hsj) hok]; simp
        simp only [shapeOk, range_false hlt this, Bool.and_false, Bool.false_and]
        rfl
      | true =>
        by_cases hm : s.kind = 3 ∨ s.kind = 4
        · obtain ⟨d, hta⟩ := tas_make hm
          obtain ⟨a, ha, hal7⟩ : ∃ a : Nat, s.a = a ∧ a < p.length := by
            have : ∃ d, madeAs p i s.a d = true := by
              rcases hm with h | h
              · simp [StmOk, h] at hok
                exact ⟨_, hok.2.2⟩
              · simp [StmOk, h] at hok
                exact ⟨_, hok.2.2⟩
            obtain ⟨d, hd⟩ := this
            simp only [madeAs, Bool.and_eq_true, decide_eq_true_eq] at hd
            exact ⟨s.a.toNat, by omega, by omega⟩
          have ha7 : a < 7 := by omega
          have ha8 : (a : Int) < 7 := by omega
          rw [ha] at hta
          have hget := madeL_get (p := p) (ss := k.body.take j) (n := i) ha7
          have hset := madeL_set (p := p) (n := i) hsj ha hm ha7
          have hml : (madeL p (k.body.take j) i).length = 7 := by simp [madeL]
          have hw : IntKind.i64.wrap (((madeN p a i + mkN (k.body.take j) a : Nat) : Int) + 1) = ((madeN p a i + mkN (k.body.take j) a : Nat) : Int) + 1 := by
            have h1 := madeN_le (b := a) hb12 i
            have h2 := mkN_le (k.body.take j) a
            have h3 := List.length_take_le j k.body
            exact wrp (by omega) (by omega)
          generalize hA : madeL p (k.body.take j) i = A at hp5 hget hset hml
          generalize hv : ((madeN p a i + mkN (k.body.take j) a : Nat) : Int) = v at hget hset hw
          obtain ⟨_, hge2⟩ := List.getElem?_eq_some_iff.1 hget
          all_goals have fx := And.intro h1 <| And.intro hp1 <| And.intro h5 <| And.intro hp5 <| And.intro h51 <| And.intro h52 <| And.intro h53 <| And.intro h6 <| And.intro hsj <| And.intro hok <| And.intro hta <| And.intro ha7 <| And.intro ha8 <| And.intro hget <| And.intro hge2 <| And.intro hw <| hml
          repeat' (first
           | refine w_seq ?_ | refine w_block ?_ | refine w_skip ?_ | refine w_reg fun K hK => ?_
           | ((with_reducible refine s_end hK ?_); clear hK K)
           | (with_reducible first | refine then_normal ?_)
           | (with_reducible refine s_none ?_)
           | (with_reducible first | refine x_assign (h := ?_) | refine x_alloc (h := ?_) | refine x_store0 (h := ?_))
           | ((with_reducible refine o_id 93 rfl ?_); refine x_call (hF := fitsStmt_fn _ p i k s hk hh hhd) (h := ?_))
           | ((with_reducible refine o_id 94 rfl ?_); refine x_call (hF := formOf_fn _ s) (h := ?_))
           | (with_reducible refine x_q (h := ?_))
           | refine x_condt (h1 := ?_) | refine x_condf (h1 := ?_)
           | fail)
          all_goals try clear fx
          refine ⟨k.body.length - (j + 1), by omega, j + 1, rfl, by omega, by simp [h1], by simp [hp1], by simp [h5], ?_, by simp [h43], by simp [h44], by simp [h45], by simp [h6], by simp [h51], by simp [h52], by simp; exact wrp (by omega) (by omega), ?_⟩
          · rw [← hset, ← iv_set (by omega)]
            simp [hge2, hw]
          · rw [List.take_add_one, hsj, List.all_append, haj]
            simpa using hok
        · have hta := tas_no hm
          have hskip := madeL_skip (p := p) (n := i) hsj hm
          all_goals have fx := And.intro h1 <| And.intro hp1 <| And.intro h51 <| And.intro h52 <| And.intro h53 <| And.intro h6 <| And.intro hsj <| And.intro hok <| hta
          repeat' (first
           | refine w_seq ?_ | refine w_block ?_ | refine w_skip ?_ | refine w_reg fun K hK => ?_
           | ((with_reducible refine s_end hK ?_); clear hK K)
           | (with_reducible first | refine then_normal ?_)
           | (with_reducible refine s_none ?_)
           | (with_reducible first | refine x_assign (h := ?_) | refine x_alloc (h := ?_) | refine x_store0 (h := ?_))
           | ((with_reducible refine o_id 93 rfl ?_); refine x_call (hF := fitsStmt_fn _ p i k s hk hh hhd) (h := ?_))
           | ((with_reducible refine o_id 94 rfl ?_); refine x_call (hF := formOf_fn _ s) (h := ?_))
           | (with_reducible refine x_q (h := ?_))
           | refine x_condf (h1 := ?_)
           | fail)
          all_goals try clear fx
          refine ⟨k.body.length - (j + 1), by omega, j + 1, rfl, by omega, by simp [h1], by simp [hp1], by simp [h5], by simp [hp5, hskip], by simp [h43], by simp [h44], by simp [h45], by simp [h6], by simp [h51], by simp [h52], by simp; exact wrp (by omega) (by omega), ?_⟩
          rw [List.take_add_one, hsj, List.all_append, haj]
          simpa using hok
    · have hge : j = k.body.length := by
        have : ¬ j < k.body.length := by simpa using hf
        omega
      subst hge
      rw [List.take_length] at haj hp5
      rw [madeL_next hk] at hp5
      all_goals have fx := And.intro h51 <| And.intro h52 <| And.intro h53 <| h45
      repeat' (first
       | refine w_reg fun K hK => ?_
       | ((with_reducible refine s_end hK ?_); clear hK K)
       | (with_reducible first | refine then_normal ?_)
       | refine w_exit ?_
       | (with_reducible refine s_none ?_)
       | (with_reducible refine x_q (h := ?_))
       | fail)
      all_goals try clear fx
      refine ⟨p.length - (i + 1), by omega, i + 1, rfl, by omega, by simp [h1], by simp [hp1], by simp [h5], by simp [hp5], by simp [h43], by simp [h44], by simp; exact wrp (by omega) (by omega), ?_⟩
      rw [all_range_succ, hal, hbf, hhd', haj]
      simpa using hbd
  · have hge : i = p.length := by
      have : ¬ i < p.length := by simpa using hf
      omega
    subst hge
    have hshp : shapeOk p = (List.range p.length).all (fun i => i == 0 || madeIn p i == 1) := by
      simp only [shapeOk, hal, hyes, decide_true, Bool.and_true, Bool.true_and]
    have hv : ∀ (i : Nat) q, p[i]? = some q → ∀ s ∈ q.body, StmOk p i q s = true := fun i q hq s hs => by
      have := List.all_eq_true.1 hal i (List.mem_range.2 (List.getElem?_eq_some_iff.1 hq).1)
      simp only [blkOk, hq, Bool.and_eq_true] at this
      exact List.all_eq_true.1 this.2 s hs
    clear hf hi
    all_goals have fx := And.intro h1 <| And.intro hp1 <| And.intro h43 <| And.intro h44 <| h45
    repeat' (first
     | refine w_seq ?_ | refine w_block ?_ | refine w_reg fun K hK => ?_
     | ((with_reducible refine s_end hK ?_); clear hK K)
     | refine w_exit ?_
     | (with_reducible refine s_none ?_)
     | (with_reducible first | refine x_assign (h := ?_))
     | fail)
    all_goals try clear fx
    refine w_loop (fun n st => ∃ i : Nat, n = p.length - i ∧ i ≤ p.length ∧ 1 ≤ i ∧ st.tm 1 = .pt (.s 1) 0 ∧ st.hp (.s 1) = some (.row 1 [[ksl p]]) ∧ st.tm 5 = .pt (.s 5) 0 ∧ st.hp (.s 5) = some (.row 7 [(madeL p [] p.length).map iv]) ∧ st.tm 12 = iv i ∧ (List.range i).all (fun i => i == 0 || madeIn p i == 1) = true) (p.length - 1) ?_ ?_
    · exact ⟨1, by omega, by omega, by omega, by simp [h1], by simp [hp1], by simp [h5], by simp [hp5], by simp, by simp⟩
    clear h1 hp1 h5 hp5 h43 h44 h45
    rintro n st - - ⟨i, rfl, hi, hi1, h1, hp1, h5, hp5, h12, hmi⟩
    all_goals have fx := And.intro h1 <| And.intro hp1 <| h12
    repeat' (first
     | refine w_seq ?_ | refine w_reg fun K hK => ?_
     | ((with_reducible refine s_end hK ?_); clear hK K)
     | (with_reducible first | refine then_normal ?_)
     | (with_reducible refine s_none ?_)
     | (with_reducible refine x_q (h := ?_))
     | fail)
    all_goals try clear fx
    refine w_if (by simp []; first | done | rfl | exact (Bool.not_not _).symm) (fun ht => ?_) (fun hf => ?_)
    · have hlt : i < p.length := by simpa using ht
      obtain ⟨k, hk⟩ : ∃ k, p[i]? = some k := ⟨_, List.getElem?_eq_getElem hlt⟩
      have hi7 : i < 7 := by omega
      have hi8 : (i : Int) < 7 := by omega
      have hpk := (hh i k hk).2.2 (by omega)
      have hget : (madeL p [] p.length)[i]? = some (madeIn p i) := by
        rw [madeL_get hi7, ← madeN_at hh hk hv hpk]
        simp [mkN]
      generalize hA : madeL p [] p.length = A at hp5 hget
      clear ht
      all_goals have fx := And.intro h1 <| And.intro hp1 <| And.intro h5 <| And.intro hp5 <| And.intro h12 <| And.intro hi7 <| And.intro hi8 <| And.intro hget <| @bne_def
      repeat' (first
       | refine w_seq ?_ | refine w_block ?_ | refine w_skip ?_ | refine w_reg fun K hK => ?_
       | ((with_reducible refine s_end hK ?_); clear hK K)
       | (with_reducible first | refine then_normal ?_ | refine then_ret ?_ | refine in_ret ?_)
       | refine w_ret ?_
       | (with_reducible refine s_none ?_)
       | (with_reducible first | refine x_assign (h := ?_))
       | (with_reducible refine x_q (h := ?_))
       | refine x_if (h1 := fun ht => ?_) (h2 := fun ht => ?_)
       | fail)
      all_goals try clear fx
      · refine e_ret [] .nil (by simp; rfl) ?_
        rw [hshp, range_false hlt (show (i == 0 || madeIn p i == 1) = false by simp at ht ⊢; exact ⟨by omega, ht⟩)]
        rfl
      · refine ⟨p.length - (i + 1), by omega, i + 1, rfl, by omega, by omega, by simp [h1], by simp [hp1], by simp [h5], by simp [hp5], by simp; exact wrp (by omega) (by omega), ?_⟩
        rw [all_range_succ, hmi]
        simp at ht ⊢
        exact .inr ht
    · have hge : i = p.length := by
        have : ¬ i < p.length := by simpa using hf
        omega
      subst hge
      all_goals have fx := fx0
      repeat' (first
       | refine w_seq ?_ | refine w_reg fun K hK => ?_
       | ((with_reducible refine s_end hK ?_); clear hK K)
       | (with_reducible first | refine then_normal ?_)
       | refine w_exit ?_
       | refine w_ret ?_
       | (with_reducible refine s_none ?_)
       | (with_reducible first | refine x_assign (h := ?_))
       | fail)
      all_goals try clear fx
      refine e_ret [] .nil (by simp []; rfl) (by simp [hshp, hmi])
end Go.Proofs.YtpckgioefpkmoaaGreat
end
