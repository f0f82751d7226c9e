/-
  Own texts, joined by mkclaim.py: Hc, Hd, He, Hf.
-/
import Derived.Test.YtmaoicgfcngciaaGreatDoorR24
import Derived.Test.YtmaoicgfcngciaaGreatDoorR12
import Derived.Test.YtmaoicgfcngciaaGreatDoorR10
set_option linter.unusedSimpArgs false
set_option linter.unusedVariables false
set_option maxRecDepth 100000
set_option maxHeartbeats 4000000

section
namespace Go.Proofs.YtmaoicgfcngciaaGreatDoor
open Go Go.Hm Go.Proofs
theorem madeAs_at {p : Prg} {b j : Nat} {q : Blk} {d : Int} (hh : Heads p) (hq : p[j]? = some q) : madeAs p b j d = ((q.kind == d) && (q.parent == b)) := by
  have hj : j < p.length := (gS hq).1
  obtain ⟨_, h2, _⟩ := hh j q hq
  simp only [madeAs, Int.toNat_natCast, hq]
  by_cases h : q.parent = b
  · have : (b : Int) + 1 ≤ j ∧ (j : Int) ≤ p.length - 1 := by omega
    simp [this]
  · simp [h]
theorem madeAs_no {p : Prg} {b : Nat} {j d : Int} (h : ¬ (0 ≤ j ∧ j < p.length)) : madeAs p b j d = false := by
  have : ¬ ((b : Int) + 1 ≤ j ∧ j ≤ (p.length : Int) - 1) := by omega
  simp [madeAs, this]
theorem fitsStmt_fn (gl) (p : Prg) (b : Nat) (k : Blk) (s : Stm) (hk : p[b]? = some k) (hh : Heads p) (hd : HeadOk b k) : FnOk Tryz.prog gl 104 [pav p, iv b, s.av] (fun _ x _ => x = bv (StmOk p b k s)) := by
  obtain ⟨n, to, a, c⟩ := s
  have hb0 : (k.kind = 0) ↔ b = 0 := by
    unfold HeadOk at hd
    split at hd <;> omega
  refine FnOk.of_sem Tryz.func104 rfl (by kernel_rfl) (rs := [.tmp 6]) rfl Tryz.ntmps104 (Nat.le_of_ble_eq_true rfl) fun C w g root => ?_
  by_cases hto : 0 ≤ to ∧ to ≤ 7
  case neg =>
    have h1 : (decide (0 ≤ to) && decide (to ≤ 7)) = false := by simp; omega
    have fx :=  h1
    have c1 := impl_isName_fn gl to
    refine k_run ?_
    clear fx c1
    refine e_ret [] .nil (by simp; rfl) ?_
    simp [StmOk, h1]
  have h1 : (decide (0 ≤ to) && decide (to ≤ 7)) = true := by simp; omega
  rcases kind_cases n with rfl | rfl | rfl | rfl | rfl | rfl | rfl | rfl | rfl | rfl | rfl | rfl | hn
  case inr.inr.inr.inr.inr.inr.inr.inr.inr.inr.inr.inr =>
    have hf : formAV ⟨n, to, a, c⟩ = .sc .nilIface := formAV_no hn
    have fx := And.intro h1 <| hf
    have c1 := impl_isName_fn gl to
    have c2 := formOf_fn gl ⟨n, to, a, c⟩
    refine k_run ?_
    clear fx c1 c2
    refine e_ret [] .nil (by simp; rfl) ?_
    have h2 : ¬ (n = 0 ∨ n = 1 ∨ n = 2 ∨ n = 3 ∨ n = 4 ∨ n = 5 ∨ n = 6 ∨ n = 7 ∨ n = 8 ∨ n = 9 ∨ n = 10 ∨ n = 11) := by omega
    simp only [not_or] at h2
    simp [StmOk, h2]
  case inr.inr.inr.inl =>
    by_cases ha : 0 ≤ a ∧ a < p.length
    · obtain ⟨j, rfl⟩ : ∃ j : Nat, a = j := ⟨a.toNat, by omega⟩
      obtain ⟨q, hq⟩ : ∃ q, p[j]? = some q := ⟨_, gE (by omega)⟩
      obtain ⟨h2, h3⟩ := gS hq
      all_goals have fx := And.intro h1 <| And.intro hq <| And.intro h2 <| h3
      repeat' (first
       | refine w_seq ?_ | refine w_block ?_ | refine w_skip ?_ | refine w_reg fun K hK => ?_
       | ((with_reducible refine s_end hK ?_); clear hK K)
       | (with_reducible first | refine then_normal ?_ | refine in_normal ?_ | refine then_ret ?_ | refine in_ret ?_)
       | refine w_ret ?_
       | (with_reducible refine s_none ?_)
       | ((with_reducible refine g_id ?_); refine x_guard (h := ?_))
       | (with_reducible first | refine gx_tt ?_ | refine gx_ff ?_ | refine x_tf (h := ?_) | refine x_ft (h := ?_) | refine x_u (h := ?_) | refine x_assign (h := ?_) | refine x_box (h := ?_) | refine x_alloc (h := ?_) | refine x_store0 (h := ?_) | refine x_store (h := ?_))
       | ((with_reducible refine o_id 153 rfl ?_); refine x_call (hF := impl_isName_fn _ to) (h := ?_))
       | ((with_reducible refine o_id 105 rfl ?_); refine x_call (hF := formOf_fn _ ⟨_, to, _, c⟩) (h := ?_))
       | ((with_reducible refine o_id 63 rfl ?_); refine x_call (hF := impl_isBlock_fn _ p _) (h := ?_))
       | (with_reducible refine x_q (h := ?_))
       | (with_reducible refine gx_s (fun ht => ?_) (fun ht => ?_))
       | refine x_condt (h1 := ?_) | refine x_condf (h1 := ?_)
       | refine x_if (h1 := fun ht => ?_) (h2 := fun ht => ?_)
       | fail)
      all_goals try clear fx
      all_goals refine e_ret [] .nil (by simp; rfl) ?_
      all_goals simp_all [StmOk, madeAs_at, Stm.reads]
    · have h2 : ¬ (0 ≤ a ∧ a < p.length) := ha
      all_goals have fx := And.intro h1 <| h2
      repeat' (first
       | refine w_seq ?_ | refine w_block ?_ | refine w_skip ?_ | refine w_reg fun K hK => ?_
       | ((with_reducible refine s_end hK ?_); clear hK K)
       | (with_reducible first | refine then_normal ?_ | refine in_normal ?_ | refine then_ret ?_ | refine in_ret ?_)
       | refine w_ret ?_
       | (with_reducible refine s_none ?_)
       | ((with_reducible refine g_id ?_); refine x_guard (h := ?_))
       | (with_reducible first | refine gx_tt ?_ | refine gx_ff ?_ | refine x_tf (h := ?_) | refine x_ft (h := ?_) | refine x_u (h := ?_) | refine x_assign (h := ?_) | refine x_box (h := ?_) | refine x_alloc (h := ?_) | refine x_store0 (h := ?_) | refine x_store (h := ?_))
       | ((with_reducible refine o_id 153 rfl ?_); refine x_call (hF := impl_isName_fn _ to) (h := ?_))
       | ((with_reducible refine o_id 105 rfl ?_); refine x_call (hF := formOf_fn _ ⟨_, to, _, c⟩) (h := ?_))
       | ((with_reducible refine o_id 63 rfl ?_); refine x_call (hF := impl_isBlock_fn _ p _) (h := ?_))
       | (with_reducible refine x_q (h := ?_))
       | (with_reducible refine gx_s (fun ht => ?_) (fun ht => ?_))
       | refine x_condt (h1 := ?_) | refine x_condf (h1 := ?_)
       | refine x_if (h1 := fun ht => ?_) (h2 := fun ht => ?_)
       | fail)
      all_goals try clear fx
      all_goals refine e_ret [] .nil (by simp; rfl) ?_
      all_goals simp [StmOk, madeAs_no h2]
  case inr.inr.inr.inr.inl =>
    by_cases ha : 0 ≤ a ∧ a < p.length
    · obtain ⟨j, rfl⟩ : ∃ j : Nat, a = j := ⟨a.toNat, by omega⟩
      obtain ⟨q, hq⟩ : ∃ q, p[j]? = some q := ⟨_, gE (by omega)⟩
      obtain ⟨h2, h3⟩ := gS hq
      all_goals have fx := And.intro h1 <| And.intro hq <| And.intro h2 <| h3
      repeat' (first
       | refine w_seq ?_ | refine w_block ?_ | refine w_skip ?_ | refine w_reg fun K hK => ?_
       | ((with_reducible refine s_end hK ?_); clear hK K)
       | (with_reducible first | refine then_normal ?_ | refine in_normal ?_ | refine then_ret ?_ | refine in_ret ?_)
       | refine w_ret ?_
       | (with_reducible refine s_none ?_)
       | ((with_reducible refine g_id ?_); refine x_guard (h := ?_))
       | (with_reducible first | refine gx_tt ?_ | refine gx_ff ?_ | refine x_tf (h := ?_) | refine x_ft (h := ?_) | refine x_u (h := ?_) | refine x_assign (h := ?_) | refine x_box (h := ?_) | refine x_alloc (h := ?_) | refine x_store0 (h := ?_) | refine x_store (h := ?_))
       | ((with_reducible refine o_id 153 rfl ?_); refine x_call (hF := impl_isName_fn _ to) (h := ?_))
       | ((with_reducible refine o_id 105 rfl ?_); refine x_call (hF := formOf_fn _ ⟨_, to, _, c⟩) (h := ?_))
       | ((with_reducible refine o_id 63 rfl ?_); refine x_call (hF := impl_isBlock_fn _ p _) (h := ?_))
       | (with_reducible refine x_q (h := ?_))
       | (with_reducible refine gx_s (fun ht => ?_) (fun ht => ?_))
       | refine x_condt (h1 := ?_) | refine x_condf (h1 := ?_)
       | refine x_if (h1 := fun ht => ?_) (h2 := fun ht => ?_)
       | fail)
      all_goals try clear fx
      all_goals refine e_ret [] .nil (by simp; rfl) ?_
      all_goals simp_all [StmOk, madeAs_at, Stm.reads]
    · have h2 : ¬ (0 ≤ a ∧ a < p.length) := ha
      all_goals have fx := And.intro h1 <| h2
      repeat' (first
       | refine w_seq ?_ | refine w_block ?_ | refine w_skip ?_ | refine w_reg fun K hK => ?_
       | ((with_reducible refine s_end hK ?_); clear hK K)
       | (with_reducible first | refine then_normal ?_ | refine in_normal ?_ | refine then_ret ?_ | refine in_ret ?_)
       | refine w_ret ?_
       | (with_reducible refine s_none ?_)
       | ((with_reducible refine g_id ?_); refine x_guard (h := ?_))
       | (with_reducible first | refine gx_tt ?_ | refine gx_ff ?_ | refine x_tf (h := ?_) | refine x_ft (h := ?_) | refine x_u (h := ?_) | refine x_assign (h := ?_) | refine x_box (h := ?_) | refine x_alloc (h := ?_) | refine x_store0 (h := ?_) | refine x_store (h := ?_))
       | ((with_reducible refine o_id 153 rfl ?_); refine x_call (hF := impl_isName_fn _ to) (h := ?_))
       | ((with_reducible refine o_id 105 rfl ?_); refine x_call (hF := formOf_fn _ ⟨_, to, _, c⟩) (h := ?_))
       | ((with_reducible refine o_id 63 rfl ?_); refine x_call (hF := impl_isBlock_fn _ p _) (h := ?_))
       | (with_reducible refine x_q (h := ?_))
       | (with_reducible refine gx_s (fun ht => ?_) (fun ht => ?_))
       | refine x_condt (h1 := ?_) | refine x_condf (h1 := ?_)
       | refine x_if (h1 := fun ht => ?_) (h2 := fun ht => ?_)
       | fail)
      all_goals try clear fx
      all_goals refine e_ret [] .nil (by simp; rfl) ?_
      all_goals simp [StmOk, madeAs_no h2]
  all_goals
    all_goals have fx := And.intro h1 <| hk
    repeat' (first
     | refine w_seq ?_ | refine w_block ?_ | refine w_skip ?_ | refine w_reg fun K hK => ?_
     | ((with_reducible refine s_end hK ?_); clear hK K)
     | (with_reducible first | refine then_normal ?_ | refine in_normal ?_ | refine then_ret ?_ | refine in_ret ?_)
     | refine w_ret ?_
     | (with_reducible refine s_none ?_)
     | ((with_reducible refine g_id ?_); refine x_guard (h := ?_))
     | (with_reducible first | refine gx_tt ?_ | refine gx_ff ?_ | refine x_tf (h := ?_) | refine x_ft (h := ?_) | refine x_u (h := ?_) | refine x_assign (h := ?_) | refine x_box (h := ?_) | refine x_alloc (h := ?_) | refine x_store0 (h := ?_) | refine x_store (h := ?_))
     | ((with_reducible refine o_id 153 rfl ?_); refine x_call (hF := impl_isName_fn _ _) (h := ?_))
     | ((with_reducible refine o_id 105 rfl ?_); refine x_call (hF := formOf_fn _ ⟨_, to, a, c⟩) (h := ?_))
     | (with_reducible refine x_q (h := ?_))
     | (with_reducible refine gx_s (fun ht => ?_) (fun ht => ?_))
     | refine x_condt (h1 := ?_) | refine x_condf (h1 := ?_)
     | refine x_if (h1 := fun ht => ?_) (h2 := fun ht => ?_)
     | fail)
    all_goals try clear fx
  all_goals refine e_ret [] .nil (by simp [hk]; rfl) ?_
  all_goals simp_all [StmOk, Stm.reads]
  all_goals first | omega | grind
theorem tas_make {s : Stm} (h : s.kind = 3 ∨ s.kind = 4) : ∃ d, tasAV Tryz.prog 148 (formAV s) = some (.tup [.agg [iv d, iv s.a], bv true]) := by
  obtain ⟨n, to, a, b⟩ := s
  rcases h with h | h
  · simp only at h
    subst h
    exact ⟨1, by simp⟩
  · simp only at h
    subst h
    exact ⟨2, by simp⟩
theorem tas_no {s : Stm} (h : ¬ (s.kind = 3 ∨ s.kind = 4)) : tasAV Tryz.prog 148 (formAV s) = some (.tup [.agg [iv 0, iv 0], bv false]) := by
  simp only [not_or] at h
  obtain ⟨h3, h4⟩ := h
  unfold formAV
  rw [if_neg h3, if_neg h4]
  repeat' split
  all_goals simp
theorem impl_ValidShape_fn (gl) (p : Prg) (hs : Sml p) : FnOk Tryz.prog gl 54 [pav p] (fun _ y _ => y = bv (shapeOk p)) := by
  have hpl := hs.len
  refine FnOk.of_sem Tryz.func54 rfl (by kernel_rfl) (rs := [.tmp 2]) rfl Tryz.ntmps54 (Nat.le_of_ble_eq_true rfl) fun C w g root => ?_
  all_goals have fx := fx0
  repeat' (first
   | refine w_seq ?_ | refine w_block ?_ | refine w_skip ?_ | refine w_reg fun K hK => ?_
   | ((with_reducible refine s_end hK ?_); clear hK K)
   | (with_reducible first | refine then_normal ?_ | refine in_normal ?_ | refine then_exit ?_ | refine in_exit ?_ | refine then_ret ?_ | refine in_ret ?_ | refine in_other (by decide) ?_)
   | refine w_exit ?_
   | refine w_ret ?_
   | (with_reducible refine s_none ?_)
   | ((with_reducible refine g_id ?_); refine x_guard (h := ?_))
   | (with_reducible first | refine gx_tt ?_ | refine gx_ff ?_ | refine x_tf (h := ?_) | refine x_ft (h := ?_) | refine x_u (h := ?_) | refine x_assign (h := ?_) | refine x_box (h := ?_) | refine x_alloc (h := ?_) | refine x_store0 (h := ?_) | refine x_store (h := ?_))
   | (with_reducible refine x_q (h := ?_))
   | (with_reducible refine gx_s (fun ht => ?_) (fun ht => ?_))
   | refine x_condt (h1 := ?_) | refine x_condf (h1 := ?_)
   | refine x_if (h1 := fun ht => ?_) (h2 := fun ht => ?_)
   | fail)
  all_goals try clear fx
  · refine e_ret [] .nil (by simp; rfl) ?_
    have hno : (decide (1 ≤ p.length) && decide (p.length ≤ 7)) = false := by
      rw [Bool.eq_false_iff]
      intro h
      simp at h ht
      omega
    simp only [shapeOk, hno]
    rfl
  · refine e_ret [] .nil (by simp; rfl) ?_
    have hno : (decide (1 ≤ p.length) && decide (p.length ≤ 7)) = false := by
      rw [Bool.eq_false_iff]
      intro h
      simp at h ht
      omega
    simp only [shapeOk, hno]
    rfl
  rename_i ht1
  have hyes : 1 ≤ p.length ∧ p.length ≤ 7 := by
    simp at ht ht1
    omega
  clear ht ht1
  refine w_loop (fun n st => ∃ i : Nat, n = p.length - i ∧ i ≤ p.length ∧ st.tm 1 = .pt (.s 1) 0 ∧ st.hp (.s 1) = some (.row 1 [[ksl p]]) ∧ st.tm 24 = ksl p ∧ st.tm 25 = iv p.length ∧ st.tm 26 = iv i ∧ ∀ (j : Nat) q, j < i → p[j]? = some q → headOk j q = true ∧ q.body.length ≤ 12) p.length ?_ ?_
  · exact ⟨0, by simp⟩
  rintro n st - - ⟨i, rfl, hi, h1, hp1, h24, h25, h26, hal⟩
  have fx := And.intro h1 <| And.intro hp1 <| And.intro h24 <| And.intro h25 <| h26
  refine k_run ?_
  clear fx
  refine w_if (by simp []; first | done | rfl | exact (Bool.not_not _).symm) (fun ht => ?_) (fun hf => ?_)
  · have hlt : i < p.length := by simpa using ht
    obtain ⟨k, hk⟩ : ∃ k, p[i]? = some k := ⟨_, gE hlt⟩
    have fin : (headOk i k = true → ¬ k.body.length ≤ 12) → shapeOk p = false := fun h => by
      have : blkOk p i = false := by
        simp only [blkOk, hk, Bool.and_eq_false_iff, decide_eq_false_iff_not]
        cases hh : headOk i k with
        | false => exact .inl (.inl rfl)
        | true => exact .inl (.inr (h hh))
      simp only [shapeOk, range_false hlt this, Bool.and_false, Bool.false_and]
    have hbl := (hs.bsm hk).body
    clear ht
    all_goals have fx := And.intro h1 <| And.intro hp1 <| And.intro h24 <| And.intro h25 <| And.intro h26 <| hk
    repeat' (first
     | refine w_seq ?_ | refine w_block ?_ | refine w_skip ?_ | refine w_reg fun K hK => ?_
     | ((with_reducible refine s_end hK ?_); clear hK K)
     | (with_reducible first | refine then_normal ?_ | refine in_normal ?_ | refine then_exit ?_ | refine in_exit ?_ | refine then_ret ?_ | refine in_ret ?_ | refine in_other (by decide) ?_)
     | refine w_exit ?_
     | refine w_ret ?_
     | (with_reducible refine s_none ?_)
     | ((with_reducible refine g_id ?_); refine x_guard (h := ?_))
     | (with_reducible first | refine gx_tt ?_ | refine gx_ff ?_ | refine x_tf (h := ?_) | refine x_ft (h := ?_) | refine x_u (h := ?_) | refine x_assign (h := ?_) | refine x_box (h := ?_) | refine x_alloc (h := ?_) | refine x_store0 (h := ?_) | refine x_store (h := ?_))
     | ((with_reducible refine o_id 103 rfl ?_); refine x_call (hF := fitsHead_fn _ i k) (h := ?_))
     | (with_reducible refine x_q (h := ?_))
     | (with_reducible refine gx_s (fun ht => ?_) (fun ht => ?_))
     | refine x_condt (h1 := ?_) | refine x_condf (h1 := ?_)
     | refine x_if (h1 := fun ht => ?_) (h2 := fun ht => ?_)
     | fail)
    all_goals try clear fx
    · refine e_ret [] .nil (by simp; rfl) ?_
      rw [fin (fun h => by simp [h] at ht)]
      rfl
    · refine e_ret [] .nil (by simp; rfl) ?_
      rw [fin (fun _ h => by simp at ht; omega)]
      rfl
    · rename_i ht1
      refine ⟨p.length - (i + 1), by omega, i + 1, rfl, by omega, by simp [h1], by simp [hp1], by simp [h24], by simp [h25], by simp; exact wrp (by omega) (by omega), fun j q hj hq => ?_⟩
      rcases Nat.lt_succ_iff_lt_or_eq.1 hj with h | rfl
      · exact hal j q h hq
      · rw [hk] at hq
        obtain rfl := Option.some.inj hq
        refine ⟨by simpa using ht1, ?_⟩
        simp at ht
        omega
  have hge : i = p.length := by
    have : ¬ i < p.length := by simpa using hf
    omega
  subst hge
  clear hf hi
  have hal' : ∀ (j : Nat) q, p[j]? = some q → HeadOk j q ∧ q.body.length ≤ 12 := fun j q hq => by
    obtain ⟨h1, h2⟩ := hal j q (gS hq).1 hq
    exact ⟨by simpa only [headOk, decide_eq_true_eq] using h1, h2⟩
  clear hal
  have hh : Heads p := fun j q hq => (hal' j q hq).1.head
  have hb12 : ∀ q ∈ p, q.body.length ≤ 12 := fun q hq => by
    obtain ⟨j, hj⟩ := List.getElem?_of_mem hq
    exact (hal' j q hj).2
  have fx := And.intro h1 <| hp1
  refine k_run ?_
  clear fx
  refine w_loop (fun n st => ∃ i : Nat, n = p.length - i ∧ i ≤ p.length ∧ st.tm 1 = .pt (.s 1) 0 ∧ st.hp (.s 1) = some (.row 1 [[ksl p]]) ∧ st.tm 5 = .pt (.s 5) 0 ∧ st.hp (.s 5) = some (.row 7 [(madeL p [] i).map iv]) ∧ st.tm 43 = ksl p ∧ st.tm 44 = iv p.length ∧ st.tm 45 = iv i ∧ (List.range i).all (blkOk p) = true) p.length ?_ ?_
  · refine ⟨0, by simp, by simp, by simp [h1], by simp [hp1], by simp, ?_, by simp, by simp, by simp, by simp⟩
    simp [madeL, madeN, mkN]
    rfl
  clear h1 hp1 h24 h25 h26
  rintro n st - - ⟨i, rfl, hi, h1, hp1, h5, hp5, h43, h44, h45, hal⟩
  have fx := And.intro h1 <| And.intro hp1 <| And.intro h43 <| And.intro h44 <| h45
  refine k_run ?_
  clear fx
  refine w_if (by simp []; first | done | rfl | exact (Bool.not_not _).symm) (fun ht => ?_) (fun hf => ?_)
  · have hlt : i < p.length := by simpa using ht
    obtain ⟨k, hk⟩ : ∃ k, p[i]? = some k := ⟨_, gE hlt⟩
    have hbf : blkOk p i = (headOk i k && decide (k.body.length ≤ 12) && k.body.all (StmOk p i k)) := by simp only [blkOk, hk]
    obtain ⟨hhd, hbd⟩ := hal' i k hk
    have hhd' : headOk i k = true := by simpa only [headOk, decide_eq_true_eq] using hhd
    clear ht
    have fx := And.intro h1 <| And.intro hp1 <| And.intro h43 <| And.intro h44 <| And.intro h45 <| hk
    refine k_run ?_
    clear fx
    refine w_loop (fun n st => ∃ j : Nat, n = k.body.length - j ∧ j ≤ k.body.length ∧ st.tm 1 = .pt (.s 1) 0 ∧ st.hp (.s 1) = some (.row 1 [[ksl p]]) ∧ st.tm 5 = .pt (.s 5) 0 ∧ st.hp (.s 5) = some (.row 7 [(madeL p (k.body.take j) i).map iv]) ∧ st.tm 43 = ksl p ∧ st.tm 44 = iv p.length ∧ st.tm 45 = iv i ∧ st.tm 6 = iv i ∧ st.tm 51 = ssl k.body ∧ st.tm 52 = iv k.body.length ∧ st.tm 53 = iv j ∧ (k.body.take j).all (StmOk p i k) = true) k.body.length ?_ ?_
    · exact ⟨0, by simp [h1, hp1, h5, hp5, h43, h44, h45]⟩
    clear h1 hp1 h5 hp5 h43 h44 h45
    rintro n st - - ⟨j, rfl, hj, h1, hp1, h5, hp5, h43, h44, h45, h6, h51, h52, h53, haj⟩
    have fx := And.intro h51 <| And.intro h52 <| h53
    refine k_run ?_
    clear fx
    refine w_if (by simp []; first | done | rfl | exact (Bool.not_not _).symm) (fun ht => ?_) (fun hf => ?_)
    · have hlj : j < k.body.length := by simpa using ht
      obtain ⟨s, hsj⟩ : ∃ s, k.body[j]? = some s := ⟨_, gE hlj⟩
      clear ht
      cases hok : StmOk p i k s with
      | false =>
        have fx := And.intro h1 <| And.intro hp1 <| And.intro h51 <| And.intro h52 <| And.intro h53 <| And.intro h6 <| And.intro hsj <| hok
        have c1 := fitsStmt_fn gl p i k s hk hh hhd
        refine k_run ?_
        clear fx c1
        refine e_ret [] .nil (by simp; rfl) ?_
        have : blkOk p i = false := by rw [hbf, all_false (List.mem_of_getElem? hsj) hok]; simp
        simp only [shapeOk, range_false hlt this, Bool.and_false, Bool.false_and]
        rfl
      | true =>
        by_cases hm : s.kind = 3 ∨ s.kind = 4
        · obtain ⟨d, hta⟩ := tas_make hm
          obtain ⟨a, ha, hal7⟩ : ∃ a : Nat, s.a = a ∧ a < p.length := by
            have : ∃ d, madeAs p i s.a d = true := by
              rcases hm with h | h
              · simp [StmOk, h] at hok
                exact ⟨_, hok.2.2⟩
              · simp [StmOk, h] at hok
                exact ⟨_, hok.2.2⟩
            obtain ⟨d, hd⟩ := this
            simp only [madeAs, Bool.and_eq_true, decide_eq_true_eq] at hd
            exact ⟨s.a.toNat, by omega, by omega⟩
          have ha7 : a < 7 := by omega
          have ha8 : (a : Int) < 7 := by omega
          rw [ha] at hta
          have hget := madeL_get (p := p) (ss := k.body.take j) (n := i) ha7
          have hset := madeL_set (p := p) (n := i) hsj ha hm ha7
          have hml : (madeL p (k.body.take j) i).length = 7 := by simp [madeL]
          have hw : IntKind.i64.wrap (((madeN p a i + mkN (k.body.take j) a : Nat) : Int) + 1) = ((madeN p a i + mkN (k.body.take j) a : Nat) : Int) + 1 := by
            have h1 := madeN_le (b := a) hb12 i
            have h2 := mkN_le (k.body.take j) a
            have h3 := List.length_take_le j k.body
            exact wrp (by omega) (by omega)
          generalize hA : madeL p (k.body.take j) i = A at hp5 hget hset hml
          generalize hv : ((madeN p a i + mkN (k.body.take j) a : Nat) : Int) = v at hget hset hw
          obtain ⟨_, hge2⟩ := gS hget
          have fx := And.intro h1 <| And.intro hp1 <| And.intro h5 <| And.intro hp5 <| And.intro h51 <| And.intro h52 <| And.intro h53 <| And.intro h6 <| And.intro hsj <| And.intro hok <| And.intro hta <| And.intro ha7 <| And.intro ha8 <| And.intro hget <| And.intro hge2 <| And.intro hw <| hml
          have c1 := fitsStmt_fn gl p i k s hk hh hhd
          have c2 := formOf_fn gl s
          refine k_run ?_
          clear fx c1 c2
          refine ⟨k.body.length - (j + 1), by omega, j + 1, rfl, by omega, by simp [h1], by simp [hp1], by simp [h5], ?_, by simp [h43], by simp [h44], by simp [h45], by simp [h6], by simp [h51], by simp [h52], by simp; exact wrp (by omega) (by omega), ?_⟩
          · rw [← hset, ← iv_set (by omega)]
            simp [hge2, hw]
          · rw [List.take_add_one, hsj, List.all_append, haj]
            simpa using hok
        · have hta := tas_no hm
          have hskip := madeL_skip (p := p) (n := i) hsj hm
          have fx := And.intro h1 <| And.intro hp1 <| And.intro h51 <| And.intro h52 <| And.intro h53 <| And.intro h6 <| And.intro hsj <| And.intro hok <| hta
          have c1 := fitsStmt_fn gl p i k s hk hh hhd
          have c2 := formOf_fn gl s
          refine k_run ?_
          clear fx c1 c2
          refine ⟨k.body.length - (j + 1), by omega, j + 1, rfl, by omega, by simp [h1], by simp [hp1], by simp [h5], by simp [hp5, hskip], by simp [h43], by simp [h44], by simp [h45], by simp [h6], by simp [h51], by simp [h52], by simp; exact wrp (by omega) (by omega), ?_⟩
          rw [List.take_add_one, hsj, List.all_append, haj]
          simpa using hok
    · have hge : j = k.body.length := by
        have : ¬ j < k.body.length := by simpa using hf
        omega
      subst hge
      rw [List.take_length] at haj hp5
      rw [madeL_next hk] at hp5
      have fx := And.intro h51 <| And.intro h52 <| And.intro h53 <| h45
      refine k_run ?_
      clear fx
      refine ⟨p.length - (i + 1), by omega, i + 1, rfl, by omega, by simp [h1], by simp [hp1], by simp [h5], by simp [hp5], by simp [h43], by simp [h44], by simp; exact wrp (by omega) (by omega), ?_⟩
      rw [all_range_succ, hal, hbf, hhd', haj]
      simpa using hbd
  · have hge : i = p.length := by
      have : ¬ i < p.length := by simpa using hf
      omega
    subst hge
    have hshp : shapeOk p = (List.range p.length).all (fun i => i == 0 || madeIn p i == 1) := by
      simp only [shapeOk, hal, hyes, decide_true, Bool.and_true, Bool.true_and]
    have hv : ∀ (i : Nat) q, p[i]? = some q → ∀ s ∈ q.body, StmOk p i q s = true := fun i q hq s hs => by
      have := List.all_eq_true.1 hal i (List.mem_range.2 (gS hq).1)
      simp only [blkOk, hq, Bool.and_eq_true] at this
      exact List.all_eq_true.1 this.2 s hs
    clear hf hi
    have fx := And.intro h1 <| And.intro hp1 <| And.intro h43 <| And.intro h44 <| h45
    refine k_run ?_
    clear fx
    refine w_loop (fun n st => ∃ i : Nat, n = p.length - i ∧ i ≤ p.length ∧ 1 ≤ i ∧ st.tm 1 = .pt (.s 1) 0 ∧ st.hp (.s 1) = some (.row 1 [[ksl p]]) ∧ st.tm 5 = .pt (.s 5) 0 ∧ st.hp (.s 5) = some (.row 7 [(madeL p [] p.length).map iv]) ∧ st.tm 12 = iv i ∧ (List.range i).all (fun i => i == 0 || madeIn p i == 1) = true) (p.length - 1) ?_ ?_
    · exact ⟨1, by omega, by omega, by omega, by simp [h1], by simp [hp1], by simp [h5], by simp [hp5], by simp, by simp⟩
    clear h1 hp1 h5 hp5 h43 h44 h45
    rintro n st - - ⟨i, rfl, hi, hi1, h1, hp1, h5, hp5, h12, hmi⟩
    have fx := And.intro h1 <| And.intro hp1 <| h12
    refine k_run ?_
    clear fx
    refine w_if (by simp []; first | done | rfl | exact (Bool.not_not _).symm) (fun ht => ?_) (fun hf => ?_)
    · have hlt : i < p.length := by simpa using ht
      obtain ⟨k, hk⟩ : ∃ k, p[i]? = some k := ⟨_, gE hlt⟩
      have hi7 : i < 7 := by omega
      have hi8 : (i : Int) < 7 := by omega
      have hpk := (hh i k hk).2.2 (by omega)
      have hget : (madeL p [] p.length)[i]? = some (madeIn p i) := by
        rw [madeL_get hi7, ← madeN_at hh hk hv hpk]
        simp [mkN]
      generalize hA : madeL p [] p.length = A at hp5 hget
      clear ht
      all_goals have fx := And.intro h1 <| And.intro hp1 <| And.intro h5 <| And.intro hp5 <| And.intro h12 <| And.intro hi7 <| And.intro hi8 <| And.intro hget <| @bne_def
      repeat' (first
       | refine w_seq ?_ | refine w_block ?_ | refine w_skip ?_ | refine w_reg fun K hK => ?_
       | ((with_reducible refine s_end hK ?_); clear hK K)
       | (with_reducible first | refine then_normal ?_ | refine in_normal ?_ | refine then_exit ?_ | refine in_exit ?_ | refine then_ret ?_ | refine in_ret ?_ | refine in_other (by decide) ?_)
       | refine w_exit ?_
       | refine w_ret ?_
       | (with_reducible refine s_none ?_)
       | ((with_reducible refine g_id ?_); refine x_guard (h := ?_))
       | (with_reducible first | refine gx_tt ?_ | refine gx_ff ?_ | refine x_tf (h := ?_) | refine x_ft (h := ?_) | refine x_u (h := ?_) | refine x_assign (h := ?_) | refine x_box (h := ?_) | refine x_alloc (h := ?_) | refine x_store0 (h := ?_) | refine x_store (h := ?_))
       | (with_reducible refine x_q (h := ?_))
       | (with_reducible refine gx_s (fun ht => ?_) (fun ht => ?_))
       | refine x_condt (h1 := ?_) | refine x_condf (h1 := ?_)
       | refine x_if (h1 := fun ht => ?_) (h2 := fun ht => ?_)
       | fail)
      all_goals try clear fx
      · refine e_ret [] .nil (by simp; rfl) ?_
        rw [hshp, range_false hlt (show (i == 0 || madeIn p i == 1) = false by simp at ht ⊢; exact ⟨by omega, ht⟩)]
        rfl
      · refine ⟨p.length - (i + 1), by omega, i + 1, rfl, by omega, by omega, by simp [h1], by simp [hp1], by simp [h5], by simp [hp5], by simp; exact wrp (by omega) (by omega), ?_⟩
        rw [all_range_succ, hmi]
        simp at ht ⊢
        exact .inr ht
    · have hge : i = p.length := by
        have : ¬ i < p.length := by simpa using hf
        omega
      subst hge
      have fx := fx0
      refine k_run ?_
      clear fx
      refine e_ret [] .nil (by simp []; rfl) (by simp [hshp, hmi])
end Go.Proofs.YtmaoicgfcngciaaGreatDoor
end
section
namespace Go.Proofs.YtmaoicgfcngciaaGreatDoor
open Go Go.Hm Go.Proofs
theorem num_reads (gl) (a : Int) : FnOk Tryz.prog gl 256 [.agg [iv a]] (fun r y H' => y = .hs r 1 0 0 ∧ H' r = some (.row 1 [])) := by
  refine FnOk.of_sem Tryz.func256 rfl (by kernel_rfl) (rs := [.tmp 2]) rfl Tryz.ntmps256 (Nat.le_of_ble_eq_true rfl) fun C w g root => ?_
  have fx := fx0
  refine k_run ?_
  clear fx
  exact e_list (t := 2) (by first | (simp []; done) | (simp []; rfl)) (by first | (simp []; done) | (simp []; rfl)) (by simp)
theorem copy_reads (gl) (a : Int) : FnOk Tryz.prog gl 257 [.agg [iv a]] (fun r y H' => y = .hs r 1 0 1 ∧ H' r = some (.row 1 [[iv a]])) := by
  refine FnOk.of_sem Tryz.func257 rfl (by kernel_rfl) (rs := [.tmp 2]) rfl Tryz.ntmps257 (Nat.le_of_ble_eq_true rfl) fun C w g root => ?_
  have fx := fx0
  refine k_run ?_
  clear fx
  exact e_list (t := 2) (by first | (simp []; done) | (simp []; rfl)) (by first | (simp []; done) | (simp []; rfl)) (by simp)
theorem add_reads (gl) (a b : Int) : FnOk Tryz.prog gl 258 [.agg [iv a, iv b]] (fun r y H' => y = .hs r 1 0 2 ∧ H' r = some (.row 1 [[iv a], [iv b]])) := by
  refine FnOk.of_sem Tryz.func258 rfl (by kernel_rfl) (rs := [.tmp 2]) rfl Tryz.ntmps258 (Nat.le_of_ble_eq_true rfl) fun C w g root => ?_
  have fx := fx0
  refine k_run ?_
  clear fx
  exact e_list (t := 2) (by first | (simp []; done) | (simp []; rfl)) (by first | (simp []; done) | (simp []; rfl)) (by simp)
theorem make_reads (gl) (a b : Int) : FnOk Tryz.prog gl 255 [.agg [iv a, iv b]] (fun r y H' => y = .hs r 1 0 0 ∧ H' r = some (.row 1 [])) := by
  refine FnOk.of_sem Tryz.func255 rfl (by kernel_rfl) (rs := [.tmp 2]) rfl Tryz.ntmps255 (Nat.le_of_ble_eq_true rfl) fun C w g root => ?_
  have fx := fx0
  refine k_run ?_
  clear fx
  exact e_list (t := 2) (by first | (simp []; done) | (simp []; rfl)) (by first | (simp []; done) | (simp []; rfl)) (by simp)
theorem call_reads (gl) (a b : Int) : FnOk Tryz.prog gl 186 [.agg [iv a, iv b]] (fun r y H' => y = .hs r 1 0 (if b = -1 then [a] else [a, b]).length ∧ H' r = some (.row 1 (irows (if b = -1 then [a] else [a, b])))) := by
  refine FnOk.of_sem Tryz.func186 rfl (by kernel_rfl) (rs := [.tmp 2]) rfl Tryz.ntmps186 (Nat.le_of_ble_eq_true rfl) fun C w g root => ?_
  by_cases hb : b = -1
  · subst hb
    have fx := fx0
    refine k_run ?_
    clear fx
    exact e_list (t := 2) (by first | (simp []; done) | (simp []; rfl)) (by first | (simp []; done) | (simp []; rfl)) (by simp)
  · have h1 : (b == -1) = false := by simp [hb]
    rw [if_neg hb]
    have fx :=  h1
    refine k_run ?_
    clear fx
    exact e_list (t := 2) (by first | (simp []; done) | (simp []; rfl)) (by first | (simp []; done) | (simp []; rfl)) (by simp)
theorem get_reads (gl) (a b : Int) : FnOk Tryz.prog gl 259 [.agg [iv a, iv b]] (fun r y H' => y = .hs r 1 0 1 ∧ H' r = some (.row 1 [[iv a]])) := by
  refine FnOk.of_sem Tryz.func259 rfl (by kernel_rfl) (rs := [.tmp 2]) rfl Tryz.ntmps259 (Nat.le_of_ble_eq_true rfl) fun C w g root => ?_
  have fx := fx0
  refine k_run ?_
  clear fx
  exact e_list (t := 2) (by first | (simp []; done) | (simp []; rfl)) (by first | (simp []; done) | (simp []; rfl)) (by simp)
theorem print_reads (gl) (a : Int) : FnOk Tryz.prog gl 260 [.agg [iv a]] (fun r y H' => y = .hs r 1 0 1 ∧ H' r = some (.row 1 [[iv a]])) := by
  refine FnOk.of_sem Tryz.func260 rfl (by kernel_rfl) (rs := [.tmp 2]) rfl Tryz.ntmps260 (Nat.le_of_ble_eq_true rfl) fun C w g root => ?_
  have fx := fx0
  refine k_run ?_
  clear fx
  exact e_list (t := 2) (by first | (simp []; done) | (simp []; rfl)) (by first | (simp []; done) | (simp []; rfl)) (by simp)
theorem return_reads (gl) (a : Int) : FnOk Tryz.prog gl 261 [.agg [iv a]] (fun r y H' => y = .hs r 1 0 1 ∧ H' r = some (.row 1 [[iv a]])) := by
  refine FnOk.of_sem Tryz.func261 rfl (by kernel_rfl) (rs := [.tmp 2]) rfl Tryz.ntmps261 (Nat.le_of_ble_eq_true rfl) fun C w g root => ?_
  have fx := fx0
  refine k_run ?_
  clear fx
  exact e_list (t := 2) (by first | (simp []; done) | (simp []; rfl)) (by first | (simp []; done) | (simp []; rfl)) (by simp)
theorem declare_reads (gl) : FnOk Tryz.prog gl 262 [.agg []] (fun r y H' => y = .hs r 1 0 0 ∧ H' r = some (.row 1 [])) := by
  refine FnOk.of_sem Tryz.func262 rfl (by kernel_rfl) (rs := [.tmp 2]) rfl Tryz.ntmps262 (Nat.le_of_ble_eq_true rfl) fun C w g root => ?_
  have fx := fx0
  refine k_run ?_
  clear fx
  exact e_list (t := 2) (by first | (simp []; done) | (simp []; rfl)) (by first | (simp []; done) | (simp []; rfl)) (by simp)
theorem drop_reads (gl) : FnOk Tryz.prog gl 263 [.agg []] (fun r y H' => y = .hs r 1 0 0 ∧ H' r = some (.row 1 [])) := by
  refine FnOk.of_sem Tryz.func263 rfl (by kernel_rfl) (rs := [.tmp 2]) rfl Tryz.ntmps263 (Nat.le_of_ble_eq_true rfl) fun C w g root => ?_
  have fx := fx0
  refine k_run ?_
  clear fx
  exact e_list (t := 2) (by first | (simp []; done) | (simp []; rfl)) (by first | (simp []; done) | (simp []; rfl)) (by simp)
noncomputable def readsTab (nm : String) : Bool := decide (mtab Tryz.prog 201 nm = some 256) && decide (mtab Tryz.prog 203 nm = some 257) && decide (mtab Tryz.prog 205 nm = some 258) && decide (mtab Tryz.prog 148 nm = some 255) && decide (mtab Tryz.prog 207 nm = some 186) && decide (mtab Tryz.prog 209 nm = some 259) && decide (mtab Tryz.prog 211 nm = some 260) && decide (mtab Tryz.prog 212 nm = some 261) && decide (mtab Tryz.prog 213 nm = some 262) && decide (mtab Tryz.prog 214 nm = some 263)
theorem reads_inv (gl) {nm : String} (hm : readsTab nm = true) (s : Stm) (h : 0 ≤ s.kind ∧ s.kind ≤ 11) : InvOk Tryz.prog gl nm (formAV s) (fun r y H' => y = .hs r 1 0 s.reads.length ∧ H' r = some (.row 1 (irows s.reads))) := by
  simp only [readsTab, Bool.and_eq_true, decide_eq_true_eq] at hm
  obtain ⟨⟨⟨⟨⟨⟨⟨⟨⟨m_num, m_copy⟩, m_add⟩, m_make⟩, m_call⟩, m_get⟩, m_print⟩, m_return⟩, m_declare⟩, m_drop⟩ := hm
  obtain ⟨n, to, a, b⟩ := s
  rcases kind_cases n with rfl | rfl | rfl | rfl | rfl | rfl | rfl | rfl | rfl | rfl | rfl | rfl | hn
  case inr.inr.inr.inr.inr.inr.inr.inr.inr.inr.inr.inr => exact absurd h hn
  · exact ⟨_, _, _, formAV_0, m_num, num_reads _ _⟩
  · exact ⟨_, _, _, formAV_1, m_copy, copy_reads _ _⟩
  · exact ⟨_, _, _, formAV_2, m_add, add_reads _ _ _⟩
  · exact ⟨_, _, _, formAV_3, m_make, make_reads _ _ _⟩
  · exact ⟨_, _, _, formAV_4, m_make, make_reads _ _ _⟩
  · exact ⟨_, _, _, formAV_5, m_call, call_reads _ _ _⟩
  · exact ⟨_, _, _, formAV_6, m_get, get_reads _ _ _⟩
  · exact ⟨_, _, _, formAV_7, m_print, print_reads _ _⟩
  · exact ⟨_, _, _, formAV_8, m_return, return_reads _ _⟩
  · exact ⟨_, _, _, formAV_9, m_declare, declare_reads _⟩
  · exact ⟨_, _, _, formAV_10, m_declare, declare_reads _⟩
  · exact ⟨_, _, _, formAV_11, m_drop, drop_reads _⟩
theorem declaredSet_fn (gl) (k : Blk) (d : Int) (hn : NmOk k) (hs : BSm k) : FnOk Tryz.prog gl 108 [k.av, iv d] (fun _ y _ => y = .agg (bset (k.dc d))) := by
  have hbl := hs.body
  refine FnOk.of_sem Tryz.func108 rfl (by kernel_rfl) (rs := [.cell 4 154]) rfl Tryz.ntmps108 (Nat.le_of_ble_eq_true rfl) fun C w g root => ?_
  have fx := fx0
  refine k_run ?_
  clear fx
  refine w_loop (fun n st => ∃ i : Nat, n = k.body.length - i ∧ i ≤ k.body.length ∧ st.tm 1 = iv d ∧ st.tm 4 = .pt (.s 4) 0 ∧ st.hp (.s 4) = some (.row 8 [bset []]) ∧ st.tm 5 = .pt (.s 5) 0 ∧ st.hp (.s 5) = some (.row 8 [bset (((k.body.take i).filter (fun s => decide (s.kind = d))).map Stm.to)]) ∧ st.tm 9 = ssl k.body ∧ st.tm 10 = iv k.body.length ∧ st.tm 11 = iv i) k.body.length ?_ ?_
  · exact ⟨0, by simp, by simp, by simp, by simp, by simp; rfl, by simp, by simp; rfl, by simp, by simp, by simp⟩
  rintro n st - - ⟨i, rfl, hi, h1, h4, hp4, h5, hp5, h9, h10, h11⟩
  have fx := And.intro h9 <| And.intro h10 <| h11
  refine k_run ?_
  clear fx
  refine w_if (by simp []; first | done | rfl | exact (Bool.not_not _).symm) (fun ht => ?_) (fun hf => ?_)
  · have hlt : i < k.body.length := by simpa using ht
    obtain ⟨s, hsi⟩ : ∃ s, k.body[i]? = some s := ⟨_, gE hlt⟩
    have hto := hn.tos s (List.mem_of_getElem? hsi)
    obtain ⟨x, hx⟩ : ∃ x : Nat, s.to = x := ⟨s.to.toNat, by omega⟩
    have hx8 : (x : Int) < 8 := by omega
    clear ht
    have fx := And.intro h9 <| And.intro h10 <| And.intro h11 <| And.intro hsi <| h1
    refine k_run ?_
    clear fx
    refine w_if (by simp []; first | done | rfl | exact (Bool.not_not _).symm) (fun ht => ?_) (fun hf => ?_)
    · have hkd : s.kind = d := by simpa using ht
      have fx := And.intro h9 <| And.intro h10 <| And.intro h11 <| And.intro h5 <| And.intro hp5 <| And.intro hx <| hx8
      refine k_run ?_
      clear fx
      refine ⟨k.body.length - (i + 1), by omega, i + 1, by simp, by omega, by simp [h1], by simp [h4], by simp [hp4], by simp [h5], ?_, by simp [h9], by simp [h10], by simp; exact wrp (by omega) (by omega)⟩
      rw [take_succ_filter hsi]
      simp [hkd, ← bset_add hx (by omega)]
    · have hkd : ¬ s.kind = d := by simpa using hf
      have fx := And.intro h9 <| And.intro h10 <| h11
      refine k_run ?_
      clear fx
      refine ⟨k.body.length - (i + 1), by omega, i + 1, by simp, by omega, by simp [h1], by simp [h4], by simp [hp4], by simp [h5], ?_, by simp [h9], by simp [h10], by simp; exact wrp (by omega) (by omega)⟩
      rw [take_succ_filter hsi]
      simp [hkd, hp5]
  · have hge : i = k.body.length := by
      have : ¬ i < k.body.length := by simpa using hf
      omega
    subst hge
    rw [List.take_length] at hp5
    have fx := And.intro h4 <| And.intro hp4 <| And.intro h5 <| hp5
    refine k_run ?_
    clear fx
    refine e_ret [] .nil (by simp [h4]; rfl) ?_
    simp [Blk.dc, bset_sorted, declAll]
theorem boundSet_fn (gl) (k : Blk) (hn : NmOk k) (hs : BSm k) : FnOk Tryz.prog gl 107 [k.av] (fun _ y _ => y = .agg (bset k.bd)) := by
  have hbl := hs.body
  have hpl := hs.params
  refine FnOk.of_sem Tryz.func107 rfl (by kernel_rfl) (rs := [.cell 2 154]) rfl Tryz.ntmps107 (Nat.le_of_ble_eq_true rfl) fun C w g root => ?_
  have fx := fx0
  refine k_run ?_
  clear fx
  refine w_loop (fun n st => ∃ i : Nat, n = k.params.length - i ∧ i ≤ k.params.length ∧ st.tm 1 = .pt (.s 1) 0 ∧ st.hp (.s 1) = some (.row 4 [k.cells]) ∧ st.tm 2 = .pt (.s 2) 0 ∧ st.hp (.s 2) = some (.row 8 [bset []]) ∧ st.tm 3 = .pt (.s 3) 0 ∧ st.hp (.s 3) = some (.row 8 [bset (k.params.take i)]) ∧ st.tm 9 = isl k.params ∧ st.tm 10 = iv k.params.length ∧ st.tm 11 = iv i) k.params.length ?_ ?_
  · exact ⟨0, by simp, by simp, by simp, by simp, by simp, by simp; rfl, by simp, by simp; rfl, by simp, by simp, by simp⟩
  · rintro n st - - ⟨i, rfl, hi, h1, hp1, h2, hp2, h3, hp3, h9, h10, h11⟩
    have fx := And.intro h9 <| And.intro h10 <| h11
    refine k_run ?_
    clear fx
    refine w_if (by simp []; first | done | rfl | exact (Bool.not_not _).symm) (fun ht => ?_) (fun hf => ?_)
    · have hlt : i < k.params.length := by simpa using ht
      obtain ⟨y, hy⟩ : ∃ y, k.params[i]? = some y := ⟨_, gE hlt⟩
      have hto := hn.params y (List.mem_of_getElem? hy)
      obtain ⟨x, rfl⟩ : ∃ x : Nat, y = x := ⟨y.toNat, by omega⟩
      have hx8 : (x : Int) < 8 := by omega
      clear ht
      have fx := And.intro h9 <| And.intro h10 <| And.intro h11 <| And.intro hy <| And.intro h3 <| And.intro hp3 <| hx8
      refine k_run ?_
      clear fx
      refine ⟨k.params.length - (i + 1), by omega, i + 1, by simp, by omega, by simp [h1], by simp [hp1], by simp [h2], by simp [hp2], by simp [h3], ?_, by simp [h9], by simp [h10], by simp; exact wrp (by omega) (by omega)⟩
      rw [List.take_add_one, hy]
      simp [← bset_add (y := (x : Int)) rfl (by omega : x < 8)]
    · have hge : i = k.params.length := by
        have : ¬ i < k.params.length := by simpa using hf
        omega
      subst hge
      rw [List.take_length] at hp3
      have fx := And.intro h1 <| hp1
      refine k_run ?_
      clear fx
      refine w_loop (fun n st => ∃ i : Nat, n = k.body.length - i ∧ i ≤ k.body.length ∧ st.tm 2 = .pt (.s 2) 0 ∧ st.hp (.s 2) = some (.row 8 [bset []]) ∧ st.tm 3 = .pt (.s 3) 0 ∧ st.hp (.s 3) = some (.row 8 [bset (k.params ++ ((k.body.take i).filter (fun s => decide (s.sets ∨ s.kind = 11))).map Stm.to)]) ∧ st.tm 19 = ssl k.body ∧ st.tm 20 = iv k.body.length ∧ st.tm 21 = iv i) k.body.length ?_ ?_
      · exact ⟨0, by simp, by simp, by simp [h2], by simp [hp2], by simp [h3], by simp [hp3], by simp, by simp, by simp⟩
      clear h1 hp1 h2 hp2 h3 hp3 h9 h10 h11 hf hi
      rintro n st - - ⟨i, rfl, hi, h2, hp2, h3, hp3, h19, h20, h21⟩
      have fx := And.intro h19 <| And.intro h20 <| h21
      refine k_run ?_
      clear fx
      refine w_if (by simp []; first | done | rfl | exact (Bool.not_not _).symm) (fun ht => ?_) (fun hf => ?_)
      · have hlt : i < k.body.length := by simpa using ht
        obtain ⟨s, hsi⟩ : ∃ s, k.body[i]? = some s := ⟨_, gE hlt⟩
        have hto := hn.tos s (List.mem_of_getElem? hsi)
        obtain ⟨x, hx⟩ : ∃ x : Nat, s.to = x := ⟨s.to.toNat, by omega⟩
        have hx8 : (x : Int) < 8 := by omega
        clear ht
        have fx := And.intro h19 <| And.intro h20 <| And.intro h21 <| hsi
        have c1 := binds_fn gl s
        refine k_run ?_
        clear fx c1
        refine w_if (by simp []; first | done | rfl | exact (Bool.not_not _).symm) (fun ht => ?_) (fun hf => ?_)
        · skip
          have fx := And.intro h19 <| And.intro h20 <| And.intro h21 <| And.intro h3 <| And.intro hp3 <| And.intro hx <| hx8
          refine k_run ?_
          clear fx
          refine ⟨k.body.length - (i + 1), by omega, i + 1, by simp, by omega, by simp [h2], by simp [hp2], by simp [h3], ?_, by simp [h19], by simp [h20], by simp; exact wrp (by omega) (by omega)⟩
          have hc : decide (s.sets ∨ s.kind = 11) = true := by simpa using ht
          have hadd := bset_add (l := k.params ++ ((k.body.take i).filter (fun s => decide (s.sets ∨ s.kind = 11))).map Stm.to) hx (by omega)
          rw [take_succ_filter hsi, if_pos hc, List.map_append]
          simp at hadd ⊢
          exact hadd
        · skip
          have fx := And.intro h19 <| And.intro h20 <| h21
          refine k_run ?_
          clear fx
          refine ⟨k.body.length - (i + 1), by omega, i + 1, by simp, by omega, by simp [h2], by simp [hp2], by simp [h3], ?_, by simp [h19], by simp [h20], by simp; exact wrp (by omega) (by omega)⟩
          have hc : ¬ decide (s.sets ∨ s.kind = 11) = true := by simpa using hf
          rw [take_succ_filter hsi, if_neg hc]
          simp [hp3]
      · have hge : i = k.body.length := by
          have : ¬ i < k.body.length := by simpa using hf
          omega
        subst hge
        rw [List.take_length] at hp3
        have fx := And.intro h2 <| And.intro hp2 <| And.intro h3 <| hp3
        refine k_run ?_
        clear fx
        refine e_ret [] .nil (by simp [h2]; rfl) ?_
        simp [Blk.bd, bset_sorted, boundAll]
theorem readSet_fn (gl) (k : Blk) (hn : NmOk k) (hs : BSm k) : FnOk Tryz.prog gl 106 [k.av] (fun _ y _ => y = .agg (bset k.rd)) := by
  have hbl := hs.body
  refine FnOk.of_sem Tryz.func106 rfl (by kernel_rfl) (rs := [.cell 2 154]) rfl Tryz.ntmps106 (Nat.le_of_ble_eq_true rfl) fun C w g root => ?_
  have fx := fx0
  refine k_run ?_
  clear fx
  refine w_loop (fun n st => ∃ i : Nat, n = k.body.length - i ∧ i ≤ k.body.length ∧ st.tm 2 = .pt (.s 2) 0 ∧ st.hp (.s 2) = some (.row 8 [bset []]) ∧ st.tm 3 = .pt (.s 3) 0 ∧ st.hp (.s 3) = some (.row 8 [bset (readsAll (k.body.take i))]) ∧ st.tm 9 = ssl k.body ∧ st.tm 10 = iv k.body.length ∧ st.tm 11 = iv i) k.body.length ?_ ?_
  · exact ⟨0, by simp, by simp, by simp, by simp; rfl, by simp, by simp; rfl, by simp, by simp, by simp⟩
  rintro n st - - ⟨i, rfl, hi, h2, hp2, h3, hp3, h9, h10, h11⟩
  have fx := And.intro h9 <| And.intro h10 <| h11
  refine k_run ?_
  clear fx
  refine w_if (by simp []; first | done | rfl | exact (Bool.not_not _).symm) (fun ht => ?_) (fun hf => ?_)
  · have hlt : i < k.body.length := by simpa using ht
    obtain ⟨s, hsi⟩ : ∃ s, k.body[i]? = some s := ⟨_, gE hlt⟩
    have hsm := List.mem_of_getElem? hsi
    have hrl := s.reads_len
    clear ht
    all_goals have fx := And.intro h9 <| And.intro h10 <| And.intro h11 <| hsi
    repeat' (first
     | refine w_seq ?_ | refine w_block ?_ | refine w_skip ?_ | refine w_reg fun K hK => ?_
     | ((with_reducible refine s_end hK ?_); clear hK K)
     | (with_reducible first | refine then_normal ?_ | refine in_normal ?_ | refine then_exit ?_ | refine in_exit ?_ | refine then_ret ?_ | refine in_ret ?_ | refine in_other (by decide) ?_)
     | refine w_exit ?_
     | refine w_ret ?_
     | (with_reducible first | refine s_none ?_ | refine x_assign (h := ?_) | refine x_box (h := ?_) | refine x_alloc (h := ?_) | refine x_store0 (h := ?_))
     | ((with_reducible refine o_id 105 rfl ?_); refine x_call (hF := formOf_fn _ s) (h := ?_))
     | (refine x_invh (hF := reads_inv _ (by kernel_rfl) s (hn.kinds s hsm)) (h := ?_))
     | (with_reducible refine x_q (h := ?_))
     | refine x_condt (h1 := ?_) | refine x_condf (h1 := ?_)
     | fail)
    all_goals try clear fx
    refine w_loop (fun n st => ∃ j : Nat, n = s.reads.length - j ∧ j ≤ s.reads.length ∧ st.tm 2 = .pt (.s 2) 0 ∧ st.hp (.s 2) = some (.row 8 [bset []]) ∧ st.tm 3 = .pt (.s 3) 0 ∧ st.hp (.s 3) = some (.row 8 [bset (readsAll (k.body.take i) ++ s.reads.take j)]) ∧ st.tm 9 = ssl k.body ∧ st.tm 10 = iv k.body.length ∧ st.tm 11 = iv i ∧ st.tm 17 = .hs (.s 17) 1 0 s.reads.length ∧ st.hp (.s 17) = some (.row 1 (irows s.reads)) ∧ st.tm 18 = iv s.reads.length ∧ st.tm 19 = iv j) s.reads.length ?_ ?_
    · exact ⟨0, by simp, by simp, by simp [h2], by simp [hp2], by simp [h3], by simp [hp3], by simp [h9], by simp [h10], by simp [h11], by simp, by simp, by simp, by simp⟩
    clear h2 hp2 h3 hp3 h9 h10 h11
    rintro n st - - ⟨j, rfl, hj, h2, hp2, h3, hp3, h9, h10, h11, h17, hp17, h18, h19⟩
    have fx := And.intro h17 <| And.intro h18 <| h19
    refine k_run ?_
    clear fx
    refine w_if (by simp []; first | done | rfl | exact (Bool.not_not _).symm) (fun ht => ?_) (fun hf => ?_)
    · have hlj : j < s.reads.length := by simpa using ht
      obtain ⟨y, hy⟩ : ∃ y, s.reads[j]? = some y := ⟨_, gE hlj⟩
      have hto := hn.reads s hsm y (List.mem_of_getElem? hy)
      obtain ⟨x, rfl⟩ : ∃ x : Nat, y = x := ⟨y.toNat, by omega⟩
      obtain ⟨_, hye⟩ := gS hy
      have hx8 : (x : Int) < 8 := by omega
      clear ht
      have fx := And.intro h17 <| And.intro hp17 <| And.intro h18 <| And.intro h19 <| And.intro hy <| And.intro hye <| And.intro hlj <| And.intro h3 <| And.intro hp3 <| hx8
      refine k_run ?_
      clear fx
      refine ⟨s.reads.length - (j + 1), by omega, j + 1, by simp, by omega, by simp [h2], by simp [hp2], by simp [h3], ?_, by simp [h9], by simp [h10], by simp [h11], by simp [h17], by simp [hp17], by simp [h18], by simp; exact wrp (by omega) (by omega)⟩
      have hadd := bset_add (l := readsAll (k.body.take i) ++ s.reads.take j) (y := (x : Int)) rfl (by omega : x < 8)
      rw [List.take_add_one, hy]
      simp at hadd ⊢
      exact hadd
    · have hge : j = s.reads.length := by
        have : ¬ j < s.reads.length := by simpa using hf
        omega
      subst hge
      rw [List.take_length] at hp3
      have fx :=  h11
      refine k_run ?_
      clear fx
      refine ⟨k.body.length - (i + 1), by omega, i + 1, by simp, by omega, by simp [h2], by simp [hp2], by simp [h3], ?_, by simp [h9], by simp [h10], by simp; exact wrp (by omega) (by omega)⟩
      rw [List.take_add_one, hsi]
      simp [readsAll, hp3]
  · have hge : i = k.body.length := by
      have : ¬ i < k.body.length := by simpa using hf
      omega
    subst hge
    rw [List.take_length] at hp3
    have fx := And.intro h2 <| And.intro hp2 <| And.intro h3 <| hp3
    refine k_run ?_
    clear fx
    refine e_ret [] .nil (by simp [h2]; rfl) ?_
    simp [Blk.rd, bset_sorted]
abbrev qsHf0 : Sch := .q 0 <| .q 1 <| .q 2 <| .q 3 <| .q 5 <| .q 7 <| .q 9 <| .l 4 [9, 7, 5, 2, 1, 0] <| .l 6 [9, 7, 2, 1, 0] <| .l 8 [9, 2, 1, 0] <| .l 10 [2, 1, 0] <| .q 11 <| .l 12 [2, 1, 0] <| .l 13 [] <| .done
theorem scopesOf_fn (gl) (p : Prg) (hs : Sml p) (hh : Heads p) (hn : ∀ k ∈ p, NmOk k) : FnOk Tryz.prog gl 55 [pav p] (fun r y H' => y = .hs r 1 0 p.length ∧ OwnS H' r p p.length) := by
  have hpl := hs.len
  refine FnOk.of_sem Tryz.func55 rfl (by kernel_rfl) (rs := [.tmp 2]) rfl Tryz.ntmps55 (Nat.le_of_ble_eq_true rfl) fun C w g root => ?_
  have fx := fx0
  refine k_run ?_
  repeat ((first | refine wSc (id := 5) qsHf0 mixed ?_); refine k_rund ?_; refine k_run ?_)
  clear fx
  refine w_loop (fun n st => ∃ i : Nat, n = p.length - i ∧ i ≤ p.length ∧ st.tm 1 = .pt (.s 1) 0 ∧ st.hp (.s 1) = some (.row 1 [[ksl p]]) ∧ st.tm 3 = .hs (.s 3) 1 0 p.length ∧ st.tm 14 = ksl p ∧ st.tm 15 = iv p.length ∧ st.tm 16 = iv i ∧ OwnS st.hp (.s 3) p i) p.length ?_ ?_
  · refine ⟨0, by simp, by simp, by simp, by simp, by simp, by simp, by simp, by simp, ⟨?_, fun j k hj => by omega⟩⟩
    rw [← sRows_zero]
    simp [nilP]
  rintro n st - - ⟨i, rfl, hi, h1, hp1, h3, h14, h15, h16, ⟨ho1, ho2⟩⟩
  have fx := And.intro h14 <| And.intro h15 <| h16
  refine k_run ?_
  repeat ((first | refine wSc (id := 5) qsHf0 mixed ?_); refine k_rund ?_; refine k_run ?_)
  clear fx
  refine w_if (by simp []; first | done | rfl | exact (Bool.not_not _).symm) (fun ht => ?_) (fun hf => ?_)
  · have hlt : i < p.length := by simpa using ht
    obtain ⟨k, hk⟩ : ∃ k, p[i]? = some k := ⟨_, gE hlt⟩
    have hkm := List.mem_of_getElem? hk
    obtain ⟨hkp, hkb⟩ := hs.bsm hk
    clear ht
    all_goals have fx := And.intro h14 <| And.intro h15 <| And.intro h16 <| hk
    repeat' (first
     | refine w_seq ?_ | refine w_block ?_ | refine w_skip ?_ | refine w_reg fun K hK => ?_
     | ((with_reducible refine s_end hK ?_); clear hK K)
     | (with_reducible first | refine then_normal ?_ | refine in_normal ?_ | refine then_exit ?_ | refine in_exit ?_ | refine then_ret ?_ | refine in_ret ?_ | refine s_nil ?_ | refine in_other (by decide) ?_)
     | refine w_exit ?_
     | refine w_ret ?_
     | (with_reducible first | refine s_none ?_ | refine x_assign (h := ?_) | refine x_box (h := ?_) | refine x_alloc (h := ?_) | refine x_store0 (h := ?_) | refine x_store (h := ?_) | refine x_make (h := ?_))
     | ((with_reducible refine o_id 106 rfl ?_); refine x_call (hF := readSet_fn _ k (hn k hkm) (hs.bsm hk)) (h := ?_))
     | ((with_reducible refine o_id 107 rfl ?_); refine x_call (hF := boundSet_fn _ k (hn k hkm) (hs.bsm hk)) (h := ?_))
     | ((with_reducible refine o_id 108 rfl ?_); refine x_call (hF := declaredSet_fn _ k _ (hn k hkm) (hs.bsm hk)) (h := ?_))
     | (with_reducible refine x_q (h := ?_))
     | refine x_condt (h1 := ?_) | refine x_condf (h1 := ?_)
     | (refine wSc (id := 5) qsHf0 mixed fun K hK => ?_)
     | ((with_reducible refine a_end hK ?_); clear hK K)
     | ((with_reducible refine a_id ?_); first | refine xa_q (h := ?_) | refine xa_qt (h := ?_) | refine xa_qf (h := ?_) | refine xa_qu (h := ?_))
     | ((with_reducible refine a_id ?_); refine xa_gq (h1 := fun ht => ?_) (h2 := fun ht => ?_))
     | refine a_l rfl ?_ | refine a_l2 ?_ ?_ | (with_reducible refine And.intro ?_ ?_) | exact st_nil | refine xa_st (h2 := ?_)
     | fail)
    all_goals try clear fx
    refine w_loop (fun n st => ∃ j : Nat, n = k.params.length - j ∧ j ≤ k.params.length ∧ st.tm 1 = .pt (.s 1) 0 ∧ st.hp (.s 1) = some (.row 1 [[ksl p]]) ∧ st.tm 3 = .hs (.s 3) 1 0 p.length ∧ st.tm 14 = ksl p ∧ st.tm 15 = iv p.length ∧ st.tm 16 = iv i ∧ OwnS st.hp (.s 3) p i ∧ st.tm 4 = iv i ∧ st.tm 5 = .pt (.s 5) 0 ∧ st.hp (.s 5) = some (.row 4 [k.cells]) ∧ st.tm 6 = .pt (.s 6) 0 ∧ st.hp (.s 6) = some (.row 43 [scopeRow i k nilP (k.params.take j)]) ∧ st.tm 35 = isl k.params ∧ st.tm 36 = iv k.params.length ∧ st.tm 37 = iv j) k.params.length ?_ ?_
    · refine ⟨0, by simp, by simp, by simp [h1], by simp [hp1], by simp [h3], by simp [h14], by simp [h15], by simp [h16], ⟨?_, fun j q hj hq => ?_⟩, by simp, by simp, by simp, by simp, ?_, by simp, by simp, by simp⟩
      · simp [ho1]
      · simp [ho2 j q hj hq]
      · simp [scopeRow, nilP]
        rfl
    clear h1 hp1 h3 h14 h15 h16 ho1 ho2
    rintro n st - - ⟨j, rfl, hj, h1, hp1, h3, h14, h15, h16, ⟨ho1, ho2⟩, h4, h5, hp5, h6, hp6, h35, h36, h37⟩
    have fx := And.intro h35 <| And.intro h36 <| h37
    refine k_run ?_
    repeat ((first | refine wSc (id := 5) qsHf0 mixed ?_); refine k_rund ?_; refine k_run ?_)
    clear fx
    refine w_if (by simp []; first | done | rfl | exact (Bool.not_not _).symm) (fun ht => ?_) (fun hf => ?_)
    · have hlj : j < k.params.length := by simpa using ht
      obtain ⟨y, hy⟩ : ∃ y, k.params[j]? = some y := ⟨_, gE hlj⟩
      have hto := (hn k hkm).params y (List.mem_of_getElem? hy)
      obtain ⟨x, rfl⟩ : ∃ x : Nat, y = x := ⟨y.toNat, by omega⟩
      have hx8 : (x : Int) < 8 := by omega
      clear ht
      have fx := And.intro h35 <| And.intro h36 <| And.intro h37 <| And.intro hy <| And.intro h6 <| And.intro hp6 <| hx8
      refine k_run ?_
      repeat ((first | refine wSc (id := 5) qsHf0 mixed ?_); refine k_rund ?_; refine k_run ?_)
      clear fx
      refine ⟨k.params.length - (j + 1), by omega, j + 1, by simp, by omega, by simp [h1], by simp [hp1], by simp [h3], by simp [h14], by simp [h15], by simp [h16], ⟨?_, fun j q hj hq => ?_⟩, by simp [h4], by simp [h5], by simp [hp5], by simp [h6], ?_, by simp [h35], by simp [h36], by simp; exact wrp (by omega) (by omega)⟩
      · simp [ho1]
      · simp [ho2 j q hj hq]
      · rw [List.take_add_one, hy]
        simp [← scopeRow_addP (y := (x : Int)) rfl (by omega : x < 8)]
    · have hge : j = k.params.length := by
        have : ¬ j < k.params.length := by simpa using hf
        omega
      subst hge
      rw [List.take_length] at hp6
      clear hf hj
      obtain ⟨hq1, hq2, hq3⟩ := hh i k hk
      have fx :=  h4
      refine k_run ?_
      repeat ((first | refine wSc (id := 5) qsHf0 mixed ?_); refine k_rund ?_; refine k_run ?_)
      clear fx
      refine w_if (by simp []; first | done | rfl | exact (Bool.not_not _).symm) (fun ht => ?_) (fun hf => ?_)
      · have hi0 : 0 < i := by simpa using ht
        obtain ⟨q, hq⟩ : ∃ q : Nat, k.parent = q := ⟨k.parent.toNat, by omega⟩
        have hqi : q < i := by omega
        have hqp : q < p.length := by omega
        have hsg := sRows_get (n := .s 3) (i := i) hqp
        rw [if_pos hqi] at hsg
        obtain ⟨_, hse⟩ := gS hsg
        have fx := And.intro h3 <| And.intro ho1 <| And.intro h4 <| And.intro h5 <| And.intro hp5 <| And.intro h6 <| And.intro hp6 <| And.intro hq <| And.intro hsg <| And.intro hse <| And.intro hlt <| And.intro hqp <| And.intro hqi <| h16
        refine k_run ?_
        repeat ((first | refine wSc (id := 5) qsHf0 mixed ?_); refine k_rund ?_; refine k_run ?_)
        clear fx
        refine ⟨p.length - (i + 1), by omega, i + 1, rfl, by omega, by simp [h1], by simp [hp1], by simp [h3], by simp [h14], by simp [h15], by simp [h16]; exact wrp (by omega) (by omega), ⟨?_, fun j r hj hr => ?_⟩⟩
        · simp [ho1, sRows_set]
        · rcases Nat.lt_succ_iff_lt_or_eq.1 hj with hlj | rfl
          · have hne : ¬ j = i := by omega
            have hrp := (hh j r hr).2.1
            have ho := outP_mvc (n := .s 3) (a := 6) (i := i) (q := r.parent) (by simp) (by simp) (by omega)
            simp [ho2 j r hlj hr, hne, ho]
          · rw [hk] at hr
            obtain rfl := Option.some.inj hr
            have hne : ¬ q = j := by omega
            have hso := scopeRow_setO (i := j) (k := k) (o := nilP) (o' := .pt (.c (.s 3) q 0) 0) (ps := k.params)
            simp [hq, outP_nat, hp6, hne, hso]
      · have hi0 : i = 0 := by
          have : ¬ 0 < i := by simpa using hf
          omega
        have fx := And.intro h3 <| And.intro ho1 <| And.intro h4 <| And.intro h6 <| And.intro hp6 <| And.intro hlt <| h16
        refine k_run ?_
        repeat ((first | refine wSc (id := 5) qsHf0 mixed ?_); refine k_rund ?_; refine k_run ?_)
        clear fx
        refine ⟨p.length - (i + 1), by omega, i + 1, rfl, by omega, by simp [h1], by simp [hp1], by simp [h3], by simp [h14], by simp [h15], by simp [h16]; exact wrp (by omega) (by omega), ⟨?_, fun j r hj hr => ?_⟩⟩
        · simp [ho1, sRows_set]
        · obtain rfl : j = i := by omega
          rw [hk] at hr
          obtain rfl := Option.some.inj hr
          rw [outP_neg (by omega)]
          simp [hp6]
  · have hge : i = p.length := by
      have : ¬ i < p.length := by simpa using hf
      omega
    subst hge
    have fx :=  h3
    refine k_run ?_
    repeat ((first | refine wSc (id := 5) qsHf0 mixed ?_); refine k_rund ?_; refine k_run ?_)
    clear fx
    refine e_ret [(.s 2, root)] (.one rfl) (by simp; rfl) ⟨by simp, ⟨?_, fun j r hj hr => ?_⟩⟩
    · simp [ho1, sRows_tr (n := .s 2) (m := root) (f := finf noD [(.s 2, root)]) (by simp)]
    · simp [ho2 j r hj hr, outP_tr (n := .s 2) (m := root) (f := finf noD [(.s 2, root)]) (by simp)]
end Go.Proofs.YtmaoicgfcngciaaGreatDoor
end
