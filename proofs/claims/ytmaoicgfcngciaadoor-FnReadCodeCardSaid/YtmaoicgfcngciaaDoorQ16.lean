/-
  Own texts, joined by mkclaim.py: Ga, Gb, Ua, Gc, Gd, Ge, Gf, Gg.
-/
import Derived.Test.YtmaoicgfcngciaaDoorQ15
import Derived.Test.YtmaoicgfcngciaaDoorQ09
import Derived.Test.YtmaoicgfcngciaaDoorQ11
import Derived.Test.YtmaoicgfcngciaaDoorQ13
import Derived.Test.YtmaoicgfcngciaaDoorQ08
set_option linter.unusedSimpArgs false
set_option linter.unusedVariables false
set_option maxRecDepth 100000
set_option maxHeartbeats 4000000

section
namespace Go.Proofs.YtmaoicgfcngciaaDoor
open Go Go.Hm Go.Proofs
theorem inRange_fn (gl) (n lo hi : Int) : FnOk Tryd.prog gl 51 [iv n, iv lo, iv hi] (fun _ x _ => x = bv (decide (lo ≤ n) && decide (n ≤ hi))) := by
  refine FnOk.of_sem Tryd.func51 rfl (by kernel_rfl) (rs := [.tmp 6]) rfl Tryd.ntmps51 (Nat.le_of_ble_eq_true rfl) fun C w g root => ?_
  all_goals have fx := fx0
  repeat' (first
   | refine w_seq ?_ | refine w_reg fun K hK => ?_
   | ((with_reducible refine s_end hK ?_); clear hK K)
   | (with_reducible first | refine then_normal ?_)
   | refine w_ret ?_
   | (with_reducible refine s_none ?_)
   | ((with_reducible refine g_id ?_); refine x_guard (h := ?_))
   | (with_reducible first | refine gx_tt ?_ | refine x_tf (h := ?_) | refine x_assign (h := ?_))
   | (with_reducible refine x_q (h := ?_))
   | (with_reducible refine gx_s (fun ht => ?_) (fun ht => ?_))
   | fail)
  all_goals try clear fx
  all_goals refine e_ret [] .nil (by simp; rfl) ?_
  all_goals simp_all
  omega
theorem spec_isName_fn (gl) (n : Int) : FnOk Tryd.prog gl 99 [iv n] (fun _ x _ => x = bv (decide (0 ≤ n) && decide (n ≤ 7))) := by
  refine FnOk.of_sem Tryd.func99 rfl (by kernel_rfl) (rs := [.tmp 2]) rfl Tryd.ntmps99 (Nat.le_of_ble_eq_true rfl) fun C w g root => ?_
  all_goals have fx := fx0
  repeat' (first
   | refine w_seq ?_ | refine w_reg fun K hK => ?_
   | ((with_reducible refine s_end hK ?_); clear hK K)
   | (with_reducible first | refine then_normal ?_)
   | refine w_ret ?_
   | (with_reducible first | refine s_none ?_ | refine x_assign (h := ?_))
   | ((with_reducible refine o_id 51 rfl ?_); refine x_call (hF := inRange_fn _ _ _ _) (h := ?_))
   | (with_reducible refine x_q (h := ?_))
   | fail)
  all_goals try clear fx
  refine e_ret [] .nil (by simp; rfl) (by simp)
theorem placeIn_fn (gl) (xs : List Int) (x : Int) (hlen : xs.length ≤ 4294967296) : FnOk Tryd.prog gl 71 [isl xs, iv x] (fun _ z _ => z = iv (placeIn xs x)) := by
  refine FnOk.of_sem Tryd.func71 rfl (by kernel_rfl) (rs := [.tmp 4]) rfl Tryd.ntmps71 (Nat.le_of_ble_eq_true rfl) fun C w g root => ?_
  have fx := fx0
  refine k_run ?_
  clear fx
  refine w_loop (fun n st => ∃ i : Nat, n = xs.length - i ∧ i ≤ xs.length ∧ st.tm 0 = isl xs ∧ st.tm 1 = iv x ∧ st.tm 5 = iv i ∧ ∀ j < i, xs[j]? ≠ some x) xs.length ⟨0, by simp⟩ ?_
  rintro n st - - ⟨i, rfl, hi, h0, h1, h5, hno⟩
  have fx := And.intro h0 <| And.intro h1 <| h5
  refine k_run ?_
  clear fx
  refine w_if (by simp []; first | done | rfl | exact (Bool.not_not _).symm) (fun ht => ?_) (fun hf => ?_)
  · have hlt : i < xs.length := by simpa using ht
    obtain ⟨y, hy⟩ : ∃ y, xs[i]? = some y := ⟨xs[i], gE hlt⟩
    have fx := And.intro h0 <| And.intro h1 <| And.intro h5 <| hy
    refine k_run ?_
    clear fx
    refine w_if (by simp []; first | done | rfl | exact (Bool.not_not _).symm) (fun ht => ?_) (fun hf => ?_)
    · skip
      have fx := And.intro h0 <| And.intro h1 <| h5
      refine k_run ?_
      clear fx
      refine e_ret [] .nil (by simp [h5]; rfl) ?_
      have hyx : y = x := by simpa using ht
      subst hyx
      have : xs.findIdx? (· == y) = some i := by
        rw [List.findIdx?_eq_some_iff_getElem]
        refine ⟨hlt, ?_, fun j hj => ?_⟩
        · rw [gE hlt] at hy; simpa using Option.some.inj hy
        · have := hno j hj
          rw [gE (by omega)] at this
          simpa using this
      simp [placeIn, this]
    · skip
      have fx := And.intro h0 <| And.intro h1 <| h5
      refine k_run ?_
      clear fx
      refine ⟨xs.length - (i + 1), by omega, i + 1, rfl, by omega, ?_⟩
      simp [h0, h1]
      refine ⟨wrp (by omega) (by omega), fun j hj => ?_⟩
      rcases Nat.lt_succ_iff_lt_or_eq.1 hj with h | rfl
      · exact hno j h
      · rw [hy]; simpa using hf
  · skip
    have fx := And.intro h0 <| And.intro h1 <| h5
    refine k_run ?_
    clear fx
    refine e_ret [] .nil (by simp; rfl) ?_
    have hge : i = xs.length := by have : ¬ i < xs.length := by simpa using hf
                                   omega
    have : xs.findIdx? (· == x) = none := by
      rw [List.findIdx?_eq_none_iff]
      intro y hy
      obtain ⟨j, hj, rfl⟩ := List.getElem_of_mem hy
      have := hno j (by omega)
      rw [gE hj] at this
      simpa using this
    simp [placeIn, this]
theorem has_fn (gl) (xs : List Int) (x : Int) (hlen : xs.length ≤ 4294967296) : FnOk Tryd.prog gl 38 [isl xs, iv x] (fun _ z _ => z = bv (decide (x ∈ xs))) := by
  refine FnOk.of_sem Tryd.func38 rfl (by kernel_rfl) (rs := [.tmp 4]) rfl Tryd.ntmps38 (Nat.le_of_ble_eq_true rfl) fun C w g root => ?_
  all_goals have fx := fx0
  repeat' (first
   | refine w_seq ?_ | refine w_reg fun K hK => ?_
   | ((with_reducible refine s_end hK ?_); clear hK K)
   | (with_reducible first | refine then_normal ?_)
   | refine w_ret ?_
   | (with_reducible first | refine s_none ?_ | refine x_assign (h := ?_))
   | ((with_reducible refine o_id 71 rfl ?_); refine x_call (hF := placeIn_fn _ _ _ hlen) (h := ?_))
   | (with_reducible refine x_q (h := ?_))
   | fail)
  all_goals try clear fx
  refine e_ret [] .nil (by simp []; rfl) (by simp [placeIn_nonneg])
theorem sorted_fn (gl) (xs : List Int) (hlen : xs.length ≤ 4294967296) : FnOk Tryd.prog gl 70 [isl xs] (fun r y H' => y = .hs r 1 0 (sorted xs).length ∧ H' r = some (.row 1 (irows (sorted xs)))) := by
  refine FnOk.of_sem Tryd.func70 rfl (by kernel_rfl) (rs := [.tmp 2]) rfl Tryd.ntmps70 (Nat.le_of_ble_eq_true rfl) fun C w g root => ?_
  have fx := fx0
  refine k_run ?_
  clear fx
  refine w_loop (fun n st => ∃ i : Nat, n = 8 - i ∧ i ≤ 8 ∧ st.tm 0 = isl xs ∧ st.tm 4 = iv i ∧ st.tm 3 = .hs (.s 3) 1 0 (sortedTo xs i).length ∧ st.hp (.s 3) = some (.row 1 (irows (sortedTo xs i)))) 8 ?_ ?_
  · exact ⟨0, by simp [sortedTo]⟩
  rintro n st - - ⟨i, rfl, hi, h0, h4, h3, hp3⟩
  have hsl := sortedTo_len (xs := xs) i
  have fx := And.intro h0 <| And.intro h4 <| And.intro h3 <| hp3
  refine k_run ?_
  clear fx
  refine w_if (by simp []; first | done | rfl | exact (Bool.not_not _).symm) (fun ht => ?_) (fun hf => ?_)
  · have hlt : (i : Int) ≤ 7 := by simpa using ht
    all_goals have fx := And.intro h0 <| And.intro h4 <| And.intro h3 <| hp3
    repeat' (first
     | refine w_seq ?_ | refine w_block ?_ | refine w_skip ?_ | refine w_reg fun K hK => ?_
     | ((with_reducible refine s_end hK ?_); clear hK K)
     | (with_reducible first | refine then_normal ?_ | refine in_normal ?_ | refine then_exit ?_ | refine in_exit ?_ | refine then_ret ?_ | refine in_ret ?_ | refine in_other (by decide) ?_)
     | refine w_exit ?_
     | refine w_ret ?_
     | (with_reducible first | refine s_none ?_ | refine x_assign (h := ?_) | refine x_append0 (T := 47) (h := ?_) | refine x_append (T := 47) (h := ?_) | refine x_build (h := ?_))
     | ((with_reducible refine o_id 71 rfl ?_); refine x_call (hF := placeIn_fn _ _ _ hlen) (h := ?_))
     | (with_reducible refine x_q (h := ?_))
     | refine x_condt (h1 := ?_) | refine x_condf (h1 := ?_)
     | fail)
    all_goals try clear fx
    refine w_if (by simp []; first | done | rfl | exact (Bool.not_not _).symm) (fun ht => ?_) (fun hf => ?_)
    · have hm : (i : Int) ∈ xs := placeIn_nonneg.1 (by simpa using ht)
      have fx := And.intro h0 <| And.intro h4 <| And.intro h3 <| hp3
      refine k_run ?_
      clear fx
      refine ⟨8 - (i + 1), by omega, i + 1, rfl, by omega, ?_⟩
      simp [h0, h3, sortedTo, hm]
      exact wrp (by omega) (by omega)
    · have hm : ¬ (i : Int) ∈ xs := fun h => by simp [placeIn_nonneg.2 h] at hf
      have fx := And.intro h0 <| And.intro h4 <| And.intro h3 <| hp3
      refine k_run ?_
      clear fx
      refine ⟨8 - (i + 1), by omega, i + 1, rfl, by omega, ?_⟩
      simp [h0, h3, hp3, sortedTo, hm]
      exact wrp (by omega) (by omega)
  · have h8 : i = 8 := by
      have : ¬ (i : Int) ≤ 7 := by simpa using hf
      omega
    subst h8
    all_goals have fx := And.intro h0 <| And.intro h4 <| And.intro h3 <| hp3
    repeat' (first
     | refine w_seq ?_ | refine w_block ?_ | refine w_skip ?_ | refine w_reg fun K hK => ?_
     | ((with_reducible refine s_end hK ?_); clear hK K)
     | (with_reducible first | refine then_normal ?_ | refine in_normal ?_ | refine then_exit ?_ | refine in_exit ?_ | refine then_ret ?_ | refine in_ret ?_ | refine in_other (by decide) ?_)
     | refine w_exit ?_
     | refine w_ret ?_
     | (with_reducible first | refine s_none ?_ | refine x_assign (h := ?_) | refine x_append0 (T := 47) (h := ?_) | refine x_append (T := 47) (h := ?_) | refine x_build (h := ?_))
     | (with_reducible refine x_q (h := ?_))
     | refine x_condt (h1 := ?_) | refine x_condf (h1 := ?_)
     | fail)
    all_goals try clear fx
    exact e_list (t := 2) (by first | (simp [hp3]; done) | (simp [hp3]; rfl)) (by first | (simp [hp3]; done) | (simp [hp3]; rfl)) (by simp)
theorem readsOf_fn (gl) (s : Stm) : FnOk Tryd.prog gl 100 [Stm.av s] (fun r y H' => y = .hs r 1 0 s.reads.length ∧ H' r = some (.row 1 (irows s.reads))) := by
  refine FnOk.of_sem Tryd.func100 rfl (by kernel_rfl) (rs := [.tmp 2]) rfl Tryd.ntmps100 (Nat.le_of_ble_eq_true rfl) fun C w g root => ?_
  obtain ⟨kind, to, a, b⟩ := s
  all_goals have fx := fx0
  repeat' (first
   | refine w_seq ?_ | refine w_block ?_ | refine w_skip ?_ | refine w_reg fun K hK => ?_
   | ((with_reducible refine s_end hK ?_); clear hK K)
   | (with_reducible first | refine then_normal ?_ | refine then_ret ?_ | refine in_ret ?_)
   | refine w_ret ?_
   | (with_reducible first | refine s_none ?_ | refine x_assign (h := ?_) | refine x_box (h := ?_) | refine x_build (h := ?_))
   | (with_reducible refine x_q (h := ?_))
   | refine x_condt (h1 := ?_)
   | refine x_if (h1 := fun ht => ?_) (h2 := fun ht => ?_)
   | fail)
  all_goals try clear fx
  all_goals refine e_list (t := 2) ?_ ?_ ?_
  all_goals simp_all [Stm.reads, irows]
theorem sets_fn (gl) (s : Stm) : FnOk Tryd.prog gl 119 [Stm.av s] (fun _ x _ => x = bv (decide s.sets)) := by
  refine FnOk.of_sem Tryd.func119 rfl (by kernel_rfl) (rs := [.tmp 2]) rfl Tryd.ntmps119 (Nat.le_of_ble_eq_true rfl) fun C w g root => ?_
  all_goals have fx := fx0
  repeat' (first
   | refine w_seq ?_ | refine w_reg fun K hK => ?_
   | ((with_reducible refine s_end hK ?_); clear hK K)
   | (with_reducible first | refine then_normal ?_)
   | refine w_ret ?_
   | (with_reducible first | refine s_none ?_ | refine x_assign (h := ?_) | refine x_box (h := ?_))
   | ((with_reducible refine o_id 51 rfl ?_); refine x_call (hF := inRange_fn _ _ _ _) (h := ?_))
   | (with_reducible refine x_q (h := ?_))
   | fail)
  all_goals try clear fx
  refine e_ret [] .nil (by simp []; rfl) (by simp [])
theorem copyInts_fn (gl) (xs : List Int) (hlen : xs.length ≤ 4294967296) : FnOk Tryd.prog gl 91 [isl xs] (fun r y H' => y = .hs r 1 0 xs.length ∧ H' r = some (.row 1 (irows xs))) := by
  refine FnOk.of_sem Tryd.func91 rfl (by kernel_rfl) (rs := [.tmp 2]) rfl Tryd.ntmps91 (Nat.le_of_ble_eq_true rfl) fun C w g root => ?_
  have fx := fx0
  refine k_run ?_
  clear fx
  exact e_list (t := 2) (by first | (simp []; done) | (simp []; rfl)) (by first | (simp []; done) | (simp []; rfl)) (by simp)
theorem take_succ_readsAll {ss : List Stm} {s : Stm} {i : Nat} (h : ss[i]? = some s) : readsAll (ss.take (i + 1)) = readsAll (ss.take i) ++ s.reads := by
  rw [List.take_add_one, h]; simp [readsAll]
theorem read_fn (gl) (p : Prg) (b : Nat) (k : Blk) (hk : p[b]? = some k) (hlen : k.body.length ≤ 1048576) : FnOk Tryd.prog gl 128 [pav p, iv b] (fun r y H' => y = .hs r 1 0 (sorted (readsAll k.body)).length ∧ H' r = some (.row 1 (irows (sorted (readsAll k.body))))) := by
  refine FnOk.of_sem Tryd.func128 rfl (by kernel_rfl) (rs := [.tmp 4]) rfl Tryd.ntmps128 (Nat.le_of_ble_eq_true rfl) fun C w g root => ?_
  have fx := fx0
  refine k_run ?_
  clear fx
  refine w_loop (fun n st => ∃ i : Nat, n = k.body.length - i ∧ i ≤ k.body.length ∧ st.tm 1 = iv b ∧ st.tm 2 = .pt (.s 2) 0 ∧ st.hp (.s 2) = some (.row 1 [[ksl p]]) ∧ st.tm 6 = iv i ∧ st.tm 5 = .hs (.s 5) 1 0 (readsAll (k.body.take i)).length ∧ st.hp (.s 5) = some (.row 1 (irows (readsAll (k.body.take i))))) k.body.length ?_ ?_
  · exact ⟨0, by simp [readsAll]⟩
  rintro n st - - ⟨i, rfl, hi, h1, h2, hp2, h6, h5, hp5⟩
  have hrl := readsAll_len (k.body.take i)
  rw [List.length_take] at hrl
  have fx := And.intro h1 <| And.intro h2 <| And.intro hp2 <| And.intro h6 <| And.intro h5 <| And.intro hp5 <| hk
  refine k_run ?_
  clear fx
  refine w_if (by simp []; first | done | rfl | exact (Bool.not_not _).symm) (fun ht => ?_) (fun hf => ?_)
  · have hlt : i < k.body.length := by simpa using ht
    obtain ⟨s, hs⟩ : ∃ s, k.body[i]? = some s := ⟨_, gE hlt⟩
    have hsl := s.reads_len
    have fx := And.intro h1 <| And.intro h2 <| And.intro hp2 <| And.intro h6 <| And.intro h5 <| And.intro hp5 <| And.intro hk <| hs
    have d1 := readsOf_fn gl s
    refine k_run ?_
    clear fx d1
    refine ⟨k.body.length - (i + 1), by omega, i + 1, rfl, by omega, ?_⟩
    simp [h1, h2, hp2, h5, take_succ_readsAll hs]
    exact wrp (by omega) (by omega)
  · have h8 : i = k.body.length := by
      have : ¬ i < k.body.length := by simpa using hf
      omega
    subst h8
    have fx := And.intro h1 <| And.intro h2 <| And.intro hp2 <| And.intro h6 <| And.intro h5 <| And.intro hp5 <| hk
    have d1 := sorted_fn gl (readsAll k.body) (by rw [List.take_length] at hrl; omega)
    refine k_run ?_
    clear fx d1
    exact e_list (t := 4) (by first | (simp []; done) | (simp []; rfl)) (by first | (simp []; done) | (simp []; rfl)) (by simp)
end Go.Proofs.YtmaoicgfcngciaaDoor
end
section
namespace Go.Proofs.YtmaoicgfcngciaaDoor
open Go Go.Hm Go.Proofs
attribute [local simp] slcAV
theorem digs_at : ∀ n, n < 10 → ([48, 49, 50, 51, 52, 53, 54, 55, 56, 57] : Txt).drop n = dg n :: ([48, 49, 50, 51, 52, 53, 54, 55, 56, 57] : Txt).drop (n + 1) := by decide
theorem numN_len (n : Nat) : (numN n).length ≤ n + 1 := by
  induction n using Nat.strongRecOn with
  | _ n ih =>
    rw [numN]
    split
    · simp
    · have := ih (n / 10) (by omega)
      simp
      omega
theorem number_nat (gl) : ∀ (k n : Nat), n ≤ k → n < 1152921504606846976 → FnOk Tryd.prog gl 55 [iv n] (fun _ y _ => y = tx (numN n)) := by
  intro k
  induction k with
  | zero =>
    intro n hk hn
    obtain rfl : n = 0 := by omega
    have hw1 : IntKind.i64.wrap 1 = 1 := wrp (by omega) (by omega)
    refine FnOk.of_sem Tryd.func55 rfl (by kernel_rfl) (rs := [.tmp 2]) rfl Tryd.ntmps55 (Nat.le_of_ble_eq_true rfl) fun C w g root => ?_
    have fx :=  hw1
    refine k_run ?_
    clear fx
    refine e_ret [] .nil (by simp; rfl) ?_
    simp [numN]
    rfl
  | succ k ih =>
    intro n hk hn
    have hw1 : IntKind.i64.wrap ((n : Int) + 1) = n + 1 := wrp (by omega) (by omega)
    have n0 : ¬ (n : Int) < 0 := by omega
    by_cases h : n < 10
    · have hd := digs_at n h
      have hi : (n : Int) < 10 := by omega
      have h1 : (n : Int) ≤ 9 := by omega
      have h2 : ((n : Int) + 1).toNat = n + 1 := by omega
      have h3 : (n : Int) ≤ (n : Int) + 1 := by omega
      have h4 : (n : Int) + 1 ≤ 10 := by omega
      have h5 : (0 : Int) ≤ (n : Int) := by omega
      have h6 : n + 1 - n = 1 := by omega
      refine FnOk.of_sem Tryd.func55 rfl (by kernel_rfl) (rs := [.tmp 2]) rfl Tryd.ntmps55 (Nat.le_of_ble_eq_true rfl) fun C w g root => ?_
      have fx := And.intro hw1 <| And.intro n0 <| And.intro hi <| And.intro h1 <| And.intro h2 <| And.intro h3 <| And.intro h4 <| And.intro h5 <| And.intro h6 <| hd
      refine k_run ?_
      clear fx
      refine e_ret [] .nil (by simp; rfl) ?_
      rw [numN, if_pos h]
      simp
    · have hi : ¬ (n : Int) < 10 := by omega
      obtain ⟨q, hq⟩ : ∃ q, q = n / 10 := ⟨_, rfl⟩
      obtain ⟨r, hr⟩ : ∃ r, r = n % 10 := ⟨_, rfl⟩
      have hwq : IntKind.i64.wrap ((n : Int) / 10) = (q : Int) := by
        rw [show (n : Int) / 10 = (q : Int) by omega]
        exact wrp (by omega) (by omega)
      have hwr : (n : Int).tmod 10 = (r : Int) := by
        rw [hr]
        rfl
      have q1 := ih q (by omega) (by omega)
      have q2 := ih r (by omega) (by omega)
      have hl1 := numN_len q
      have hl2 := numN_len r
      have hl : (numN q).length + (numN r).length ≤ 9223372036854775807 := by omega
      refine FnOk.of_sem Tryd.func55 rfl (by kernel_rfl) (rs := [.tmp 2]) rfl Tryd.ntmps55 (Nat.le_of_ble_eq_true rfl) fun C w g root => ?_
      have fx := And.intro n0 <| And.intro hi <| And.intro hwq <| And.intro hwr <| hl
      have c1 := q1
      have c2 := q2
      refine k_run ?_
      clear fx c1 c2
      refine e_ret [] .nil (by simp; rfl) ?_
      rw [numN_small (n := r) (by omega)]
      conv => rhs; rw [numN, if_neg h, ← hq, ← hr]
      simp
theorem number_fn (gl) (n : Int) (h0 : -1000000 ≤ n) (h1 : n ≤ 1000000) : FnOk Tryd.prog gl 55 [iv n] (fun _ y _ => y = tx (numI n)) := by
  by_cases h : n < 0
  · obtain ⟨k, rfl⟩ : ∃ k : Nat, n = -(k : Int) := ⟨(-n).toNat, by omega⟩
    have q := number_nat gl k k (Nat.le_refl _) (by omega)
    have hl1 := numN_len k
    have hl : (numN k).length + 1 ≤ 9223372036854775807 := by omega
    have hl' : 1 + (numN k).length ≤ 9223372036854775807 := by omega
    have hk0 : 0 < k := by omega
    have hk1 : ¬ k = 0 := by omega
    have hne : ¬ -(k : Int) = (k : Int) := by omega
    have hwn : IntKind.i64.wrap (k : Int) = k := wrp (by omega) (by omega)
    refine FnOk.of_sem Tryd.func55 rfl (by kernel_rfl) (rs := [.tmp 2]) rfl Tryd.ntmps55 (Nat.le_of_ble_eq_true rfl) fun C w g root => ?_
    have fx := And.intro hwn <| And.intro hk0 <| And.intro hk1 <| And.intro hne <| And.intro hl <| hl'
    have c1 := q
    refine k_run ?_
    clear fx c1
    refine e_ret [] .nil (by simp; rfl) ?_
    simp [numI, h, hk1]
  · obtain ⟨k, rfl⟩ : ∃ k : Nat, n = (k : Int) := ⟨n.toNat, by omega⟩
    rw [numI_nat]
    exact number_nat gl k k (Nat.le_refl _) (by omega)
end Go.Proofs.YtmaoicgfcngciaaDoor
end
section
namespace Go.Proofs.YtmaoicgfcngciaaDoor
open Go Go.Hm Go.Proofs
theorem bound_fn (gl) (p : Prg) (b : Nat) (k : Blk) (hk : p[b]? = some k) (hs : BSm k) : FnOk Tryd.prog gl 102 [pav p, iv b] (fun r y H' => y = .hs r 1 0 k.bd.length ∧ H' r = some (.row 1 (irows k.bd))) := by
  obtain ⟨hl1, hl2⟩ := hs
  refine FnOk.of_sem Tryd.func102 rfl (by kernel_rfl) (rs := [.tmp 4]) rfl Tryd.ntmps102 (Nat.le_of_ble_eq_true rfl) fun C w g root => ?_
  have fx :=  hk
  have d1 := copyInts_fn gl k.params (by omega)
  refine k_run ?_
  clear fx d1
  refine w_loop (fun n st => ∃ i : Nat, n = k.body.length - i ∧ i ≤ k.body.length ∧ st.tm 1 = iv b ∧ st.tm 2 = .pt (.s 2) 0 ∧ st.hp (.s 2) = some (.row 1 [[ksl p]]) ∧ st.tm 6 = iv i ∧ ∃ xs : List Int, xs = k.params ++ ((k.body.take i).filter (fun s => decide (s.sets ∨ s.kind = 11))).map Stm.to ∧ xs.length ≤ k.params.length + i ∧ st.tm 5 = .hs (.s 5) 1 0 xs.length ∧ st.hp (.s 5) = some (.row 1 (irows xs))) k.body.length ?_ ?_
  · exact ⟨0, by simp⟩
  rintro n st - - ⟨i, rfl, hi, h1, h2, hp2, h6, xs, hxs, hxl, h5, hp5⟩
  have fx := And.intro h1 <| And.intro h2 <| And.intro hp2 <| And.intro h6 <| And.intro h5 <| And.intro hp5 <| hk
  refine k_run ?_
  clear fx
  refine w_if (by simp []; first | done | rfl | exact (Bool.not_not _).symm) (fun ht => ?_) (fun hf => ?_)
  · have hlt : i < k.body.length := by simpa using ht
    obtain ⟨s, hs⟩ : ∃ s, k.body[i]? = some s := ⟨_, gE hlt⟩
    by_cases hc : s.sets <;> cases h11 : (s.kind == 11)
    all_goals have fx := And.intro h1 <| And.intro h2 <| And.intro hp2 <| And.intro h6 <| And.intro h5 <| And.intro hp5 <| And.intro hk <| And.intro hs <| And.intro hc <| h11
    repeat' (first
     | refine w_seq ?_ | refine w_block ?_ | refine w_skip ?_ | refine w_reg fun K hK => ?_
     | ((with_reducible refine s_end hK ?_); clear hK K)
     | (with_reducible first | refine then_normal ?_ | refine in_normal ?_ | refine then_exit ?_ | refine in_exit ?_ | refine then_ret ?_ | refine in_ret ?_ | refine in_other (by decide) ?_)
     | refine w_exit ?_
     | refine w_ret ?_
     | (with_reducible refine s_none ?_)
     | ((with_reducible refine g_id ?_); refine x_guard (h := ?_))
     | (with_reducible first | refine gx_tt ?_ | refine gx_ff ?_ | refine x_tf (h := ?_) | refine x_ft (h := ?_) | refine x_u (h := ?_) | refine x_assign (h := ?_) | refine x_box (h := ?_) | refine x_alloc (h := ?_) | refine x_store0 (h := ?_) | refine x_append0 (T := 47) (h := ?_) | refine x_append (T := 47) (h := ?_) | refine x_build (h := ?_))
     | ((with_reducible refine o_id 119 rfl ?_); refine x_call (hF := sets_fn _ s) (h := ?_))
     | (with_reducible refine x_q (h := ?_))
     | (with_reducible refine gx_s (fun ht => ?_) (fun ht => ?_))
     | refine x_condt (h1 := ?_) | refine x_condf (h1 := ?_)
     | fail)
    all_goals try clear fx
    all_goals refine ⟨k.body.length - (i + 1), by omega, i + 1, rfl, by omega, by simp [h1], by simp [h2], by simp [hp2], by simp; exact wrp (by omega) (by omega), _, rfl, ?_⟩
    all_goals simp at h11
    all_goals simp [take_succ_filter hs, hc, h11, h5, hp5, hxs]
    all_goals (rw [hxs] at hxl; simp at hxl; omega)
  · have h8 : i = k.body.length := by
      have : ¬ i < k.body.length := by simpa using hf
      omega
    subst h8
    have hb : boundAll k = xs := by rw [hxs]; simp [boundAll]
    have fx := And.intro h1 <| And.intro h2 <| And.intro hp2 <| And.intro h6 <| And.intro h5 <| And.intro hp5 <| hk
    have d1 := sorted_fn gl xs (by omega)
    refine k_run ?_
    clear fx d1
    rw [← hb]
    exact e_list (t := 4) (by first | (simp []; done) | (simp []; rfl)) (by first | (simp []; done) | (simp []; rfl)) (by simp)
theorem declared_fn (gl) (p : Prg) (b : Nat) (k : Blk) (d : Int) (hk : p[b]? = some k) (hs : BSm k) : FnOk Tryd.prog gl 37 [pav p, iv b, iv d] (fun r y H' => y = .hs r 1 0 (k.dc d).length ∧ H' r = some (.row 1 (irows (k.dc d)))) := by
  obtain ⟨hl1, hl2⟩ := hs
  refine FnOk.of_sem Tryd.func37 rfl (by kernel_rfl) (rs := [.tmp 6]) rfl Tryd.ntmps37 (Nat.le_of_ble_eq_true rfl) fun C w g root => ?_
  have fx :=  hk
  refine k_run ?_
  clear fx
  refine w_loop (fun n st => ∃ i : Nat, n = k.body.length - i ∧ i ≤ k.body.length ∧ st.tm 1 = iv b ∧ st.tm 2 = iv d ∧ st.tm 3 = .pt (.s 3) 0 ∧ st.hp (.s 3) = some (.row 1 [[ksl p]]) ∧ st.tm 8 = iv i ∧ ∃ xs : List Int, xs = ((k.body.take i).filter (fun s => decide (s.kind = d))).map Stm.to ∧ xs.length ≤ i ∧ st.tm 7 = .hs (.s 7) 1 0 xs.length ∧ st.hp (.s 7) = some (.row 1 (irows xs))) k.body.length ?_ ?_
  · exact ⟨0, by simp⟩
  rintro n st - - ⟨i, rfl, hi, h1, h2, h3, hp3, h8, xs, hxs, hxl, h7, hp7⟩
  have fx := And.intro h1 <| And.intro h2 <| And.intro h3 <| And.intro hp3 <| And.intro h8 <| And.intro h7 <| And.intro hp7 <| hk
  refine k_run ?_
  clear fx
  refine w_if (by simp []; first | done | rfl | exact (Bool.not_not _).symm) (fun ht => ?_) (fun hf => ?_)
  · have hlt : i < k.body.length := by simpa using ht
    obtain ⟨s, hs⟩ : ∃ s, k.body[i]? = some s := ⟨_, gE hlt⟩
    cases hc : (s.kind == d)
    all_goals have fx := And.intro h1 <| And.intro h2 <| And.intro h3 <| And.intro hp3 <| And.intro h8 <| And.intro h7 <| And.intro hp7 <| And.intro hk <| And.intro hs <| hc
    repeat' (first
     | refine w_seq ?_ | refine w_block ?_ | refine w_skip ?_ | refine w_reg fun K hK => ?_
     | ((with_reducible refine s_end hK ?_); clear hK K)
     | (with_reducible first | refine then_normal ?_ | refine in_normal ?_ | refine then_exit ?_ | refine in_exit ?_ | refine then_ret ?_ | refine in_ret ?_ | refine in_other (by decide) ?_)
     | refine w_exit ?_
     | refine w_ret ?_
     | (with_reducible first | refine s_none ?_ | refine x_assign (h := ?_) | refine x_box (h := ?_) | refine x_append0 (T := 47) (h := ?_) | refine x_append (T := 47) (h := ?_) | refine x_build (h := ?_))
     | (with_reducible refine x_q (h := ?_))
     | refine x_condt (h1 := ?_) | refine x_condf (h1 := ?_)
     | fail)
    all_goals try clear fx
    all_goals refine ⟨k.body.length - (i + 1), by omega, i + 1, rfl, by omega, by simp [h1], by simp [h2], by simp [h3], by simp [hp3], by simp; exact wrp (by omega) (by omega), _, rfl, ?_⟩
    all_goals simp at hc
    all_goals simp [take_succ_filter hs, hc, h7, hp7, hxs]
    all_goals (rw [hxs] at hxl; simp at hxl; omega)
  · have h8 : i = k.body.length := by
      have : ¬ i < k.body.length := by simpa using hf
      omega
    subst h8
    have hb : declAll k d = xs := by rw [hxs]; simp [declAll]
    have fx := And.intro h1 <| And.intro h2 <| And.intro h3 <| And.intro hp3 <| And.intro h8 <| And.intro h7 <| And.intro hp7 <| hk
    have d1 := sorted_fn gl xs (by omega)
    refine k_run ?_
    clear fx d1
    simp only [Blk.dc, hb]
    exact e_list (t := 6) (by first | (simp []; done) | (simp []; rfl)) (by first | (simp []; done) | (simp []; rfl)) (by simp)
theorem isLocal_fn (gl) (p : Prg) (b : Nat) (k : Blk) (x : Int) (hk : p[b]? = some k) (hs : BSm k) : FnOk Tryd.prog gl 72 [pav p, iv b, iv x] (fun _ y _ => y = bv (isLocal b k x)) := by
  refine FnOk.of_sem Tryd.func72 rfl (by kernel_rfl) (rs := [.tmp 6]) rfl Tryd.ntmps72 (Nat.le_of_ble_eq_true rfl) fun C w g root => ?_
  all_goals have fx :=  hk
  repeat' (first
   | refine w_seq ?_ | refine w_reg fun K hK => ?_
   | ((with_reducible refine s_end hK ?_); clear hK K)
   | (with_reducible first | refine then_normal ?_)
   | refine w_ret ?_
   | (with_reducible refine s_none ?_)
   | ((with_reducible refine g_id ?_); refine x_guard (h := ?_))
   | (with_reducible first | refine gx_tt ?_ | refine x_tf (h := ?_) | refine x_assign (h := ?_) | refine x_box (h := ?_))
   | ((with_reducible refine o_id 102 rfl ?_); refine x_callh (hF := bound_fn _ p b k hk hs) (h := ?_))
   | ((with_reducible refine o_id 38 rfl ?_); refine x_call (hF := has_fn _ _ _ (by first | exact Nat.le_trans (Blk.bd_len _) (by decide) | exact Nat.le_trans (Blk.dc_len _ _) (by decide) | exact Nat.le_trans (Blk.rd_len _) (by decide))) (h := ?_))
   | ((with_reducible refine o_id 37 rfl ?_); refine x_callh (hF := declared_fn _ p b k _ hk hs) (h := ?_))
   | (with_reducible refine x_q (h := ?_))
   | (with_reducible refine gx_s (fun ht => ?_) (fun ht => ?_))
   | fail)
  all_goals try clear fx
  all_goals refine e_ret [] .nil (by simp; rfl) ?_
  all_goals simp_all [isLocal]
end Go.Proofs.YtmaoicgfcngciaaDoor
end
section
namespace Go.Proofs.YtmaoicgfcngciaaDoor
open Go Go.Hm Go.Proofs
theorem outer_fn (gl) (p : Prg) (b : Nat) (k : Blk) (x : Int) (hk : p[b]? = some k) (hs : Sml p) (hh : Heads p) : FnOk Tryd.prog gl 39 [pav p, iv b, iv x] (fun _ y _ => y = iv (outer p b x)) := by
  refine FnOk.of_sem Tryd.func39 rfl (by kernel_rfl) (rs := [.tmp 6]) rfl Tryd.ntmps39 (Nat.le_of_ble_eq_true rfl) fun C w g root => ?_
  have fx :=  hk
  refine k_run ?_
  clear fx
  obtain ⟨hk1, hk2, _⟩ := hh b k hk
  have hbl : b < p.length := (gS hk).1
  refine w_loop (fun n st => ∃ j : Int, n = (j + 1).toNat ∧ -1 ≤ j ∧ j < p.length ∧ outerF p x p.length j = outer p b x ∧ st.tm 2 = iv x ∧ st.tm 3 = .pt (.s 3) 0 ∧ st.hp (.s 3) = some (.row 1 [[ksl p]]) ∧ st.tm 7 = iv j) (k.parent + 1).toNat ?_ ?_
  · exact ⟨k.parent, rfl, hk1, by omega, (outer_fuel hh hk).symm, by simp⟩
  rintro n st - - ⟨j, rfl, hj1, hj2, ho, h2, h3, hp3, h7⟩
  have fx := And.intro h2 <| And.intro h3 <| And.intro hp3 <| h7
  refine k_run ?_
  clear fx
  refine w_if (by simp []; first | done | rfl | exact (Bool.not_not _).symm) (fun ht => ?_) (fun hf => ?_)
  · have hj0 : 0 < j := by simpa using ht
    obtain ⟨j, rfl⟩ : ∃ i : Nat, j = i := ⟨j.toNat, by omega⟩
    have hj0 : 0 < j := by omega
    obtain ⟨q, hq⟩ : ∃ q, p[j]? = some q := ⟨_, gE (by omega)⟩
    rw [outerF_step hh hq hj0] at ho
    obtain ⟨hq1, hq2, hq3⟩ := hh j q hq
    cases hc : (q.kind == 1)
    · skip
      have fx := And.intro h2 <| And.intro h3 <| And.intro hp3 <| And.intro h7 <| And.intro hq <| And.intro hc <| @bne_def
      refine k_run ?_
      clear fx
      refine ⟨(q.parent + 1).toNat, by omega, q.parent, rfl, hq1, by omega, ?_, by simp [h2, h3, hp3]⟩
      rw [← ho, if_pos (by simpa using hc)]
    · rw [if_neg (by simpa using hc)] at ho
      all_goals have fx := And.intro h2 <| And.intro h3 <| And.intro hp3 <| And.intro h7 <| And.intro hq <| And.intro hc <| @bne_def
      repeat' (first
       | refine w_seq ?_ | refine w_block ?_ | refine w_skip ?_ | refine w_reg fun K hK => ?_
       | ((with_reducible refine s_end hK ?_); clear hK K)
       | (with_reducible first | refine then_normal ?_ | refine in_normal ?_ | refine then_exit ?_ | refine in_exit ?_ | refine then_ret ?_ | refine in_ret ?_ | refine in_other (by decide) ?_)
       | refine w_exit ?_
       | refine w_ret ?_
       | (with_reducible first | refine s_none ?_ | refine x_assign (h := ?_) | refine x_box (h := ?_))
       | ((with_reducible refine o_id 37 rfl ?_); refine x_callh (hF := declared_fn _ p j q _ hq (hs.bsm hq)) (h := ?_))
       | ((with_reducible refine o_id 38 rfl ?_); refine x_call (hF := has_fn _ _ _ (Nat.le_trans (Blk.dc_len _ _) (by decide))) (h := ?_))
       | (with_reducible refine x_q (h := ?_))
       | refine x_condt (h1 := ?_) | refine x_condf (h1 := ?_)
       | fail)
      all_goals try clear fx
      refine w_if (by simp []; first | done | rfl | exact (Bool.not_not _).symm) (fun ht => ?_) (fun hf => ?_)
      · have hm : x ∈ q.dc 9 := by simpa using ht
        rw [if_pos hm] at ho
        have fx := And.intro h2 <| And.intro h3 <| And.intro hp3 <| And.intro h7 <| hq
        refine k_run ?_
        clear fx
        refine e_ret [] .nil (by simp []; rfl) (by simp [← ho])
      · have hm : ¬ x ∈ q.dc 9 := by simpa using hf
        rw [if_neg hm] at ho
        have fx := And.intro h2 <| And.intro h3 <| And.intro hp3 <| And.intro h7 <| hq
        have c1 := isLocal_fn gl p j q x hq (hs.bsm hq)
        refine k_run ?_
        clear fx c1
        refine w_if (by simp []; first | done | rfl | exact (Bool.not_not _).symm) (fun ht => ?_) (fun hf => ?_)
        · rw [if_pos ht] at ho
          have fx := And.intro h2 <| And.intro h3 <| And.intro hp3 <| And.intro h7 <| hq
          refine k_run ?_
          clear fx
          refine e_ret [] .nil (by simp []; rfl) (by simp [← ho])
        · rw [if_neg (by simp [hf])] at ho
          have fx := And.intro h2 <| And.intro h3 <| And.intro hp3 <| And.intro h7 <| hq
          refine k_run ?_
          clear fx
          refine ⟨(q.parent + 1).toNat, by omega, q.parent, rfl, hq1, by omega, ho, by simp [h2, h3, hp3]⟩
  · have hj : j ≤ 0 := by simpa using hf
    rw [outerF_end hj] at ho
    have fx := fx0
    refine k_run ?_
    clear fx
    refine e_ret [] .nil (by simp []; rfl) (by simp [← ho])
theorem owner_fn (gl) (p : Prg) (b : Nat) (k : Blk) (x : Int) (hk : p[b]? = some k) (hs : Sml p) (hh : Heads p) : FnOk Tryd.prog gl 115 [pav p, iv b, iv x] (fun _ y _ => y = iv (owner p b x)) := by
  refine FnOk.of_sem Tryd.func115 rfl (by kernel_rfl) (rs := [.tmp 6]) rfl Tryd.ntmps115 (Nat.le_of_ble_eq_true rfl) fun C w g root => ?_
  all_goals have fx :=  hk
  repeat' (first
   | refine w_seq ?_ | refine w_skip ?_ | refine w_reg fun K hK => ?_
   | ((with_reducible refine s_end hK ?_); clear hK K)
   | (with_reducible first | refine then_normal ?_ | refine then_ret ?_)
   | refine w_ret ?_
   | (with_reducible refine s_none ?_)
   | ((with_reducible refine g_id ?_); refine x_guard (h := ?_))
   | (with_reducible first | refine gx_ff ?_ | refine x_ft (h := ?_) | refine x_assign (h := ?_) | refine x_box (h := ?_))
   | ((with_reducible refine o_id 37 rfl ?_); refine x_callh (hF := declared_fn _ p b k _ hk (hs.bsm hk)) (h := ?_))
   | ((with_reducible refine o_id 38 rfl ?_); refine x_call (hF := has_fn _ _ _ (Nat.le_trans (Blk.dc_len _ _) (by decide))) (h := ?_))
   | ((with_reducible refine o_id 72 rfl ?_); refine x_call (hF := isLocal_fn _ p b k x hk (hs.bsm hk)) (h := ?_))
   | ((with_reducible refine o_id 39 rfl ?_); refine x_call (hF := outer_fn _ p b k x hk hs hh) (h := ?_))
   | (with_reducible refine x_q (h := ?_))
   | (with_reducible refine gx_s (fun ht => ?_) (fun ht => ?_))
   | refine x_condt (h1 := ?_)
   | refine x_if (h1 := fun ht => ?_) (h2 := fun ht => ?_)
   | fail)
  all_goals try clear fx
  all_goals refine e_ret [] .nil (by simp; rfl) ?_
  all_goals simp_all [owner]
theorem madeAs_fn (gl) (p : Prg) (b : Nat) (j kind : Int) (hs : Sml p) (hb : b < p.length) : FnOk Tryd.prog gl 101 [pav p, iv b, iv j, iv kind] (fun _ y _ => y = bv (madeAs p b j kind)) := by
  have hpl := hs.len
  have w1 : IntKind.i64.wrap ((b : Int) + 1) = b + 1 := wrp (by omega) (by omega)
  have w2 : IntKind.i64.wrap ((p.length : Int) - 1) = p.length - 1 := wrp (by omega) (by omega)
  refine FnOk.of_sem Tryd.func101 rfl (by kernel_rfl) (rs := [.tmp 8]) rfl Tryd.ntmps101 (Nat.le_of_ble_eq_true rfl) fun C w g root => ?_
  by_cases hj : (b : Int) + 1 ≤ j ∧ j ≤ (p.length : Int) - 1
  · obtain ⟨j, rfl⟩ : ∃ i : Nat, j = i := ⟨j.toNat, by omega⟩
    obtain ⟨q, hq⟩ : ∃ q, p[j]? = some q := ⟨_, gE (by omega)⟩
    all_goals have fx := And.intro hq <| And.intro w1 <| And.intro w2 <| hj
    repeat' (first
     | refine w_seq ?_ | refine w_reg fun K hK => ?_
     | ((with_reducible refine s_end hK ?_); clear hK K)
     | (with_reducible first | refine then_normal ?_)
     | refine w_ret ?_
     | (with_reducible refine s_none ?_)
     | ((with_reducible refine g_id ?_); refine x_guard (h := ?_))
     | (with_reducible first | refine gx_tt ?_ | refine x_tf (h := ?_) | refine x_assign (h := ?_) | refine x_box (h := ?_))
     | ((with_reducible refine o_id 51 rfl ?_); refine x_call (hF := inRange_fn _ _ _ _) (h := ?_))
     | (with_reducible refine x_q (h := ?_))
     | (with_reducible refine gx_s (fun ht => ?_) (fun ht => ?_))
     | fail)
    all_goals try clear fx
    all_goals refine e_ret [] .nil (by simp; rfl) ?_
    all_goals simp_all [madeAs]
  · have hj' : (decide ((b : Int) + 1 ≤ j) && decide (j ≤ (p.length : Int) - 1)) = false := by simpa using hj
    all_goals have fx := And.intro w1 <| And.intro w2 <| hj'
    repeat' (first
     | refine w_seq ?_ | refine w_reg fun K hK => ?_
     | ((with_reducible refine s_end hK ?_); clear hK K)
     | (with_reducible first | refine then_normal ?_)
     | refine w_ret ?_
     | (with_reducible refine s_none ?_)
     | ((with_reducible refine g_id ?_); refine x_guard (h := ?_))
     | (with_reducible first | refine x_tf (h := ?_) | refine x_assign (h := ?_) | refine x_box (h := ?_))
     | ((with_reducible refine o_id 51 rfl ?_); refine x_call (hF := inRange_fn _ _ _ _) (h := ?_))
     | (with_reducible refine x_q (h := ?_))
     | fail)
    all_goals try clear fx
    all_goals refine e_ret [] .nil (by simp; rfl) ?_
    all_goals simp_all [madeAs]
    intro h1 h2
    exact absurd (hj h1) (by omega)
theorem validBlock_fn (gl) (p : Prg) (b : Nat) (k : Blk) (hk : p[b]? = some k) (hb : b < p.length) (hs : Sml p) : FnOk Tryd.prog gl 67 [pav p, iv b] (fun _ y _ => y = bv (decide (HeadOk b k))) := by
  have hpl := hs.len
  have w2 : IntKind.i64.wrap ((b : Int) - 1) = b - 1 := wrp (by omega) (by omega)
  refine FnOk.of_sem Tryd.func67 rfl (by kernel_rfl) (rs := [.tmp 4]) rfl Tryd.ntmps67 (Nat.le_of_ble_eq_true rfl) fun C w g root => ?_
  obtain ⟨kind, parent, params, body⟩ := k
  by_cases hp : 2 ≤ params.length
  · have c0 : ((params.length : Int) == 0) = false := by simp only [beq_eq_false_iff_ne, ne_eq]; omega
    have c1 : ((params.length : Int) == 1) = false := by simp only [beq_eq_false_iff_ne, ne_eq]; omega
    all_goals have fx := And.intro hk <| And.intro w2 <| And.intro c0 <| c1
    repeat' (first
     | refine w_seq ?_ | refine w_skip ?_ | refine w_reg fun K hK => ?_
     | ((with_reducible refine s_end hK ?_); clear hK K)
     | (with_reducible first | refine then_normal ?_ | refine then_ret ?_)
     | refine w_ret ?_
     | (with_reducible refine s_none ?_)
     | ((with_reducible refine g_id ?_); refine x_guard (h := ?_))
     | (with_reducible first | refine gx_tt ?_ | refine gx_ff ?_ | refine x_tf (h := ?_) | refine x_ft (h := ?_) | refine x_assign (h := ?_) | refine x_box (h := ?_) | refine x_alloc (h := ?_) | refine x_store0 (h := ?_))
     | ((with_reducible refine o_id 51 rfl ?_); refine x_call (hF := inRange_fn _ _ _ _) (h := ?_))
     | (with_reducible refine x_q (h := ?_))
     | (with_reducible refine gx_s (fun ht => ?_) (fun ht => ?_))
     | refine x_condt (h1 := ?_)
     | refine x_if (h1 := fun ht => ?_) (h2 := fun ht => ?_)
     | fail)
    all_goals try clear fx
    all_goals refine e_ret [] .nil (by simp; rfl) ?_
    all_goals simp_all [HeadOk]
    all_goals (intros; omega)
  · rcases params with _ | ⟨x, _ | ⟨y, l⟩⟩
    rotate_left 2
    · simp at hp
    all_goals have fx := And.intro hk <| w2
    repeat' (first
     | refine w_seq ?_ | refine w_skip ?_ | refine w_reg fun K hK => ?_
     | ((with_reducible refine s_end hK ?_); clear hK K)
     | (with_reducible first | refine then_normal ?_ | refine then_ret ?_)
     | refine w_ret ?_
     | (with_reducible refine s_none ?_)
     | ((with_reducible refine g_id ?_); refine x_guard (h := ?_))
     | (with_reducible first | refine gx_tt ?_ | refine gx_ff ?_ | refine x_tf (h := ?_) | refine x_ft (h := ?_) | refine x_u (h := ?_) | refine x_assign (h := ?_) | refine x_box (h := ?_) | refine x_alloc (h := ?_) | refine x_store0 (h := ?_))
     | ((with_reducible refine o_id 51 rfl ?_); refine x_call (hF := inRange_fn _ _ _ _) (h := ?_))
     | ((with_reducible refine o_id 99 rfl ?_); refine x_call (hF := spec_isName_fn _ _) (h := ?_))
     | (with_reducible refine x_q (h := ?_))
     | (with_reducible refine gx_s (fun ht => ?_) (fun ht => ?_))
     | refine x_condt (h1 := ?_)
     | refine x_if (h1 := fun ht => ?_) (h2 := fun ht => ?_)
     | fail)
    all_goals try clear fx
    all_goals refine e_ret [] .nil (by simp; rfl) ?_
    all_goals simp_all [HeadOk]
    all_goals (intros; omega)
end Go.Proofs.YtmaoicgfcngciaaDoor
end
section
namespace Go.Proofs.YtmaoicgfcngciaaDoor
open Go Go.Hm Go.Proofs
theorem validStmt_fn (gl) (p : Prg) (b : Nat) (k : Blk) (s : Stm) (hk : p[b]? = some k) (hs : Sml p) (hb : b < p.length) : FnOk Tryd.prog gl 68 [pav p, iv b, Stm.av s] (fun _ y _ => y = bv (StmOk p b k s)) := by
  refine FnOk.of_sem Tryd.func68 rfl (by kernel_rfl) (rs := [.tmp 6]) rfl Tryd.ntmps68 (Nat.le_of_ble_eq_true rfl) fun C w g root => ?_
  obtain ⟨kind, to, a, c⟩ := s
  all_goals have fx :=  hk
  repeat' (first
   | refine w_seq ?_ | refine w_block ?_ | refine w_skip ?_ | refine w_reg fun K hK => ?_
   | ((with_reducible refine s_end hK ?_); clear hK K)
   | (with_reducible first | refine then_normal ?_ | refine then_ret ?_)
   | refine w_ret ?_
   | (with_reducible refine s_none ?_)
   | (with_reducible first | refine x_assign (h := ?_) | refine x_box (h := ?_))
   | ((with_reducible refine o_id 100 rfl ?_); refine x_callh (hF := readsOf_fn _ ⟨kind, to, a, c⟩) (h := ?_))
   | ((with_reducible refine o_id 99 rfl ?_); refine x_call (hF := spec_isName_fn _ _) (h := ?_))
   | (with_reducible refine x_q (h := ?_))
   | refine x_if (h1 := fun ht => ?_) (h2 := fun ht => ?_)
   | fail)
  all_goals try clear fx
  · have hto : isNm to = false := by
      rw [Bool.eq_false_iff]
      intro h
      simp at h ht
      omega
    refine e_ret [] .nil (by simp; rfl) ?_
    simp only [StmOk, hto]
    rfl
  have hto : isNm to = true := by simpa using ht
  generalize hr : Stm.reads ⟨kind, to, a, c⟩ = rs
  have hrl : rs.length ≤ 2 := hr ▸ Stm.reads_len _
  refine w_loop (fun n st => ∃ i : Nat, n = rs.length - i ∧ i ≤ rs.length ∧ st.tm 1 = iv b ∧ st.tm 3 = .pt (.s 3) 0 ∧ st.hp (.s 3) = some (.row 1 [[ksl p]]) ∧ st.tm 5 = .pt (.s 5) 0 ∧ st.hp (.s 5) = some (.row 4 [[iv kind, iv to, iv a, iv c]]) ∧ st.tm 8 = iv i ∧ st.tm 7 = .hs (.s 7) 1 0 rs.length ∧ st.hp (.s 7) = some (.row 1 (irows rs)) ∧ (rs.take i).all isNm = true) rs.length ?_ ?_
  · exact ⟨0, by simp [hr]⟩
  rintro n st - - ⟨i, rfl, hi, h1, h3, hp3, h5, hp5, h8, h7, hp7, hal⟩
  all_goals have fx := And.intro h1 <| And.intro h3 <| And.intro hp3 <| And.intro h5 <| And.intro hp5 <| And.intro h8 <| And.intro h7 <| hp7
  repeat' (first
   | refine w_seq ?_ | refine w_reg fun K hK => ?_
   | ((with_reducible refine s_end hK ?_); clear hK K)
   | (with_reducible first | refine then_normal ?_)
   | (with_reducible refine s_none ?_)
   | (with_reducible refine x_q (h := ?_))
   | fail)
  all_goals try clear fx
  refine w_if (by simp []; first | done | rfl | exact (Bool.not_not _).symm) (fun ht => ?_) (fun hf => ?_)
  · have hlt : i < rs.length := by simpa using ht
    obtain ⟨y, hy⟩ : ∃ y, rs[i]? = some y := ⟨_, gE hlt⟩
    obtain ⟨_, hy'⟩ := gS hy
    all_goals have fx := And.intro h1 <| And.intro h3 <| And.intro hp3 <| And.intro h5 <| And.intro hp5 <| And.intro h8 <| And.intro h7 <| And.intro hp7 <| And.intro hy' <| hlt
    repeat' (first
     | refine w_seq ?_ | refine w_block ?_ | refine w_skip ?_ | refine w_reg fun K hK => ?_
     | ((with_reducible refine s_end hK ?_); clear hK K)
     | (with_reducible first | refine then_normal ?_ | refine then_ret ?_ | refine in_ret ?_)
     | refine w_ret ?_
     | (with_reducible refine s_none ?_)
     | (with_reducible first | refine x_assign (h := ?_))
     | ((with_reducible refine o_id 99 rfl ?_); refine x_call (hF := spec_isName_fn _ _) (h := ?_))
     | (with_reducible refine x_q (h := ?_))
     | refine x_if (h1 := fun ht => ?_) (h2 := fun ht => ?_)
     | fail)
    all_goals try clear fx
    · have hno : isNm y = false := by
        rw [Bool.eq_false_iff]
        intro h
        simp at h ht
        omega
      refine e_ret [] .nil (by simp; rfl) ?_
      have hall : rs.all isNm = false := by
        rw [Bool.eq_false_iff]
        intro h
        have := List.all_eq_true.1 h y (List.mem_of_getElem? hy)
        rw [hno] at this
        cases this
      simp only [StmOk, hr, hall]
      simp
    · have hyes : isNm y = true := by simpa using ht
      refine ⟨rs.length - (i + 1), by omega, i + 1, rfl, by omega, by simp [h1], by simp [h3], by simp [hp3], by simp [h5], by simp [hp5], by simp; exact wrp (by omega) (by omega), by simp [h7], by simp [hp7], ?_⟩
      rw [List.take_add_one, hy, List.all_append, hal]
      simp only [Option.toList_some, List.all_cons, List.all_nil, hyes]
      rfl
  · have hge : i = rs.length := by
      have : ¬ i < rs.length := by simpa using hf
      omega
    subst hge
    rw [List.take_length] at hal
    have hok : StmOk p b k ⟨kind, to, a, c⟩ = (if kind = 0 then decide (0 ≤ a) && decide (a ≤ 99) && c == 0 else if kind = 1 then c == 0 else if kind = 2 ∨ kind = 5 then true
      else if kind = 3 then c == 0 && madeAs p b a 1 else if kind = 4 then c == 0 && madeAs p b a 2 else if kind = 6 then isNm c
      else if kind = 7 then to == 0 && c == 0 else if kind = 8 then to == 0 && c == 0 && k.kind == 1
      else if kind = 9 ∨ kind = 10 then a == 0 && c == 0 && k.kind != 0 else if kind = 11 then a == 0 && c == 0 else false) := by
      simp only [StmOk, hr, hal, hto, Bool.true_and]
    rw [hok]
    clear hok
    all_goals have fx := And.intro h1 <| And.intro h3 <| And.intro hp3 <| And.intro h5 <| And.intro hp5 <| hk
    repeat' (first
     | refine w_seq ?_ | refine w_block ?_ | refine w_skip ?_ | refine w_reg fun K hK => ?_
     | ((with_reducible refine s_end hK ?_); clear hK K)
     | (with_reducible first | refine then_normal ?_ | refine then_ret ?_ | refine in_ret ?_)
     | refine w_exit ?_
     | refine w_ret ?_
     | (with_reducible refine s_none ?_)
     | ((with_reducible refine g_id ?_); refine x_guard (h := ?_))
     | (with_reducible first | refine gx_tt ?_ | refine x_tf (h := ?_) | refine x_assign (h := ?_))
     | ((with_reducible refine o_id 99 rfl ?_); refine x_call (hF := spec_isName_fn _ _) (h := ?_))
     | ((with_reducible refine o_id 51 rfl ?_); refine x_call (hF := inRange_fn _ _ _ _) (h := ?_))
     | ((with_reducible refine o_id 101 rfl ?_); refine x_call (hF := madeAs_fn _ p b _ _ hs hb) (h := ?_))
     | (with_reducible refine x_q (h := ?_))
     | (with_reducible refine gx_s (fun ht => ?_) (fun ht => ?_))
     | refine x_condt (h1 := ?_)
     | refine x_if (h1 := fun ht => ?_) (h2 := fun ht => ?_)
     | fail)
    all_goals try clear fx
    all_goals refine e_ret [] .nil (by simp; rfl) ?_
    all_goals simp_all
    all_goals (intros; omega)
end Go.Proofs.YtmaoicgfcngciaaDoor
end
