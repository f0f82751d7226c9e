/-
  Own texts, joined by mkclaim.py: Ga, Gb, Ua, Ul, Um, Uy, Uz.
-/
import Derived.Test.YtmaoicgfcngciaaGreatDoorR20
import Derived.Test.YtmaoicgfcngciaaGreatDoorR10
import Derived.Test.YtmaoicgfcngciaaGreatDoorR12
import Derived.Test.YtmaoicgfcngciaaGreatDoorR17
import Derived.Test.YtmaoicgfcngciaaGreatDoorProg
set_option linter.unusedSimpArgs false
set_option linter.unusedVariables false
set_option maxRecDepth 100000
set_option maxHeartbeats 4000000

section
namespace Go.Proofs.YtmaoicgfcngciaaGreatDoor
open Go Go.Hm Go.Proofs
theorem inRange_fn (gl) (n lo hi : Int) : FnOk Tryz.prog gl 39 [iv n, iv lo, iv hi] (fun _ x _ => x = bv (decide (lo ≤ n) && decide (n ≤ hi))) := by
  refine FnOk.of_sem Tryz.func39 rfl (by kernel_rfl) (rs := [.tmp 6]) rfl Tryz.ntmps39 (Nat.le_of_ble_eq_true rfl) fun C w g root => ?_
  all_goals have fx := fx0
  repeat' (first
   | refine w_seq ?_ | refine w_reg fun K hK => ?_
   | ((with_reducible refine s_end hK ?_); clear hK K)
   | (with_reducible first | refine then_normal ?_)
   | refine w_ret ?_
   | (with_reducible refine s_none ?_)
   | ((with_reducible refine g_id ?_); refine x_guard (h := ?_))
   | (with_reducible first | refine gx_tt ?_ | refine x_tf (h := ?_) | refine x_assign (h := ?_))
   | (with_reducible refine x_q (h := ?_))
   | (with_reducible refine gx_s (fun ht => ?_) (fun ht => ?_))
   | fail)
  all_goals try clear fx
  all_goals refine e_ret [] .nil (by simp; rfl) ?_
  all_goals simp_all
  omega
theorem spec_isName_fn (gl) (n : Int) : FnOk Tryz.prog gl 172 [iv n] (fun _ x _ => x = bv (decide (0 ≤ n) && decide (n ≤ 7))) := by
  refine FnOk.of_sem Tryz.func172 rfl (by kernel_rfl) (rs := [.tmp 2]) rfl Tryz.ntmps172 (Nat.le_of_ble_eq_true rfl) fun C w g root => ?_
  all_goals have fx := fx0
  repeat' (first
   | refine w_seq ?_ | refine w_reg fun K hK => ?_
   | ((with_reducible refine s_end hK ?_); clear hK K)
   | (with_reducible first | refine then_normal ?_)
   | refine w_ret ?_
   | (with_reducible first | refine s_none ?_ | refine x_assign (h := ?_))
   | ((with_reducible refine o_id 39 rfl ?_); refine x_call (hF := inRange_fn _ _ _ _) (h := ?_))
   | (with_reducible refine x_q (h := ?_))
   | fail)
  all_goals try clear fx
  refine e_ret [] .nil (by simp; rfl) (by simp)
theorem impl_isName_fn (gl) (n : Int) : FnOk Tryz.prog gl 153 [iv n] (fun _ x _ => x = bv (decide (0 ≤ n) && decide (n ≤ 7))) := by
  refine FnOk.of_sem Tryz.func153 rfl (by kernel_rfl) (rs := [.tmp 2]) rfl Tryz.ntmps153 (Nat.le_of_ble_eq_true rfl) fun C w g root => ?_
  all_goals have fx := fx0
  repeat' (first
   | refine w_seq ?_ | refine w_reg fun K hK => ?_
   | ((with_reducible refine s_end hK ?_); clear hK K)
   | (with_reducible first | refine then_normal ?_)
   | refine w_ret ?_
   | (with_reducible refine s_none ?_)
   | ((with_reducible refine g_id ?_); refine x_guard (h := ?_))
   | (with_reducible first | refine gx_tt ?_ | refine x_tf (h := ?_) | refine x_assign (h := ?_))
   | (with_reducible refine x_q (h := ?_))
   | (with_reducible refine gx_s (fun ht => ?_) (fun ht => ?_))
   | fail)
  all_goals try clear fx
  all_goals refine e_ret [] .nil (by simp; rfl) ?_
  all_goals simp_all
  omega
theorem placeIn_fn (gl) (xs : List Int) (x : Int) (hlen : xs.length ≤ 4294967296) : FnOk Tryz.prog gl 139 [isl xs, iv x] (fun _ z _ => z = iv (placeIn xs x)) := by
  refine FnOk.of_sem Tryz.func139 rfl (by kernel_rfl) (rs := [.tmp 4]) rfl Tryz.ntmps139 (Nat.le_of_ble_eq_true rfl) fun C w g root => ?_
  have fx := fx0
  refine k_run ?_
  clear fx
  refine w_loop (fun n st => ∃ i : Nat, n = xs.length - i ∧ i ≤ xs.length ∧ st.tm 0 = isl xs ∧ st.tm 1 = iv x ∧ st.tm 5 = iv i ∧ ∀ j < i, xs[j]? ≠ some x) xs.length ⟨0, by simp⟩ ?_
  rintro n st - - ⟨i, rfl, hi, h0, h1, h5, hno⟩
  have fx := And.intro h0 <| And.intro h1 <| h5
  refine k_run ?_
  clear fx
  refine w_if (by simp []; first | done | rfl | exact (Bool.not_not _).symm) (fun ht => ?_) (fun hf => ?_)
  · have hlt : i < xs.length := by simpa using ht
    obtain ⟨y, hy⟩ : ∃ y, xs[i]? = some y := ⟨xs[i], gE hlt⟩
    have fx := And.intro h0 <| And.intro h1 <| And.intro h5 <| hy
    refine k_run ?_
    clear fx
    refine w_if (by simp []; first | done | rfl | exact (Bool.not_not _).symm) (fun ht => ?_) (fun hf => ?_)
    · skip
      have fx := And.intro h0 <| And.intro h1 <| h5
      refine k_run ?_
      clear fx
      refine e_ret [] .nil (by simp [h5]; rfl) ?_
      have hyx : y = x := by simpa using ht
      subst hyx
      have : xs.findIdx? (· == y) = some i := by
        rw [List.findIdx?_eq_some_iff_getElem]
        refine ⟨hlt, ?_, fun j hj => ?_⟩
        · rw [gE hlt] at hy; simpa using Option.some.inj hy
        · have := hno j hj
          rw [gE (by omega)] at this
          simpa using this
      simp [placeIn, this]
    · skip
      have fx := And.intro h0 <| And.intro h1 <| h5
      refine k_run ?_
      clear fx
      refine ⟨xs.length - (i + 1), by omega, i + 1, rfl, by omega, ?_⟩
      simp [h0, h1]
      refine ⟨wrp (by omega) (by omega), fun j hj => ?_⟩
      rcases Nat.lt_succ_iff_lt_or_eq.1 hj with h | rfl
      · exact hno j h
      · rw [hy]; simpa using hf
  · skip
    have fx := And.intro h0 <| And.intro h1 <| h5
    refine k_run ?_
    clear fx
    refine e_ret [] .nil (by simp; rfl) ?_
    have hge : i = xs.length := by have : ¬ i < xs.length := by simpa using hf
                                   omega
    have : xs.findIdx? (· == x) = none := by
      rw [List.findIdx?_eq_none_iff]
      intro y hy
      obtain ⟨j, hj, rfl⟩ := List.getElem_of_mem hy
      have := hno j (by omega)
      rw [gE hj] at this
      simpa using this
    simp [placeIn, this]
theorem has_fn (gl) (xs : List Int) (x : Int) (hlen : xs.length ≤ 4294967296) : FnOk Tryz.prog gl 88 [isl xs, iv x] (fun _ z _ => z = bv (decide (x ∈ xs))) := by
  refine FnOk.of_sem Tryz.func88 rfl (by kernel_rfl) (rs := [.tmp 4]) rfl Tryz.ntmps88 (Nat.le_of_ble_eq_true rfl) fun C w g root => ?_
  all_goals have fx := fx0
  repeat' (first
   | refine w_seq ?_ | refine w_reg fun K hK => ?_
   | ((with_reducible refine s_end hK ?_); clear hK K)
   | (with_reducible first | refine then_normal ?_)
   | refine w_ret ?_
   | (with_reducible first | refine s_none ?_ | refine x_assign (h := ?_))
   | ((with_reducible refine o_id 139 rfl ?_); refine x_call (hF := placeIn_fn _ _ _ hlen) (h := ?_))
   | (with_reducible refine x_q (h := ?_))
   | fail)
  all_goals try clear fx
  refine e_ret [] .nil (by simp []; rfl) (by simp [placeIn_nonneg])
theorem sorted_fn (gl) (xs : List Int) (hlen : xs.length ≤ 4294967296) : FnOk Tryz.prog gl 138 [isl xs] (fun r y H' => y = .hs r 1 0 (sorted xs).length ∧ H' r = some (.row 1 (irows (sorted xs)))) := by
  refine FnOk.of_sem Tryz.func138 rfl (by kernel_rfl) (rs := [.tmp 2]) rfl Tryz.ntmps138 (Nat.le_of_ble_eq_true rfl) fun C w g root => ?_
  have fx := fx0
  refine k_run ?_
  clear fx
  refine w_loop (fun n st => ∃ i : Nat, n = 8 - i ∧ i ≤ 8 ∧ st.tm 0 = isl xs ∧ st.tm 4 = iv i ∧ st.tm 3 = .hs (.s 3) 1 0 (sortedTo xs i).length ∧ st.hp (.s 3) = some (.row 1 (irows (sortedTo xs i)))) 8 ?_ ?_
  · exact ⟨0, by simp [sortedTo]⟩
  rintro n st - - ⟨i, rfl, hi, h0, h4, h3, hp3⟩
  have hsl := sortedTo_len (xs := xs) i
  have fx := And.intro h0 <| And.intro h4 <| And.intro h3 <| hp3
  refine k_run ?_
  clear fx
  refine w_if (by simp []; first | done | rfl | exact (Bool.not_not _).symm) (fun ht => ?_) (fun hf => ?_)
  · have hlt : (i : Int) ≤ 7 := by simpa using ht
    all_goals have fx := And.intro h0 <| And.intro h4 <| And.intro h3 <| hp3
    repeat' (first
     | refine w_seq ?_ | refine w_block ?_ | refine w_skip ?_ | refine w_reg fun K hK => ?_
     | ((with_reducible refine s_end hK ?_); clear hK K)
     | (with_reducible first | refine then_normal ?_ | refine in_normal ?_ | refine then_exit ?_ | refine in_exit ?_ | refine then_ret ?_ | refine in_ret ?_ | refine in_other (by decide) ?_)
     | refine w_exit ?_
     | refine w_ret ?_
     | (with_reducible first | refine s_none ?_ | refine x_assign (h := ?_) | refine x_append0 (T := 41) (h := ?_) | refine x_append (T := 41) (h := ?_) | refine x_build (h := ?_))
     | ((with_reducible refine o_id 139 rfl ?_); refine x_call (hF := placeIn_fn _ _ _ hlen) (h := ?_))
     | (with_reducible refine x_q (h := ?_))
     | refine x_condt (h1 := ?_) | refine x_condf (h1 := ?_)
     | fail)
    all_goals try clear fx
    refine w_if (by simp []; first | done | rfl | exact (Bool.not_not _).symm) (fun ht => ?_) (fun hf => ?_)
    · have hm : (i : Int) ∈ xs := placeIn_nonneg.1 (by simpa using ht)
      have fx := And.intro h0 <| And.intro h4 <| And.intro h3 <| hp3
      refine k_run ?_
      clear fx
      refine ⟨8 - (i + 1), by omega, i + 1, rfl, by omega, ?_⟩
      simp [h0, h3, sortedTo, hm]
      exact wrp (by omega) (by omega)
    · have hm : ¬ (i : Int) ∈ xs := fun h => by simp [placeIn_nonneg.2 h] at hf
      have fx := And.intro h0 <| And.intro h4 <| And.intro h3 <| hp3
      refine k_run ?_
      clear fx
      refine ⟨8 - (i + 1), by omega, i + 1, rfl, by omega, ?_⟩
      simp [h0, h3, hp3, sortedTo, hm]
      exact wrp (by omega) (by omega)
  · have h8 : i = 8 := by
      have : ¬ (i : Int) ≤ 7 := by simpa using hf
      omega
    subst h8
    all_goals have fx := And.intro h0 <| And.intro h4 <| And.intro h3 <| hp3
    repeat' (first
     | refine w_seq ?_ | refine w_block ?_ | refine w_skip ?_ | refine w_reg fun K hK => ?_
     | ((with_reducible refine s_end hK ?_); clear hK K)
     | (with_reducible first | refine then_normal ?_ | refine in_normal ?_ | refine then_exit ?_ | refine in_exit ?_ | refine then_ret ?_ | refine in_ret ?_ | refine in_other (by decide) ?_)
     | refine w_exit ?_
     | refine w_ret ?_
     | (with_reducible first | refine s_none ?_ | refine x_assign (h := ?_) | refine x_append0 (T := 41) (h := ?_) | refine x_append (T := 41) (h := ?_) | refine x_build (h := ?_))
     | (with_reducible refine x_q (h := ?_))
     | refine x_condt (h1 := ?_) | refine x_condf (h1 := ?_)
     | fail)
    all_goals try clear fx
    exact e_list (t := 2) (by first | (simp [hp3]; done) | (simp [hp3]; rfl)) (by first | (simp [hp3]; done) | (simp [hp3]; rfl)) (by simp)
theorem readsOf_fn (gl) (s : Stm) : FnOk Tryz.prog gl 144 [Stm.av s] (fun r y H' => y = .hs r 1 0 s.reads.length ∧ H' r = some (.row 1 (irows s.reads))) := by
  refine FnOk.of_sem Tryz.func144 rfl (by kernel_rfl) (rs := [.tmp 2]) rfl Tryz.ntmps144 (Nat.le_of_ble_eq_true rfl) fun C w g root => ?_
  obtain ⟨kind, to, a, b⟩ := s
  all_goals have fx := fx0
  repeat' (first
   | refine w_seq ?_ | refine w_block ?_ | refine w_skip ?_ | refine w_reg fun K hK => ?_
   | ((with_reducible refine s_end hK ?_); clear hK K)
   | (with_reducible first | refine then_normal ?_ | refine then_ret ?_ | refine in_ret ?_)
   | refine w_ret ?_
   | (with_reducible first | refine s_none ?_ | refine x_assign (h := ?_) | refine x_box (h := ?_) | refine x_build (h := ?_))
   | (with_reducible refine x_q (h := ?_))
   | refine x_condt (h1 := ?_)
   | refine x_if (h1 := fun ht => ?_) (h2 := fun ht => ?_)
   | fail)
  all_goals try clear fx
  all_goals refine e_list (t := 2) ?_ ?_ ?_
  all_goals simp_all [Stm.reads, irows]
theorem sets_fn (gl) (s : Stm) : FnOk Tryz.prog gl 205 [Stm.av s] (fun _ x _ => x = bv (decide s.sets)) := by
  refine FnOk.of_sem Tryz.func205 rfl (by kernel_rfl) (rs := [.tmp 2]) rfl Tryz.ntmps205 (Nat.le_of_ble_eq_true rfl) fun C w g root => ?_
  all_goals have fx := fx0
  repeat' (first
   | refine w_seq ?_ | refine w_reg fun K hK => ?_
   | ((with_reducible refine s_end hK ?_); clear hK K)
   | (with_reducible first | refine then_normal ?_)
   | refine w_ret ?_
   | (with_reducible first | refine s_none ?_ | refine x_assign (h := ?_) | refine x_box (h := ?_))
   | ((with_reducible refine o_id 39 rfl ?_); refine x_call (hF := inRange_fn _ _ _ _) (h := ?_))
   | (with_reducible refine x_q (h := ?_))
   | fail)
  all_goals try clear fx
  refine e_ret [] .nil (by simp []; rfl) (by simp [])
theorem copyInts_fn (gl) (xs : List Int) (hlen : xs.length ≤ 4294967296) : FnOk Tryz.prog gl 90 [isl xs] (fun r y H' => y = .hs r 1 0 xs.length ∧ H' r = some (.row 1 (irows xs))) := by
  refine FnOk.of_sem Tryz.func90 rfl (by kernel_rfl) (rs := [.tmp 2]) rfl Tryz.ntmps90 (Nat.le_of_ble_eq_true rfl) fun C w g root => ?_
  have fx := fx0
  refine k_run ?_
  clear fx
  exact e_list (t := 2) (by first | (simp []; done) | (simp []; rfl)) (by first | (simp []; done) | (simp []; rfl)) (by simp)
end Go.Proofs.YtmaoicgfcngciaaGreatDoor
end
section
namespace Go.Proofs.YtmaoicgfcngciaaGreatDoor
open Go Go.Hm Go.Proofs
attribute [local simp] slcAV
theorem digs_at : ∀ n, n < 10 → ([48, 49, 50, 51, 52, 53, 54, 55, 56, 57] : Txt).drop n = dg n :: ([48, 49, 50, 51, 52, 53, 54, 55, 56, 57] : Txt).drop (n + 1) := by decide
theorem numN_len (n : Nat) : (numN n).length ≤ n + 1 := by
  induction n using Nat.strongRecOn with
  | _ n ih =>
    rw [numN]
    split
    · simp
    · have := ih (n / 10) (by omega)
      simp
      omega
theorem number_nat (gl) : ∀ (k n : Nat), n ≤ k → n < 1152921504606846976 → FnOk Tryz.prog gl 43 [iv n] (fun _ y _ => y = tx (numN n)) := by
  intro k
  induction k with
  | zero =>
    intro n hk hn
    obtain rfl : n = 0 := by omega
    have hw1 : IntKind.i64.wrap 1 = 1 := wrp (by omega) (by omega)
    refine FnOk.of_sem Tryz.func43 rfl (by kernel_rfl) (rs := [.tmp 2]) rfl Tryz.ntmps43 (Nat.le_of_ble_eq_true rfl) fun C w g root => ?_
    have fx :=  hw1
    refine k_run ?_
    clear fx
    refine e_ret [] .nil (by simp; rfl) ?_
    simp [numN]
    rfl
  | succ k ih =>
    intro n hk hn
    have hw1 : IntKind.i64.wrap ((n : Int) + 1) = n + 1 := wrp (by omega) (by omega)
    have n0 : ¬ (n : Int) < 0 := by omega
    by_cases h : n < 10
    · have hd := digs_at n h
      have hi : (n : Int) < 10 := by omega
      have h1 : (n : Int) ≤ 9 := by omega
      have h2 : ((n : Int) + 1).toNat = n + 1 := by omega
      have h3 : (n : Int) ≤ (n : Int) + 1 := by omega
      have h4 : (n : Int) + 1 ≤ 10 := by omega
      have h5 : (0 : Int) ≤ (n : Int) := by omega
      have h6 : n + 1 - n = 1 := by omega
      refine FnOk.of_sem Tryz.func43 rfl (by kernel_rfl) (rs := [.tmp 2]) rfl Tryz.ntmps43 (Nat.le_of_ble_eq_true rfl) fun C w g root => ?_
      have fx := And.intro hw1 <| And.intro n0 <| And.intro hi <| And.intro h1 <| And.intro h2 <| And.intro h3 <| And.intro h4 <| And.intro h5 <| And.intro h6 <| hd
      refine k_run ?_
      clear fx
      refine e_ret [] .nil (by simp; rfl) ?_
      rw [numN, if_pos h]
      simp
    · have hi : ¬ (n : Int) < 10 := by omega
      obtain ⟨q, hq⟩ : ∃ q, q = n / 10 := ⟨_, rfl⟩
      obtain ⟨r, hr⟩ : ∃ r, r = n % 10 := ⟨_, rfl⟩
      have hwq : IntKind.i64.wrap ((n : Int) / 10) = (q : Int) := by
        rw [show (n : Int) / 10 = (q : Int) by omega]
        exact wrp (by omega) (by omega)
      have hwr : (n : Int).tmod 10 = (r : Int) := by
        rw [hr]
        rfl
      have q1 := ih q (by omega) (by omega)
      have q2 := ih r (by omega) (by omega)
      have hl1 := numN_len q
      have hl2 := numN_len r
      have hl : (numN q).length + (numN r).length ≤ 9223372036854775807 := by omega
      refine FnOk.of_sem Tryz.func43 rfl (by kernel_rfl) (rs := [.tmp 2]) rfl Tryz.ntmps43 (Nat.le_of_ble_eq_true rfl) fun C w g root => ?_
      have fx := And.intro n0 <| And.intro hi <| And.intro hwq <| And.intro hwr <| hl
      have c1 := q1
      have c2 := q2
      refine k_run ?_
      clear fx c1 c2
      refine e_ret [] .nil (by simp; rfl) ?_
      rw [numN_small (n := r) (by omega)]
      conv => rhs; rw [numN, if_neg h, ← hq, ← hr]
      simp
theorem number_fn (gl) (n : Int) (h0 : -1000000 ≤ n) (h1 : n ≤ 1000000) : FnOk Tryz.prog gl 43 [iv n] (fun _ y _ => y = tx (numI n)) := by
  by_cases h : n < 0
  · obtain ⟨k, rfl⟩ : ∃ k : Nat, n = -(k : Int) := ⟨(-n).toNat, by omega⟩
    have q := number_nat gl k k (Nat.le_refl _) (by omega)
    have hl1 := numN_len k
    have hl : (numN k).length + 1 ≤ 9223372036854775807 := by omega
    have hl' : 1 + (numN k).length ≤ 9223372036854775807 := by omega
    have hk0 : 0 < k := by omega
    have hk1 : ¬ k = 0 := by omega
    have hne : ¬ -(k : Int) = (k : Int) := by omega
    have hwn : IntKind.i64.wrap (k : Int) = k := wrp (by omega) (by omega)
    refine FnOk.of_sem Tryz.func43 rfl (by kernel_rfl) (rs := [.tmp 2]) rfl Tryz.ntmps43 (Nat.le_of_ble_eq_true rfl) fun C w g root => ?_
    have fx := And.intro hwn <| And.intro hk0 <| And.intro hk1 <| And.intro hne <| And.intro hl <| hl'
    have c1 := q
    refine k_run ?_
    clear fx c1
    refine e_ret [] .nil (by simp; rfl) ?_
    simp [numI, h, hk1]
  · obtain ⟨k, rfl⟩ : ∃ k : Nat, n = (k : Int) := ⟨n.toNat, by omega⟩
    rw [numI_nat]
    exact number_nat gl k k (Nat.le_refl _) (by omega)
theorem stmtWords_fn (gl) : FnOk Tryz.prog gl 126 [] (fun r y H' => y = .hs r 1 0 stmtW.length ∧ H' r = some (.row 1 (xrows stmtW))) := by
  refine FnOk.of_sem Tryz.func126 rfl (by kernel_rfl) (rs := [.tmp 0]) rfl Tryz.ntmps126 (Nat.le_of_ble_eq_true rfl) fun C w g root => ?_
  have fx := fx0
  refine k_run ?_
  clear fx
  exact e_list (t := 0) (by first | (simp []; done) | (simp []; rfl)) (by first | (simp []; done) | (simp []; rfl)) (by simp)
end Go.Proofs.YtmaoicgfcngciaaGreatDoor
end
section
namespace Go.Proofs.YtmaoicgfcngciaaGreatDoor
open Go Go.Hm Go.Proofs
open Go.Shelf
def libRen : Ren := ⟨fun | 0 => 0 | 1 => 1 | 2 => 2 | 129 => 217 | 138 => 203 | 143 => 204 | 146 => 128 | 166 => 46 | 169 => 48 | 171 => 70 | 195 => 221 | 197 => 222 | 217 => 232 | 218 => 223 | 219 => 224 | 221 => 170 | 224 => 234 | 225 => 233 | 240 => 96 | 243 => 123 | 246 => 169 | 260 => 231 | 266 => 237 | 267 => 235 | 268 => 202 | 276 => 148 | 283 => 198 | 284 => 199 | 285 => 200 | 286 => 201 | 314 => 238 | 317 => 216 | 318 => 218 | 319 => 219 | 320 => 220 | 337 => 229 | 338 => 230 | 347 => 239 | 348 => 240 | 349 => 241 | 350 => 242 | 351 => 243 | 352 => 244 | 353 => 245 | 354 => 246 | 355 => 247 | 356 => 248 | 357 => 249 | 358 => 250 | 359 => 251 | 360 => 252 | 361 => 253 | 362 => 254 | 366 => 264 | 367 => 276 | n => n, fun | 0 => 0 | 1 => 1 | 2 => 2 | 3 => 3 | 4 => 4 | 5 => 5 | 6 => 6 | 7 => 7 | 8 => 8 | 9 => 9 | 10 => 10 | 11 => 11 | 12 => 12 | 13 => 13 | 14 => 14 | 15 => 15 | 16 => 16 | 17 => 17 | 18 => 18 | 19 => 19 | 20 => 20 | 21 => 21 | 26 => 57 | 27 => 265 | 28 => 41 | 29 => 132 | 30 => 125 | 31 => 64 | 34 => 93 | 36 => 140 | 37 => 37 | 46 => 280 | 47 => 281 | 51 => 278 | 52 => 290 | 53 => 259 | 54 => 260 | 55 => 284 | 61 => 188 | 70 => 71 | 71 => 72 | 72 => 73 | 74 => 74 | 75 => 75 | 76 => 76 | 77 => 77 | 80 => 80 | 81 => 162 | 83 => 69 | 84 => 232 | 103 => 45 | 104 => 29 | 105 => 282 | 106 => 283 | 111 => 68 | 113 => 233 | 114 => 139 | 119 => 294 | 127 => 138 | 131 => 220 | 137 => 295 | 138 => 296 | 139 => 297 | 146 => 298 | 150 => 264 | 151 => 299 | 164 => 195 | 165 => 196 | 171 => 258 | 172 => 261 | 173 => 262 | 174 => 263 | 211 => 276 | 212 => 277 | 213 => 279 | 232 => 292 | 233 => 293 | 238 => 300 | 239 => 301 | 240 => 302 | 241 => 303 | 242 => 304 | 243 => 305 | 244 => 306 | 245 => 307 | 246 => 308 | 247 => 309 | 248 => 310 | 249 => 311 | n => n, fun | 1 => 5 | 3 => 8 | 4 => 9 | 17 => 4 | 18 => 6 | 19 => 7 | n => n⟩
theorem lay166 : Lays.n166 Tryz.prog libRen := { mixed := by kernel_rfl, f166 := Tryz.func46.trans (congrArg some (by kernel_rfl)), f240 := Tryz.func96.trans (congrArg some (by kernel_rfl)), f276 := Tryz.func148.trans (congrArg some (by kernel_rfl)), t0 := Tryz.underlying0, a0 := Tryz.isAgg0, z0 := Tryz.sizeOf0, v0 := Tryz.zeroValue0, t3 := Tryz.underlying3, a3 := Tryz.isAgg3, z3 := Tryz.sizeOf3, v3 := Tryz.zeroValue3, t4 := Tryz.underlying4, a4 := Tryz.isAgg4, z4 := Tryz.sizeOf4, v4 := Tryz.zeroValue4, t9 := Tryz.underlying9, a9 := Tryz.isAgg9, z9 := Tryz.sizeOf9, v9 := Tryz.zeroValue9, t20 := Tryz.underlying20, a20 := Tryz.isAgg20, z20 := Tryz.sizeOf20, v20 := Tryz.zeroValue20, t37 := Tryz.underlying37, a37 := Tryz.isAgg37, z37 := Tryz.sizeOf37, v37 := Tryz.zeroValue37, t70 := Tryz.underlying71, a70 := Tryz.isAgg71, z70 := Tryz.sizeOf71, v70 := Tryz.zeroValue71, t72 := Tryz.underlying73, a72 := Tryz.isAgg73, z72 := Tryz.sizeOf73, v72 := Tryz.zeroValue73, t75 := Tryz.underlying75, a75 := Tryz.isAgg75, z75 := Tryz.sizeOf75, v75 := Tryz.zeroValue75, t164 := Tryz.underlying195, a164 := Tryz.isAgg195, z164 := Tryz.sizeOf195, v164 := Tryz.zeroValue195 }
theorem lay169 : Lays.n169 Tryz.prog libRen := { mixed := by kernel_rfl, f169 := Tryz.func48.trans (congrArg some (by kernel_rfl)), t0 := Tryz.underlying0, a0 := Tryz.isAgg0, z0 := Tryz.sizeOf0, v0 := Tryz.zeroValue0, t3 := Tryz.underlying3, a3 := Tryz.isAgg3, z3 := Tryz.sizeOf3, v3 := Tryz.zeroValue3, t9 := Tryz.underlying9, a9 := Tryz.isAgg9, z9 := Tryz.sizeOf9, v9 := Tryz.zeroValue9, t37 := Tryz.underlying37, a37 := Tryz.isAgg37, z37 := Tryz.sizeOf37, v37 := Tryz.zeroValue37, t70 := Tryz.underlying71, a70 := Tryz.isAgg71, z70 := Tryz.sizeOf71, v70 := Tryz.zeroValue71, t72 := Tryz.underlying73, a72 := Tryz.isAgg73, z72 := Tryz.sizeOf73, v72 := Tryz.zeroValue73, t127 := Tryz.underlying138, a127 := Tryz.isAgg138, z127 := Tryz.sizeOf138, v127 := Tryz.zeroValue138 }
theorem lay171 : Lays.n171 Tryz.prog libRen := { mixed := by kernel_rfl, f129 := Tryz.func217.trans (congrArg some (by kernel_rfl)), f171 := Tryz.func70.trans (congrArg some (by kernel_rfl)), f243 := Tryz.func123.trans (congrArg some (by kernel_rfl)), f246 := Tryz.func169.trans (congrArg some (by kernel_rfl)), f283 := Tryz.func198.trans (congrArg some (by kernel_rfl)), f284 := Tryz.func199.trans (congrArg some (by kernel_rfl)), f285 := Tryz.func200.trans (congrArg some (by kernel_rfl)), f286 := Tryz.func201.trans (congrArg some (by kernel_rfl)), f317 := Tryz.func216.trans (congrArg some (by kernel_rfl)), f318 := Tryz.func218.trans (congrArg some (by kernel_rfl)), f319 := Tryz.func219.trans (congrArg some (by kernel_rfl)), f320 := Tryz.func220.trans (congrArg some (by kernel_rfl)), f337 := Tryz.func229.trans (congrArg some (by kernel_rfl)), f338 := Tryz.func230.trans (congrArg some (by kernel_rfl)), t0 := Tryz.underlying0, a0 := Tryz.isAgg0, z0 := Tryz.sizeOf0, v0 := Tryz.zeroValue0, t2 := Tryz.underlying2, a2 := Tryz.isAgg2, z2 := Tryz.sizeOf2, v2 := Tryz.zeroValue2, t3 := Tryz.underlying3, a3 := Tryz.isAgg3, z3 := Tryz.sizeOf3, v3 := Tryz.zeroValue3, t4 := Tryz.underlying4, a4 := Tryz.isAgg4, z4 := Tryz.sizeOf4, v4 := Tryz.zeroValue4, t5 := Tryz.underlying5, a5 := Tryz.isAgg5, z5 := Tryz.sizeOf5, v5 := Tryz.zeroValue5, t9 := Tryz.underlying9, a9 := Tryz.isAgg9, z9 := Tryz.sizeOf9, v9 := Tryz.zeroValue9, t20 := Tryz.underlying20, a20 := Tryz.isAgg20, z20 := Tryz.sizeOf20, v20 := Tryz.zeroValue20, t37 := Tryz.underlying37, a37 := Tryz.isAgg37, z37 := Tryz.sizeOf37, v37 := Tryz.zeroValue37, t46 := Tryz.underlying280, a46 := Tryz.isAgg280, z46 := Tryz.sizeOf280, v46 := Tryz.zeroValue280, t51 := Tryz.underlying278, a51 := Tryz.isAgg278, z51 := Tryz.sizeOf278, v51 := Tryz.zeroValue278, t53 := Tryz.underlying259, a53 := Tryz.isAgg259, z53 := Tryz.sizeOf259, v53 := Tryz.zeroValue259, t171 := Tryz.underlying258, a171 := Tryz.isAgg258, z171 := Tryz.sizeOf258, v171 := Tryz.zeroValue258, t173 := Tryz.underlying262, a173 := Tryz.isAgg262, z173 := Tryz.sizeOf262, v173 := Tryz.zeroValue262, t212 := Tryz.underlying277, a212 := Tryz.isAgg277, z212 := Tryz.sizeOf277, v212 := Tryz.zeroValue277, t213 := Tryz.underlying279, a213 := Tryz.isAgg279, z213 := Tryz.sizeOf279, t232 := Tryz.underlying292, a232 := Tryz.isAgg292, z232 := Tryz.sizeOf292, v232 := Tryz.zeroValue292, t233 := Tryz.underlying293, a233 := Tryz.isAgg293, z233 := Tryz.sizeOf293, v233 := Tryz.zeroValue293, g17 := by kernel_rfl, g18 := by kernel_rfl, g19 := by kernel_rfl }
theorem lay146 : Lays.n146 Tryz.prog libRen := { mixed := by kernel_rfl, f138 := Tryz.func203.trans (congrArg some (by kernel_rfl)), f143 := Tryz.func204.trans (congrArg some (by kernel_rfl)), f146 := Tryz.func128.trans (congrArg some (by kernel_rfl)), f195 := Tryz.func221.trans (congrArg some (by kernel_rfl)), f197 := Tryz.func222.trans (congrArg some (by kernel_rfl)), f217 := Tryz.func232.trans (congrArg some (by kernel_rfl)), f218 := Tryz.func223.trans (congrArg some (by kernel_rfl)), f219 := Tryz.func224.trans (congrArg some (by kernel_rfl)), f221 := Tryz.func170.trans (congrArg some (by kernel_rfl)), f224 := Tryz.func234.trans (congrArg some (by kernel_rfl)), f225 := Tryz.func233.trans (congrArg some (by kernel_rfl)), f260 := Tryz.func231.trans (congrArg some (by kernel_rfl)), f266 := Tryz.func237.trans (congrArg some (by kernel_rfl)), f267 := Tryz.func235.trans (congrArg some (by kernel_rfl)), f268 := Tryz.func202.trans (congrArg some (by kernel_rfl)), f314 := Tryz.func238.trans (congrArg some (by kernel_rfl)), t0 := Tryz.underlying0, a0 := Tryz.isAgg0, z0 := Tryz.sizeOf0, v0 := Tryz.zeroValue0, t3 := Tryz.underlying3, a3 := Tryz.isAgg3, z3 := Tryz.sizeOf3, v3 := Tryz.zeroValue3, t4 := Tryz.underlying4, a4 := Tryz.isAgg4, z4 := Tryz.sizeOf4, v4 := Tryz.zeroValue4, t5 := Tryz.underlying5, a5 := Tryz.isAgg5, z5 := Tryz.sizeOf5, v5 := Tryz.zeroValue5, t9 := Tryz.underlying9, a9 := Tryz.isAgg9, z9 := Tryz.sizeOf9, v9 := Tryz.zeroValue9, t21 := Tryz.underlying21, a21 := Tryz.isAgg21, z21 := Tryz.sizeOf21, v21 := Tryz.zeroValue21, t31 := Tryz.underlying64, a31 := Tryz.isAgg64, z31 := Tryz.sizeOf64, v31 := Tryz.zeroValue64, t46 := Tryz.underlying280, a46 := Tryz.isAgg280, z46 := Tryz.sizeOf280, v46 := Tryz.zeroValue280, t51 := Tryz.underlying278, a51 := Tryz.isAgg278, z51 := Tryz.sizeOf278, v51 := Tryz.zeroValue278, t105 := Tryz.underlying282, a105 := Tryz.isAgg282, z105 := Tryz.sizeOf282, v105 := Tryz.zeroValue282, t119 := Tryz.underlying294, a119 := Tryz.isAgg294, z119 := Tryz.sizeOf294, t138 := Tryz.underlying296, a138 := Tryz.isAgg296, z138 := Tryz.sizeOf296, v138 := Tryz.zeroValue296, t139 := Tryz.underlying297, a139 := Tryz.isAgg297, z139 := Tryz.sizeOf297, v139 := Tryz.zeroValue297, t146 := Tryz.underlying298, a146 := Tryz.isAgg298, z146 := Tryz.sizeOf298, v146 := Tryz.zeroValue298, g1 := by kernel_rfl, g3 := by kernel_rfl, g4 := by kernel_rfl }
theorem layB : Builder.Extra Tryz.prog libRen := { sizeBuilder := by kernel_rfl, liesBuilder := by kernel_rfl, t5 := Tryz.underlying5, a5 := Tryz.isAgg5, z5 := Tryz.sizeOf5, v5 := Tryz.zeroValue5, infoByte := by kernel_rfl, cellsByte := by kernel_rfl, sizeByte := by kernel_rfl, neB5 := by decide }
theorem bld_zv : zvals Tryz.prog 73 = some [.sc (.pointer none), .sc (.slice none 0 0)] := by kernel_rfl
@[simp] theorem lib_b : libRen.t 72 = 73 := rfl
@[simp] theorem lib_u : libRen.t 5 = 5 := rfl
theorem split_at_fn (gl) {m : Int} (hgm : gl 5 = some [.sc (.int .i64 m)]) (l : Txt) (c : UInt8) (hl : l.length < 4294967281) : FnOk Tryz.prog gl 128 [tx l, tx [c]] (fun _ y _ => y = xsl (splitL c l)) :=
  split_fn lay146 (by kernel_rfl) gl m hgm l c hl
end Go.Proofs.YtmaoicgfcngciaaGreatDoor
end
section
namespace Go.Proofs.YtmaoicgfcngciaaGreatDoor
open Go Go.Hm Go.Proofs
attribute [local simp] slcAV
theorem u8w {n : Int} (h1 : 0 ≤ n) (h2 : n ≤ 255) : IntKind.u8.wrap n = n := by rw [IntKind.wrap_u8]; omega
theorem kindW_first {v : Txt} {i : Nat} {u : Txt} (hu : stmtW[i]? = some u) (he : u = v) (hno : ∀ j, j < i → ∀ x, stmtW[j]? = some x → x ≠ v) : kindW v = some i := by
  obtain ⟨hi, hE⟩ := gS hu
  unfold kindW
  rw [List.findIdx?_eq_some_iff_getElem]
  refine ⟨hi, by simp [hE, he], fun j hj => ?_⟩
  have := hno j hj _ (gE (by omega))
  simpa using this
theorem kindW_no {v : Txt} (hno : ∀ j, j < 12 → ∀ x, stmtW[j]? = some x → x ≠ v) : kindW v = none := by
  unfold kindW
  rw [List.findIdx?_eq_none_iff]
  intro x hx
  obtain ⟨j, hj⟩ := List.getElem?_of_mem hx
  have := hno j (gS hj).1 x hj
  simpa using this
def wordI (o : Option Nat) : Int := match o with | some n => n | none => -1
theorem kindOf_fn (gl) (hgl : gl 1 = some ((vtx stmtW).map AV.sc)) (v : Txt) : FnOk Tryz.prog gl 130 [tx v] (fun _ y _ => y = iv (wordI (kindW v))) := by
  have hol : stmtW.length = 12 := rfl
  have htk : List.take 12 stmtW = stmtW := rfl
  have htm : ∀ f : Txt → AV, List.take 12 (List.map f stmtW) = List.map f stmtW := fun f => rfl
  refine FnOk.of_sem Tryz.func130 rfl (by kernel_rfl) (rs := [.tmp 2]) rfl Tryz.ntmps130 (Nat.le_of_ble_eq_true rfl) fun C w g root => ?_
  have fx := And.intro hgl <| And.intro hol <| And.intro htk <| htm
  refine k_run ?_
  clear fx
  refine w_loop (fun n st => ∃ i : Nat, n = 12 - i ∧ i ≤ 12 ∧ st.tm 0 = tx v ∧ st.tm 5 = .agg ((vtx stmtW).map AV.sc) ∧ st.tm 6 = iv i ∧ ∀ j, j < i → ∀ x, stmtW[j]? = some x → x ≠ v) 12 ?_ ?_
  · exact ⟨0, by omega, by omega, by simp, by simp [htk, htm], by simp, fun j hj => absurd hj (by omega)⟩
  rintro n st - - ⟨i, rfl, hi, h0, h5, h6, hno⟩
  by_cases hil : i < 12
  · have hii : (i : Int) < 12 := by omega
    have hil' : i < stmtW.length := hil
    obtain ⟨u, hu⟩ : ∃ u, stmtW[i]? = some u := ⟨_, gE hil'⟩
    obtain ⟨_, huE⟩ := gS hu
    by_cases he : u = v
    · have hb : (u == v) = true := by simpa using he
      have fx := And.intro h0 <| And.intro h5 <| And.intro h6 <| And.intro hii <| And.intro hil <| And.intro hil' <| And.intro hu <| And.intro huE <| hb
      refine k_run ?_
      clear fx
      rw [kindW_first hu he hno]
      refine e_ret [] .nil (by simp; rfl) (by simp [wordI])
    · have hb : (u == v) = false := by simpa using he
      have fx := And.intro h0 <| And.intro h5 <| And.intro h6 <| And.intro hii <| And.intro hil <| And.intro hil' <| And.intro hu <| And.intro huE <| hb
      refine k_run ?_
      clear fx
      refine ⟨12 - (i + 1), by omega, i + 1, rfl, by omega, by simp [h0], by simp [h5], by simp [h6]; exact wrp (by omega) (by omega), fun j hj x hx => ?_⟩
      by_cases e : j = i
      · subst e
        rw [hu] at hx
        obtain rfl := Option.some.inj hx
        exact he
      · exact hno j (by omega) x hx
  · obtain rfl : i = 12 := by omega
    rw [kindW_no hno]
    have fx := And.intro h0 <| And.intro h5 <| h6
    refine k_run ?_
    clear fx
    refine e_ret [] .nil (by simp; rfl) (by simp [wordI])
end Go.Proofs.YtmaoicgfcngciaaGreatDoor
end
section
namespace Go.Proofs.YtmaoicgfcngciaaGreatDoor
open Go Go.Hm Go.Proofs
attribute [local simp] slcAV
theorem splitAt_fn (gl) (v : Txt) (c : UInt8) (hv : v.length ≤ 1048577) : FnOk Tryz.prog gl 71 [tx v, .sc (.int .u8 (c.toNat : Int))] (fun r y H' => y = .hs r 1 0 (splitL c v).length ∧ H' r = some (.row 1 (xrows (splitL c v)))) := by
  refine FnOk.of_sem Tryz.func71 rfl (by kernel_rfl) (rs := [.tmp 4]) rfl Tryz.ntmps71 (Nat.le_of_ble_eq_true rfl) fun C w g root => ?_
  have fx := fx0
  refine k_run ?_
  clear fx
  refine w_loop (fun n st => ∃ (i j : Nat) (ws : List Txt), n = v.length - i ∧ j ≤ i ∧ i ≤ v.length ∧ ws.length ≤ j ∧ splitL c v = ws ++ splitL c (v.drop j) ∧ c ∉ (v.drop j).take (i - j) ∧ st.tm 0 = tx v ∧ st.tm 1 = .sc (.int .u8 (c.toNat : Int)) ∧ st.tm 7 = iv i ∧ st.tm 6 = iv j ∧ st.tm 5 = .hs (.s 5) 1 0 ws.length ∧ st.hp (.s 5) = some (.row 1 (xrows ws))) v.length ?_ ?_
  · exact ⟨0, 0, [], by omega, by omega, by omega, by simp, by simp, by simp, by simp, by simp, by simp, by simp, by simp, by simp⟩
  rintro n st - - ⟨i, j, ws, rfl, hji, hi, hwj, hsp, hno, h0, h1, h7, h6, h5, hp5⟩
  by_cases hil : i < v.length
  · obtain ⟨x, hx⟩ : ∃ x, v[i]? = some x := ⟨_, gE hil⟩
    obtain ⟨_, hxE⟩ := gS hx
    have hw1 : IntKind.i64.wrap ((i : Int) + 1) = (i : Int) + 1 := wrp (by omega) (by omega)
    by_cases he : x = c
    · subst he
      have hat := split_at hx hji hno
      have fx := And.intro h0 <| And.intro h1 <| And.intro h7 <| And.intro h6 <| And.intro h5 <| And.intro hp5 <| And.intro hil <| And.intro hx <| And.intro hxE <| And.intro hw1 <| And.intro hji <| And.intro hi <| @bne_def
      refine k_run ?_
      clear fx
      refine ⟨v.length - (i + 1), by omega, i + 1, i + 1, ws ++ [(v.drop j).take (i - j)], rfl, by omega, by omega, by simp; omega, by rw [hsp, hat]; simp, by simp, by simp [h0], by simp [h1], by simp, by simp, by simp, by simp [xrows]⟩
    · have hnn := no_next hx he hji hno
      have hn : ¬ x.toNat = c.toNat := fun e => he (UInt8.toNat_inj.1 e)
      have hb : ((x.toNat : Int) == (c.toNat : Int)) = false := by simp; omega
      have fx := And.intro h0 <| And.intro h1 <| And.intro h7 <| And.intro h6 <| And.intro h5 <| And.intro hp5 <| And.intro hil <| And.intro hx <| And.intro hxE <| And.intro hw1 <| And.intro hn <| hb
      refine k_run ?_
      clear fx
      exact ⟨v.length - (i + 1), by omega, i + 1, j, ws, rfl, by omega, by omega, hwj, hsp, hnn, by simp [h0], by simp [h1], by simp [hw1], by simp [h6], by simp [h5], by simp [hp5]⟩
  · have hge : i = v.length := by omega
    have hjl : j ≤ v.length := by omega
    have htk : (v.drop j).take (i - j) = v.drop j := List.take_of_length_le (by rw [List.length_drop]; omega)
    have htk2 : (v.drop j).take (v.length - j) = v.drop j := List.take_of_length_le (by rw [List.length_drop]; exact Nat.le_refl _)
    rw [htk] at hno
    rw [splitL_one hno] at hsp
    have fx := And.intro h0 <| And.intro h1 <| And.intro h7 <| And.intro h6 <| And.intro h5 <| And.intro hp5 <| And.intro hil <| And.intro hji <| And.intro hjl <| htk2
    refine k_run ?_
    clear fx
    refine e_ret [(.s 4, root)] (.one rfl) (by simp; rfl) ⟨by simp [hsp], by simp [hsp, xrows]⟩
theorem readNumber_fn (gl) (v : Txt) (hv : v.length ≤ 1048577) : FnOk Tryz.prog gl 124 [tx v] (fun _ y _ => y = iv (smallI v)) := by
  refine FnOk.of_sem Tryz.func124 rfl (by kernel_rfl) (rs := [.tmp 2]) rfl Tryz.ntmps124 (Nat.le_of_ble_eq_true rfl) fun C w g root => ?_
  have fx := fx0
  refine k_run ?_
  clear fx
  refine w_loop (fun n st => ∃ i : Nat, n = v.length - i ∧ i ≤ v.length ∧ st.tm 0 = tx v ∧ st.tm 4 = iv i ∧ st.tm 3 = iv (dval (v.take i)) ∧ dval (v.take i) ≤ 99) v.length ?_ ?_
  · exact ⟨0, by omega, by omega, by simp, by simp, by simp [dval], by simp [dval]⟩
  rintro n st - - ⟨i, rfl, hi, h0, h4, h3, hd⟩
  by_cases hil : i < v.length
  · obtain ⟨c, hc⟩ : ∃ c, v[i]? = some c := ⟨_, gE hil⟩
    obtain ⟨_, hcE⟩ := gS hc
    have hcl := c.toNat_lt
    by_cases hg : 48 ≤ c.toNat ∧ c.toNat ≤ 57
    · obtain ⟨g1, g2⟩ := hg
      have g1' : ¬ c.toNat < 48 := by omega
      have g2' : ¬ 57 < c.toNat := by omega
      have g1i : ¬ (c.toNat : Int) < 48 := by omega
      have g2i : ¬ (57 : Int) < (c.toNat : Int) := by omega
      by_cases h9 : 9 < dval (v.take i)
      · have hno := smallI_none (small_bad2 hil h9)
        have h9i : (9 : Int) < (dval (v.take i) : Nat) := by omega
        generalize dval (v.take i) = m at h3 hd h9 h9i
        have fx := And.intro h0 <| And.intro h4 <| And.intro h3 <| And.intro hil <| And.intro hc <| And.intro hcE <| And.intro g1' <| And.intro g2' <| And.intro g1i <| And.intro g2i <| And.intro h9 <| h9i
        refine k_run ?_
        clear fx
        refine e_ret [] .nil (by simp; rfl) (by simp [hno])
      · have hdt := dval_take hc
        have h9i : ¬ (9 : Int) < (dval (v.take i) : Nat) := by omega
        generalize dval (v.take i) = m at h3 hd h9 h9i hdt
        obtain ⟨k, hk⟩ : ∃ k : Nat, k = c.toNat - 48 := ⟨_, rfl⟩
        have hw0 : IntKind.i64.wrap ((i : Int) + 1) = (i : Int) + 1 := wrp (by omega) (by omega)
        have hw1 : IntKind.i64.wrap (10 * (m : Int)) = 10 * (m : Int) := wrp (by omega) (by omega)
        have hw2 : IntKind.u8.wrap ((c.toNat : Int) - 48) = (k : Int) := by rw [show (c.toNat : Int) - 48 = (k : Int) by omega]; exact u8w (by omega) (by omega)
        have hw3 : IntKind.i64.wrap (k : Int) = (k : Int) := wrp (by omega) (by omega)
        have hw4 : IntKind.i64.wrap (10 * (m : Int) + (k : Int)) = 10 * (m : Int) + (k : Int) := wrp (by omega) (by omega)
        have fx := And.intro h0 <| And.intro h4 <| And.intro h3 <| And.intro hil <| And.intro hc <| And.intro hcE <| And.intro g1' <| And.intro g2' <| And.intro g1i <| And.intro g2i <| And.intro h9 <| And.intro h9i <| And.intro hw0 <| And.intro hw1 <| And.intro hw2 <| And.intro hw3 <| hw4
        refine k_run ?_
        clear fx
        refine ⟨v.length - (i + 1), by omega, i + 1, rfl, by omega, by simp [h0], by simp [hw0], by simp [hdt, ← hk], by rw [hdt]; omega⟩
    · have hno := smallI_none (small_bad1 hc hg)
      by_cases g1 : c.toNat < 48
      · have g1i : (c.toNat : Int) < 48 := by omega
        have fx := And.intro h0 <| And.intro h4 <| And.intro h3 <| And.intro hil <| And.intro hc <| And.intro hcE <| And.intro g1 <| g1i
        refine k_run ?_
        clear fx
        refine e_ret [] .nil (by simp; rfl) (by simp [hno])
      · have g1i : ¬ (c.toNat : Int) < 48 := by omega
        have g2 : 57 < c.toNat := by omega
        have g2i : (57 : Int) < (c.toNat : Int) := by omega
        have fx := And.intro h0 <| And.intro h4 <| And.intro h3 <| And.intro hil <| And.intro hc <| And.intro hcE <| And.intro g1 <| And.intro g1i <| And.intro g2 <| g2i
        refine k_run ?_
        clear fx
        refine e_ret [] .nil (by simp; rfl) (by simp [hno])
  · have hge : i = v.length := by omega
    rw [hge, List.take_length] at h3 hd
    have hend := small_end hd
    have hnum := number_fn gl (dval v) (by omega) (by omega)
    rw [numI_nat] at hnum
    by_cases he : v = []
    · have hb : (v == []) = true := by simp [he]
      have hno : smallI v = -1 := smallI_none (by rw [he]; rfl)
      have fx := And.intro h0 <| And.intro h4 <| And.intro h3 <| And.intro hil <| hb
      refine k_run ?_
      clear fx
      refine e_ret [] .nil (by simp; rfl) (by simp [hno])
    have hb : (v == []) = false := by simpa using he
    by_cases hq : v = numN (dval v)
    · rw [if_pos hq] at hend
      have hqb : (v == numN (dval v)) = true := by simpa using hq
      have hsi := smallI_some hend
      generalize numN (dval v) = u at hnum hqb
      have fx := And.intro h0 <| And.intro h4 <| And.intro h3 <| And.intro hil <| And.intro hb <| hqb
      have c1 := hnum
      refine k_run ?_
      clear fx c1
      refine e_ret [] .nil (by simp [h3]; rfl) (by simp [hsi])
    · rw [if_neg hq] at hend
      have hqb : (v == numN (dval v)) = false := by simpa using hq
      have hsi := smallI_none hend
      generalize numN (dval v) = u at hnum hqb
      have fx := And.intro h0 <| And.intro h4 <| And.intro h3 <| And.intro hil <| And.intro hb <| hqb
      have c1 := hnum
      refine k_run ?_
      clear fx c1
      refine e_ret [] .nil (by simp; rfl) (by simp [hsi])
theorem readNs_app {a b : List Txt} : readNs (a ++ b) = match readNs a, readNs b with | some x, some y => some (x ++ y) | _, _ => none := by
  induction a with
  | nil =>
    cases h : readNs b <;> simp [readNs] <;> simpa [readNs] using h
  | cons l a ih =>
    rw [List.cons_append, readNs_cons, readNs_cons, ih]
    cases smallN l with
    | none => rfl
    | some o =>
      cases readNs a with
      | none => rfl
      | some x =>
        cases readNs b <;> rfl
theorem readNs_snoc {ws : List Txt} {i n : Nat} {w : Txt} {ns : List Nat} (hw : ws[i]? = some w) (h : readNs (ws.take i) = some ns) (hn : smallN w = some n) : readNs (ws.take (i + 1)) = some (ns ++ [n]) := by
  rw [List.take_add_one, hw, readNs_app, h]
  simp [readNs_cons, hn, readNs]
theorem readNs_bad {ws : List Txt} {i : Nat} {w : Txt} (hw : ws[i]? = some w) (hn : smallN w = none) : readNs ws = none := by
  have e : ws = ws.take i ++ w :: ws.drop (i + 1) := by
    obtain ⟨h, hE⟩ := gS hw
    conv => lhs; rw [← List.take_append_drop i ws]
    rw [List.drop_eq_getElem_cons h, hE]
  rw [e, readNs_app, readNs_cons, hn]
  cases readNs (ws.take i) <;> rfl
theorem readNs_len {ws : List Txt} {ns : List Nat} (h : readNs ws = some ns) : ns.length = ws.length := by
  induction ws generalizing ns with
  | nil => simp [readNs] at h; subst h; rfl
  | cons l a ih =>
    rw [readNs_cons] at h
    cases ho : smallN l with
    | none => rw [ho] at h; cases h
    | some o =>
      cases ha : readNs a with
      | none => rw [ho, ha] at h; cases h
      | some x =>
        rw [ho, ha] at h
        obtain rfl := Option.some.inj h
        simp [ih ha]
theorem readNumbers_fn (gl) (ws : List Txt) (hl : ws.length ≤ 1048577) (hw : ∀ w ∈ ws, w.length ≤ 1048577) : FnOk Tryz.prog gl 125 [xsl ws] (fun r y H' => match readNs ws with
    | some ns => y = .tup [.hs r 1 0 ns.length, bv true] ∧ H' r = some (.row 1 (irows (ns.map fun (n : Nat) => (n : Int))))
    | none => y = .tup [.hs r 1 0 0, bv false] ∧ H' r = some (.row 1 [])) := by
  refine FnOk.of_sem Tryz.func125 rfl (by kernel_rfl) (rs := [.tmp 2, .tmp 3]) rfl Tryz.ntmps125 (Nat.le_of_ble_eq_true rfl) fun C w g root => ?_
  have fx := fx0
  refine k_run ?_
  clear fx
  refine w_loop (fun n st => ∃ (i : Nat) (ns : List Nat), n = ws.length - i ∧ i ≤ ws.length ∧ readNs (ws.take i) = some ns ∧ st.tm 0 = xsl ws ∧ st.tm 5 = iv i ∧ st.tm 4 = .hs (.s 4) 1 0 ns.length ∧ st.hp (.s 4) = some (.row 1 (irows (ns.map fun (n : Nat) => (n : Int))))) ws.length ?_ ?_
  · exact ⟨0, [], by omega, by omega, by simp [readNs], by simp, by simp, by simp, by simp⟩
  rintro n st - - ⟨i, ns, rfl, hi, hns, h0, h5, h4, hp4⟩
  have hnl := readNs_len hns
  rw [List.length_take] at hnl
  by_cases hil : i < ws.length
  · obtain ⟨w', hw'⟩ : ∃ x, ws[i]? = some x := ⟨_, gE hil⟩
    obtain ⟨_, hwE⟩ := gS hw'
    have hq := readNumber_fn gl w' (hw _ (List.mem_of_getElem? hw'))
    have hw0 : IntKind.i64.wrap ((i : Int) + 1) = (i : Int) + 1 := wrp (by omega) (by omega)
    cases hs : smallN w' with
    | none =>
      have hno := readNs_bad hw' hs
      rw [smallI_none hs] at hq
      have fx := And.intro h0 <| And.intro h5 <| And.intro h4 <| And.intro hp4 <| And.intro hil <| And.intro hw' <| hwE
      have c1 := hq
      refine k_run ?_
      clear fx c1
      refine e_ret [(.s 2, root)] (.one rfl) (by simp; rfl) ?_
      rw [hno]
      simp
    | some b =>
      rw [smallI_some hs] at hq
      have hb0 : ¬ (b : Int) < 0 := by omega
      have fx := And.intro h0 <| And.intro h5 <| And.intro h4 <| And.intro hp4 <| And.intro hil <| And.intro hw' <| And.intro hwE <| And.intro hb0 <| hw0
      have c1 := hq
      refine k_run ?_
      clear fx c1
      refine ⟨ws.length - (i + 1), by omega, i + 1, ns ++ [b], rfl, by omega, readNs_snoc hw' hns hs, by simp [h0], by simp [hw0], by simp, ?_⟩
      have hmap : (ns ++ [b]).map (fun (n : Nat) => (n : Int)) = ns.map (fun (n : Nat) => (n : Int)) ++ [(b : Int)] := by simp
      rw [hmap, ← irows_app]
      have hLl : (ns.map fun (n : Nat) => (n : Int)).length = ns.length := by simp
      generalize (ns.map fun (n : Nat) => (n : Int)) = L at hLl ⊢
      rw [← hLl]
      simp [irows]
  · have hge : i = ws.length := by omega
    rw [hge, List.take_length] at hns
    have fx := And.intro h0 <| And.intro h5 <| And.intro h4 <| And.intro hp4 <| hil
    refine k_run ?_
    clear fx
    refine e_ret [(.s 2, root)] (.one rfl) (by simp; rfl) ?_
    rw [hns]
    simp [hp4]
end Go.Proofs.YtmaoicgfcngciaaGreatDoor
end
section
set_option maxHeartbeats 8000000
namespace Go.Proofs.YtmaoicgfcngciaaGreatDoor
open Go Go.Hm Go.Proofs
abbrev qsUz0 : Sch := .q 0 <| .q 1 <| .q 2 <| .q 3 <| .q 4 <| .q 5 <| .q 6 <| .q 7 <| .q 8 <| .q 9 <| .q 10 <| .l 11 [] <| .l 12 [] <| .done
attribute [local simp] slcAV
abbrev intsN (ns : List Nat) : List Int := ns.map fun (n : Nat) => (n : Int)
def StmtPost (k : Nat) (ns : List Nat) : AV → Prop := fun y => ∃ S : Stm, y = .tup [S.av, bv (stmtOfN k ns).isSome] ∧ ∀ s, stmtOfN k ns = some s → S = s
theorem kinds7 {k : Nat} (hk : k < 12) : k = 7 ∨ k = 8 ∨ k = 2 ∨ k = 5 ∨ k = 6 ∨ 9 ≤ k ∨ (k < 7 ∧ k ≠ 2 ∧ k ≠ 5 ∧ k ≠ 6) := by omega
theorem len_two {l : List Nat} (h : l.length = 2) : ∃ a b, l = [a, b] := by
  rcases l with _ | ⟨a, _ | ⟨b, _ | ⟨c, l⟩⟩⟩
  · simp at h
  · simp at h
  · exact ⟨a, b, rfl⟩
  · simp at h
theorem len_three {l : List Nat} (h : l.length = 3) : ∃ a b c, l = [a, b, c] := by
  rcases l with _ | ⟨a, _ | ⟨b, _ | ⟨c, _ | ⟨d, l⟩⟩⟩⟩
  · simp at h
  · simp at h
  · simp at h
  · exact ⟨a, b, c, rfl⟩
  · simp at h
theorem stmtOf_1 (gl) (k : Nat) (a : Nat) (hk : k < 12) : FnOk Tryz.prog gl 127 [iv k, isl (intsN [a])] (fun _ y _ => StmtPost k [a] y) := by
  refine FnOk.of_sem Tryz.func127 rfl (by kernel_rfl) (rs := [.cell 4 86, .tmp 5]) rfl Tryz.ntmps127 (Nat.le_of_ble_eq_true rfl) fun C w g root => ?_
  rcases kinds7 hk with rfl | rfl | rfl | rfl | rfl | h9 | ⟨h7, n2, n5, n6⟩
  · skip
    have fx := fx0
    refine k_run ?_
    repeat ((first | refine wSc (id := 15) qsUz0 mixed ?_); refine k_rund ?_; refine k_run ?_)
    clear fx
    exact e_ret [] .nil (by simp; rfl) ⟨⟨7, 0, a, 0⟩, by simp [stmtOfN], by simp [stmtOfN]⟩
  · skip
    have fx := fx0
    refine k_run ?_
    repeat ((first | refine wSc (id := 15) qsUz0 mixed ?_); refine k_rund ?_; refine k_run ?_)
    clear fx
    exact e_ret [] .nil (by simp; rfl) ⟨⟨8, 0, a, 0⟩, by simp [stmtOfN], by simp [stmtOfN]⟩
  · skip
    have fx := fx0
    refine k_run ?_
    repeat ((first | refine wSc (id := 15) qsUz0 mixed ?_); refine k_rund ?_; refine k_run ?_)
    clear fx
    exact e_ret [] .nil (by simp; rfl) ⟨⟨2, 0, 0, 0⟩, by simp [stmtOfN], by simp [stmtOfN]⟩
  · skip
    have fx := fx0
    refine k_run ?_
    repeat ((first | refine wSc (id := 15) qsUz0 mixed ?_); refine k_rund ?_; refine k_run ?_)
    clear fx
    exact e_ret [] .nil (by simp; rfl) ⟨⟨5, 0, 0, 0⟩, by simp [stmtOfN], by simp [stmtOfN]⟩
  · skip
    have fx := fx0
    refine k_run ?_
    repeat ((first | refine wSc (id := 15) qsUz0 mixed ?_); refine k_rund ?_; refine k_run ?_)
    clear fx
    exact e_ret [] .nil (by simp; rfl) ⟨⟨6, 0, 0, 0⟩, by simp [stmtOfN], by simp [stmtOfN]⟩
  · skip
    have e7 : ((k : Int) == 7) = false := by simp; omega
    have e8 : ((k : Int) == 8) = false := by simp; omega
    have e2 : ((k : Int) == 2) = false := by simp; omega
    have e5 : ((k : Int) == 5) = false := by simp; omega
    have e6 : ((k : Int) == 6) = false := by simp; omega
    have c7 : ¬ k = 7 := by omega
    have c8 : ¬ k = 8 := by omega
    have c2 : ¬ k = 2 := by omega
    have c5 : ¬ k = 5 := by omega
    have c6 : ¬ k = 6 := by omega
    have i9 : (9 : Int) ≤ k := by omega
    have l7 : ¬ k < 7 := by omega
    have i7 : ¬ (k : Int) < 7 := by omega
    have fx := And.intro e7 <| And.intro e8 <| And.intro e2 <| And.intro e5 <| And.intro e6 <| And.intro c7 <| And.intro c8 <| And.intro c2 <| And.intro c5 <| And.intro c6 <| And.intro h9 <| And.intro i9 <| And.intro l7 <| i7
    refine k_run ?_
    repeat ((first | refine wSc (id := 15) qsUz0 mixed ?_); refine k_rund ?_; refine k_run ?_)
    clear fx
    exact e_ret [] .nil (by simp; rfl) ⟨⟨k, a, 0, 0⟩, by simp [stmtOfN, e7, e8, e2, e5, e6, c7, c8, c2, c5, c6, h9, i9, l7, i7], by simp [stmtOfN, e7, e8, e2, e5, e6, c7, c8, c2, c5, c6, h9, i9, l7, i7]⟩
  · skip
    have e7 : ((k : Int) == 7) = false := by simp; omega
    have e8 : ((k : Int) == 8) = false := by simp; omega
    have e2 : ((k : Int) == 2) = false := by simp; omega
    have e5 : ((k : Int) == 5) = false := by simp; omega
    have e6 : ((k : Int) == 6) = false := by simp; omega
    have c7 : ¬ k = 7 := by omega
    have c8 : ¬ k = 8 := by omega
    have c2 : ¬ k = 2 := by omega
    have c5 : ¬ k = 5 := by omega
    have c6 : ¬ k = 6 := by omega
    have i9 : ¬ (9 : Int) ≤ k := by omega
    have h9 : ¬ 9 ≤ k := by omega
    have i7 : (k : Int) < 7 := by omega
    have fx := And.intro e7 <| And.intro e8 <| And.intro e2 <| And.intro e5 <| And.intro e6 <| And.intro c7 <| And.intro c8 <| And.intro c2 <| And.intro c5 <| And.intro c6 <| And.intro h9 <| And.intro i9 <| And.intro h7 <| i7
    refine k_run ?_
    repeat ((first | refine wSc (id := 15) qsUz0 mixed ?_); refine k_rund ?_; refine k_run ?_)
    clear fx
    exact e_ret [] .nil (by simp; rfl) ⟨⟨k, 0, 0, 0⟩, by simp [stmtOfN, e7, e8, e2, e5, e6, c7, c8, c2, c5, c6, h9, i9, h7, i7], by simp [stmtOfN, e7, e8, e2, e5, e6, c7, c8, c2, c5, c6, h9, i9, h7, i7]⟩
theorem stmtOf_2 (gl) (k : Nat) (a b : Nat) (hk : k < 12) : FnOk Tryz.prog gl 127 [iv k, isl (intsN [a, b])] (fun _ y _ => StmtPost k [a, b] y) := by
  refine FnOk.of_sem Tryz.func127 rfl (by kernel_rfl) (rs := [.cell 4 86, .tmp 5]) rfl Tryz.ntmps127 (Nat.le_of_ble_eq_true rfl) fun C w g root => ?_
  rcases kinds7 hk with rfl | rfl | rfl | rfl | rfl | h9 | ⟨h7, n2, n5, n6⟩
  · skip
    have fx := fx0
    refine k_run ?_
    repeat ((first | refine wSc (id := 15) qsUz0 mixed ?_); refine k_rund ?_; refine k_run ?_)
    clear fx
    exact e_ret [] .nil (by simp; rfl) ⟨⟨7, 0, 0, 0⟩, by simp [stmtOfN], by simp [stmtOfN]⟩
  · skip
    have fx := fx0
    refine k_run ?_
    repeat ((first | refine wSc (id := 15) qsUz0 mixed ?_); refine k_rund ?_; refine k_run ?_)
    clear fx
    exact e_ret [] .nil (by simp; rfl) ⟨⟨8, 0, 0, 0⟩, by simp [stmtOfN], by simp [stmtOfN]⟩
  · skip
    have fx := fx0
    refine k_run ?_
    repeat ((first | refine wSc (id := 15) qsUz0 mixed ?_); refine k_rund ?_; refine k_run ?_)
    clear fx
    exact e_ret [] .nil (by simp; rfl) ⟨⟨2, 0, 0, 0⟩, by simp [stmtOfN], by simp [stmtOfN]⟩
  · skip
    have fx := fx0
    refine k_run ?_
    repeat ((first | refine wSc (id := 15) qsUz0 mixed ?_); refine k_rund ?_; refine k_run ?_)
    clear fx
    exact e_ret [] .nil (by simp; rfl) ⟨⟨5, a, b, -1⟩, by simp [stmtOfN], by simp [stmtOfN]⟩
  · skip
    have fx := fx0
    refine k_run ?_
    repeat ((first | refine wSc (id := 15) qsUz0 mixed ?_); refine k_rund ?_; refine k_run ?_)
    clear fx
    exact e_ret [] .nil (by simp; rfl) ⟨⟨6, 0, 0, 0⟩, by simp [stmtOfN], by simp [stmtOfN]⟩
  · skip
    have e7 : ((k : Int) == 7) = false := by simp; omega
    have e8 : ((k : Int) == 8) = false := by simp; omega
    have e2 : ((k : Int) == 2) = false := by simp; omega
    have e5 : ((k : Int) == 5) = false := by simp; omega
    have e6 : ((k : Int) == 6) = false := by simp; omega
    have c7 : ¬ k = 7 := by omega
    have c8 : ¬ k = 8 := by omega
    have c2 : ¬ k = 2 := by omega
    have c5 : ¬ k = 5 := by omega
    have c6 : ¬ k = 6 := by omega
    have i9 : (9 : Int) ≤ k := by omega
    have l7 : ¬ k < 7 := by omega
    have i7 : ¬ (k : Int) < 7 := by omega
    have fx := And.intro e7 <| And.intro e8 <| And.intro e2 <| And.intro e5 <| And.intro e6 <| And.intro c7 <| And.intro c8 <| And.intro c2 <| And.intro c5 <| And.intro c6 <| And.intro h9 <| And.intro i9 <| And.intro l7 <| i7
    refine k_run ?_
    repeat ((first | refine wSc (id := 15) qsUz0 mixed ?_); refine k_rund ?_; refine k_run ?_)
    clear fx
    exact e_ret [] .nil (by simp; rfl) ⟨⟨k, 0, 0, 0⟩, by simp [stmtOfN, e7, e8, e2, e5, e6, c7, c8, c2, c5, c6, h9, i9, l7, i7], by simp [stmtOfN, e7, e8, e2, e5, e6, c7, c8, c2, c5, c6, h9, i9, l7, i7]⟩
  · skip
    have e7 : ((k : Int) == 7) = false := by simp; omega
    have e8 : ((k : Int) == 8) = false := by simp; omega
    have e2 : ((k : Int) == 2) = false := by simp; omega
    have e5 : ((k : Int) == 5) = false := by simp; omega
    have e6 : ((k : Int) == 6) = false := by simp; omega
    have c7 : ¬ k = 7 := by omega
    have c8 : ¬ k = 8 := by omega
    have c2 : ¬ k = 2 := by omega
    have c5 : ¬ k = 5 := by omega
    have c6 : ¬ k = 6 := by omega
    have i9 : ¬ (9 : Int) ≤ k := by omega
    have h9 : ¬ 9 ≤ k := by omega
    have i7 : (k : Int) < 7 := by omega
    have fx := And.intro e7 <| And.intro e8 <| And.intro e2 <| And.intro e5 <| And.intro e6 <| And.intro c7 <| And.intro c8 <| And.intro c2 <| And.intro c5 <| And.intro c6 <| And.intro h9 <| And.intro i9 <| And.intro h7 <| And.intro i7 <| @bne_def
    refine k_run ?_
    repeat ((first | refine wSc (id := 15) qsUz0 mixed ?_); refine k_rund ?_; refine k_run ?_)
    clear fx
    exact e_ret [] .nil (by simp; rfl) ⟨⟨k, a, b, 0⟩, by simp [stmtOfN, e7, e8, e2, e5, e6, c7, c8, c2, c5, c6, h9, i9, h7, i7], by simp [stmtOfN, e7, e8, e2, e5, e6, c7, c8, c2, c5, c6, h9, i9, h7, i7]⟩
end Go.Proofs.YtmaoicgfcngciaaGreatDoor
end
