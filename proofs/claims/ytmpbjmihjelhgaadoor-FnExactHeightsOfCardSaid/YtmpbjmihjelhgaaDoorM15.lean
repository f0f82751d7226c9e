/-
  Own texts, joined by mkclaim.py: Ga, Gb, Gt, Gu.
-/
import Derived.Test.YtmpbjmihjelhgaaDoorM14
import Derived.Test.YtmpbjmihjelhgaaDoorM09
import Derived.Test.YtmpbjmihjelhgaaDoorM11
set_option linter.unusedSimpArgs false
set_option linter.unusedVariables false

section
/-
  Small functions: what they return.
-/
set_option maxRecDepth 100000
set_option maxHeartbeats 1000000
set_option linter.unusedSimpArgs false
namespace Go.Proofs.YtmpbjmihjelhgaaDoor
open Go Go.Hm Go.Proofs

theorem inRange_fn (gl) (n lo hi : Int) : FnOk Tryd.prog gl 70 [iv n, iv lo, iv hi] (fun _ x _ => x = bv (decide (lo ≤ n) && decide (n ≤ hi))) := by
  refine FnOk.of_sem Tryd.func70 rfl (by kernel_rfl) (rs := [.tmp 6]) rfl Tryd.ntmps70 (Nat.le_of_ble_eq_true rfl) fun C w g root => ?_
  all_goals have fx := fx0
  repeat' (first
   | refine w_seq ?_ | refine w_reg fun K hK => ?_
   | ((with_reducible refine s_end hK ?_); clear hK K)
   | (with_reducible first | refine then_normal ?_)
   | refine w_ret ?_
   | (with_reducible refine s_none ?_)
   | ((with_reducible refine g_id ?_); refine x_guard (h := ?_))
   | (with_reducible first | refine gx_tt ?_ | refine x_tf (h := ?_) | refine x_assign (h := ?_))
   | (with_reducible refine x_q (h := ?_))
   | (with_reducible refine gx_s (fun ht => ?_) (fun ht => ?_))
   | fail)
  all_goals try clear fx
  all_goals refine e_ret [] .nil (by simp; rfl) ?_
  all_goals simp_all
  omega

theorem spec_isName_fn (gl) (n : Int) : FnOk Tryd.prog gl 126 [iv n] (fun _ x _ => x = bv (decide (0 ≤ n) && decide (n ≤ 7))) := by
  refine FnOk.of_sem Tryd.func126 rfl (by kernel_rfl) (rs := [.tmp 2]) rfl Tryd.ntmps126 (Nat.le_of_ble_eq_true rfl) fun C w g root => ?_
  all_goals have fx := fx0
  repeat' (first
   | refine w_seq ?_ | refine w_reg fun K hK => ?_
   | ((with_reducible refine s_end hK ?_); clear hK K)
   | (with_reducible first | refine then_normal ?_)
   | refine w_ret ?_
   | (with_reducible first | refine s_none ?_ | refine x_assign (h := ?_))
   | ((with_reducible refine o_id 70 rfl ?_); refine x_call (hF := inRange_fn _ _ _ _) (h := ?_))
   | (with_reducible refine x_q (h := ?_))
   | fail)
  all_goals try clear fx
  refine e_ret [] .nil (by simp; rfl) (by simp)

theorem impl_isName_fn (gl) (n : Int) : FnOk Tryd.prog gl 63 [iv n] (fun _ x _ => x = bv (decide (0 ≤ n) && decide (n ≤ 7))) := by
  refine FnOk.of_sem Tryd.func63 rfl (by kernel_rfl) (rs := [.tmp 2]) rfl Tryd.ntmps63 (Nat.le_of_ble_eq_true rfl) fun C w g root => ?_
  all_goals have fx := fx0
  repeat' (first
   | refine w_seq ?_ | refine w_reg fun K hK => ?_
   | ((with_reducible refine s_end hK ?_); clear hK K)
   | (with_reducible first | refine then_normal ?_)
   | refine w_ret ?_
   | (with_reducible refine s_none ?_)
   | ((with_reducible refine g_id ?_); refine x_guard (h := ?_))
   | (with_reducible first | refine gx_tt ?_ | refine x_tf (h := ?_) | refine x_assign (h := ?_))
   | (with_reducible refine x_q (h := ?_))
   | (with_reducible refine gx_s (fun ht => ?_) (fun ht => ?_))
   | fail)
  all_goals try clear fx
  all_goals refine e_ret [] .nil (by simp; rfl) ?_
  all_goals simp_all
  omega

theorem placeIn_fn (gl) (xs : List Int) (x : Int) (hlen : xs.length ≤ 4294967296) : FnOk Tryd.prog gl 92 [isl xs, iv x] (fun _ z _ => z = iv (placeIn xs x)) := by
  refine FnOk.of_sem Tryd.func92 rfl (by kernel_rfl) (rs := [.tmp 4]) rfl Tryd.ntmps92 (Nat.le_of_ble_eq_true rfl) fun C w g root => ?_
  all_goals have fx := fx0
  repeat' (first
   | refine w_seq ?_ | refine w_block ?_ | refine w_reg fun K hK => ?_
   | ((with_reducible refine s_end hK ?_); clear hK K)
   | (with_reducible first | refine s_none ?_ | refine x_assign (h := ?_))
   | fail)
  all_goals try clear fx
  refine w_loop (fun n st => ∃ i : Nat, n = xs.length - i ∧ i ≤ xs.length ∧ st.tm 0 = isl xs ∧ st.tm 1 = iv x ∧ st.tm 5 = iv i ∧ ∀ j < i, xs[j]? ≠ some x) xs.length ⟨0, by simp⟩ ?_
  rintro n st - - ⟨i, rfl, hi, h0, h1, h5, hno⟩
  all_goals have fx := And.intro h0 <| And.intro h1 <| h5
  repeat' (first
   | refine w_seq ?_ | refine w_reg fun K hK => ?_
   | ((with_reducible refine s_end hK ?_); clear hK K)
   | (with_reducible first | refine then_normal ?_)
   | (with_reducible first | refine s_none ?_)
   | (with_reducible refine x_q (h := ?_))
   | fail)
  all_goals try clear fx
  refine w_if (by simp []; first | done | rfl | exact (Bool.not_not _).symm) (fun ht => ?_) (fun hf => ?_)
  · have hlt : i < xs.length := by simpa using ht
    obtain ⟨y, hy⟩ : ∃ y, xs[i]? = some y := ⟨xs[i], List.getElem?_eq_getElem hlt⟩
    all_goals have fx := And.intro h0 <| And.intro h1 <| And.intro h5 <| hy
    repeat' (first
     | refine w_seq ?_ | refine w_block ?_ | refine w_skip ?_ | refine w_reg fun K hK => ?_
     | ((with_reducible refine s_end hK ?_); clear hK K)
     | (with_reducible first | refine then_normal ?_)
     | (with_reducible first | refine s_none ?_)
     | (with_reducible refine x_q (h := ?_))
     | fail)
    all_goals try clear fx
    refine w_if (by simp []; first | done | rfl | exact (Bool.not_not _).symm) (fun ht => ?_) (fun hf => ?_)
    · skip
      all_goals have fx := And.intro h0 <| And.intro h1 <| h5
      repeat' (first
       | refine w_seq ?_ | refine w_reg fun K hK => ?_
       | ((with_reducible refine s_end hK ?_); clear hK K)
       | (with_reducible first | refine then_normal ?_ | refine then_ret ?_ | refine in_ret ?_)
       | refine w_ret ?_
       | (with_reducible first | refine s_none ?_ | refine x_assign (h := ?_))
       | (with_reducible refine x_q (h := ?_))
       | fail)
      all_goals try clear fx
      refine e_ret [] .nil (by simp [h5]; rfl) ?_
      have hyx : y = x := by simpa using ht
      subst hyx
      have : xs.findIdx? (· == y) = some i := by
        rw [List.findIdx?_eq_some_iff_getElem]
        refine ⟨hlt, ?_, fun j hj => ?_⟩
        · rw [List.getElem?_eq_getElem hlt] at hy; simpa using Option.some.inj hy
        · have := hno j hj
          rw [List.getElem?_eq_getElem (by omega)] at this
          simpa using this
      simp [placeIn, this]
    · skip
      all_goals have fx := And.intro h0 <| And.intro h1 <| h5
      repeat' (first
       | refine w_skip ?_ | refine w_reg fun K hK => ?_
       | ((with_reducible refine s_end hK ?_); clear hK K)
       | (with_reducible first | refine then_normal ?_)
       | (with_reducible first | refine s_none ?_ | refine x_assign (h := ?_))
       | (with_reducible refine x_q (h := ?_))
       | fail)
      all_goals try clear fx
      refine ⟨xs.length - (i + 1), by omega, i + 1, rfl, by omega, ?_⟩
      simp [h0, h1]
      refine ⟨wrp (by omega) (by omega), fun j hj => ?_⟩
      rcases Nat.lt_succ_iff_lt_or_eq.1 hj with h | rfl
      · exact hno j h
      · rw [hy]; simpa using hf
  · skip
    all_goals have fx := And.intro h0 <| And.intro h1 <| h5
    repeat' (first
     | refine w_seq ?_ | refine w_reg fun K hK => ?_
     | ((with_reducible refine s_end hK ?_); clear hK K)
     | (with_reducible first | refine then_normal ?_)
     | refine w_exit ?_
     | refine w_ret ?_
     | (with_reducible first | refine s_none ?_ | refine x_assign (h := ?_))
     | fail)
    all_goals try clear fx
    refine e_ret [] .nil (by simp; rfl) ?_
    have hge : i = xs.length := by have : ¬ i < xs.length := by simpa using hf
                                   omega
    have : xs.findIdx? (· == x) = none := by
      rw [List.findIdx?_eq_none_iff]
      intro y hy
      obtain ⟨j, hj, rfl⟩ := List.getElem_of_mem hy
      have := hno j (by omega)
      rw [List.getElem?_eq_getElem hj] at this
      simpa using this
    simp [placeIn, this]
end Go.Proofs.YtmpbjmihjelhgaaDoor
end

section
/-
  Functions of the reference on statements and blocks: what they return.
-/
set_option maxRecDepth 100000
set_option maxHeartbeats 1000000
set_option linter.unusedSimpArgs false
namespace Go.Proofs.YtmpbjmihjelhgaaDoor
open Go Go.Hm Go.Proofs

theorem has_fn (gl) (xs : List Int) (x : Int) (hlen : xs.length ≤ 4294967296) : FnOk Tryd.prog gl 90 [isl xs, iv x] (fun _ z _ => z = bv (decide (x ∈ xs))) := by
  refine FnOk.of_sem Tryd.func90 rfl (by kernel_rfl) (rs := [.tmp 4]) rfl Tryd.ntmps90 (Nat.le_of_ble_eq_true rfl) fun C w g root => ?_
  all_goals have fx := fx0
  repeat' (first
   | refine w_seq ?_ | refine w_reg fun K hK => ?_
   | ((with_reducible refine s_end hK ?_); clear hK K)
   | (with_reducible first | refine then_normal ?_)
   | refine w_ret ?_
   | (with_reducible first | refine s_none ?_ | refine x_assign (h := ?_))
   | ((with_reducible refine o_id 92 rfl ?_); refine x_call (hF := placeIn_fn _ _ _ hlen) (h := ?_))
   | (with_reducible refine x_q (h := ?_))
   | fail)
  all_goals try clear fx
  refine e_ret [] .nil (by simp []; rfl) (by simp [placeIn_nonneg])

theorem sorted_fn (gl) (xs : List Int) (hlen : xs.length ≤ 4294967296) : FnOk Tryd.prog gl 120 [isl xs] (fun r y H' => y = .hs r 1 0 (sorted xs).length ∧ H' r = some (.row 1 (irows (sorted xs)))) := by
  refine FnOk.of_sem Tryd.func120 rfl (by kernel_rfl) (rs := [.tmp 2]) rfl Tryd.ntmps120 (Nat.le_of_ble_eq_true rfl) fun C w g root => ?_
  all_goals have fx := fx0
  repeat' (first
   | refine w_seq ?_ | refine w_block ?_ | refine w_reg fun K hK => ?_
   | ((with_reducible refine s_end hK ?_); clear hK K)
   | (with_reducible first | refine s_none ?_ | refine x_assign (h := ?_) | refine x_build (h := ?_))
   | fail)
  all_goals try clear fx
  refine w_loop (fun n st => ∃ i : Nat, n = 8 - i ∧ i ≤ 8 ∧ st.tm 0 = isl xs ∧ st.tm 4 = iv i ∧ st.tm 3 = .hs (.s 3) 1 0 (sortedTo xs i).length ∧ st.hp (.s 3) = some (.row 1 (irows (sortedTo xs i)))) 8 ?_ ?_
  · exact ⟨0, by simp [sortedTo]⟩
  rintro n st - - ⟨i, rfl, hi, h0, h4, h3, hp3⟩
  have hsl := sortedTo_len (xs := xs) i
  all_goals have fx := And.intro h0 <| And.intro h4 <| And.intro h3 <| hp3
  repeat' (first
   | refine w_seq ?_ | refine w_reg fun K hK => ?_
   | ((with_reducible refine s_end hK ?_); clear hK K)
   | (with_reducible first | refine then_normal ?_)
   | (with_reducible first | refine s_none ?_)
   | (with_reducible refine x_q (h := ?_))
   | fail)
  all_goals try clear fx
  refine w_if (by simp []; first | done | rfl | exact (Bool.not_not _).symm) (fun ht => ?_) (fun hf => ?_)
  · have hlt : (i : Int) ≤ 7 := by simpa using ht
    all_goals have fx := And.intro h0 <| And.intro h4 <| And.intro h3 <| hp3
    repeat' (first
     | refine w_seq ?_ | refine w_block ?_ | refine w_skip ?_ | refine w_reg fun K hK => ?_
     | ((with_reducible refine s_end hK ?_); clear hK K)
     | (with_reducible first | refine then_normal ?_)
     | (with_reducible first | refine s_none ?_)
     | ((with_reducible refine o_id 92 rfl ?_); refine x_call (hF := placeIn_fn _ _ _ hlen) (h := ?_))
     | (with_reducible refine x_q (h := ?_))
     | fail)
    all_goals try clear fx
    refine w_if (by simp []; first | done | rfl | exact (Bool.not_not _).symm) (fun ht => ?_) (fun hf => ?_)
    · have hm : (i : Int) ∈ xs := placeIn_nonneg.1 (by simpa using ht)
      all_goals have fx := And.intro h0 <| And.intro h4 <| And.intro h3 <| hp3
      repeat' (first
       | refine w_reg fun K hK => ?_
       | ((with_reducible refine s_end hK ?_); clear hK K)
       | (with_reducible first | refine then_normal ?_)
       | (with_reducible first | refine s_none ?_ | refine x_assign (h := ?_) | refine x_append (T := 34) (h := ?_) | refine x_build (h := ?_))
       | (with_reducible refine x_q (h := ?_))
       | fail)
      all_goals try clear fx
      refine ⟨8 - (i + 1), by omega, i + 1, rfl, by omega, ?_⟩
      simp [h0, h3, sortedTo, hm]
      exact wrp (by omega) (by omega)
    · have hm : ¬ (i : Int) ∈ xs := fun h => by simp [placeIn_nonneg.2 h] at hf
      all_goals have fx := And.intro h0 <| And.intro h4 <| And.intro h3 <| hp3
      repeat' (first
       | refine w_skip ?_ | refine w_reg fun K hK => ?_
       | ((with_reducible refine s_end hK ?_); clear hK K)
       | (with_reducible first | refine then_normal ?_)
       | (with_reducible first | refine s_none ?_ | refine x_assign (h := ?_))
       | (with_reducible refine x_q (h := ?_))
       | fail)
      all_goals try clear fx
      refine ⟨8 - (i + 1), by omega, i + 1, rfl, by omega, ?_⟩
      simp [h0, h3, hp3, sortedTo, hm]
      exact wrp (by omega) (by omega)
  · have h8 : i = 8 := by
      have : ¬ (i : Int) ≤ 7 := by simpa using hf
      omega
    subst h8
    all_goals have fx := And.intro h0 <| And.intro h4 <| And.intro h3 <| hp3
    repeat' (first
     | refine w_seq ?_ | refine w_reg fun K hK => ?_
     | ((with_reducible refine s_end hK ?_); clear hK K)
     | (with_reducible first | refine then_normal ?_)
     | refine w_exit ?_
     | refine w_ret ?_
     | (with_reducible first | refine s_none ?_ | refine x_assign (h := ?_))
     | (with_reducible refine x_q (h := ?_))
     | fail)
    all_goals try clear fx
    exact e_list (t := 2) (by first | (simp [hp3]; done) | (simp [hp3]; rfl)) (by first | (simp [hp3]; done) | (simp [hp3]; rfl)) (by simp)

theorem readsOf_fn (gl) (s : Stm) : FnOk Tryd.prog gl 137 [Stm.av s] (fun r y H' => y = .hs r 1 0 s.reads.length ∧ H' r = some (.row 1 (irows s.reads))) := by
  refine FnOk.of_sem Tryd.func137 rfl (by kernel_rfl) (rs := [.tmp 2]) rfl Tryd.ntmps137 (Nat.le_of_ble_eq_true rfl) fun C w g root => ?_
  obtain ⟨kind, to, a, b⟩ := s
  all_goals have fx := fx0
  repeat' (first
   | refine w_seq ?_ | refine w_block ?_ | refine w_skip ?_ | refine w_reg fun K hK => ?_
   | ((with_reducible refine s_end hK ?_); clear hK K)
   | (with_reducible first | refine then_normal ?_ | refine then_ret ?_ | refine in_ret ?_)
   | refine w_ret ?_
   | (with_reducible first | refine s_none ?_ | refine x_assign (h := ?_) | refine x_box (h := ?_) | refine x_build (h := ?_))
   | (with_reducible refine x_q (h := ?_))
   | refine x_condt (h1 := ?_)
   | refine x_if (h1 := fun ht => ?_) (h2 := fun ht => ?_)
   | fail)
  all_goals try clear fx
  all_goals refine e_list (t := 2) ?_ ?_ ?_
  all_goals simp_all [Stm.reads, irows]

theorem sets_fn (gl) (s : Stm) : FnOk Tryd.prog gl 145 [Stm.av s] (fun _ x _ => x = bv (decide s.sets)) := by
  refine FnOk.of_sem Tryd.func145 rfl (by kernel_rfl) (rs := [.tmp 2]) rfl Tryd.ntmps145 (Nat.le_of_ble_eq_true rfl) fun C w g root => ?_
  all_goals have fx := fx0
  repeat' (first
   | refine w_seq ?_ | refine w_reg fun K hK => ?_
   | ((with_reducible refine s_end hK ?_); clear hK K)
   | (with_reducible first | refine then_normal ?_)
   | refine w_ret ?_
   | (with_reducible first | refine s_none ?_ | refine x_assign (h := ?_) | refine x_box (h := ?_))
   | ((with_reducible refine o_id 70 rfl ?_); refine x_call (hF := inRange_fn _ _ _ _) (h := ?_))
   | (with_reducible refine x_q (h := ?_))
   | fail)
  all_goals try clear fx
  refine e_ret [] .nil (by simp []; rfl) (by simp [])

theorem copyInts_fn (gl) (xs : List Int) (hlen : xs.length ≤ 4294967296) : FnOk Tryd.prog gl 110 [isl xs] (fun r y H' => y = .hs r 1 0 xs.length ∧ H' r = some (.row 1 (irows xs))) := by
  refine FnOk.of_sem Tryd.func110 rfl (by kernel_rfl) (rs := [.tmp 2]) rfl Tryd.ntmps110 (Nat.le_of_ble_eq_true rfl) fun C w g root => ?_
  all_goals have fx := fx0
  repeat' (first
   | refine w_seq ?_ | refine w_reg fun K hK => ?_
   | ((with_reducible refine s_end hK ?_); clear hK K)
   | (with_reducible first | refine then_normal ?_)
   | refine w_ret ?_
   | (with_reducible first | refine s_none ?_ | refine x_assign (h := ?_) | refine x_append (T := 34) (h := ?_) | refine x_build (h := ?_))
   | (with_reducible refine x_q (h := ?_))
   | fail)
  all_goals try clear fx
  exact e_list (t := 2) (by first | (simp []; done) | (simp []; rfl)) (by first | (simp []; done) | (simp []; rfl)) (by simp)

theorem take_succ_readsAll {ss : List Stm} {s : Stm} {i : Nat} (h : ss[i]? = some s) : readsAll (ss.take (i + 1)) = readsAll (ss.take i) ++ s.reads := by
  rw [List.take_add_one, h]; simp [readsAll]

theorem read_fn (gl) (p : Prg) (b : Nat) (k : Blk) (hk : p[b]? = some k) (hlen : k.body.length ≤ 1048576) : FnOk Tryd.prog gl 121 [pav p, iv b] (fun r y H' => y = .hs r 1 0 (sorted (readsAll k.body)).length ∧ H' r = some (.row 1 (irows (sorted (readsAll k.body))))) := by
  refine FnOk.of_sem Tryd.func121 rfl (by kernel_rfl) (rs := [.tmp 4]) rfl Tryd.ntmps121 (Nat.le_of_ble_eq_true rfl) fun C w g root => ?_
  all_goals have fx := fx0
  repeat' (first
   | refine w_seq ?_ | refine w_block ?_ | refine w_reg fun K hK => ?_
   | ((with_reducible refine s_end hK ?_); clear hK K)
   | (with_reducible first | refine s_none ?_ | refine x_assign (h := ?_) | refine x_box (h := ?_) | refine x_build (h := ?_))
   | fail)
  all_goals try clear fx
  refine w_loop (fun n st => ∃ i : Nat, n = k.body.length - i ∧ i ≤ k.body.length ∧ st.tm 1 = iv b ∧ st.tm 2 = .pt (.s 2) 0 ∧ st.hp (.s 2) = some (.row 1 [[ksl p]]) ∧ st.tm 6 = iv i ∧ st.tm 5 = .hs (.s 5) 1 0 (readsAll (k.body.take i)).length ∧ st.hp (.s 5) = some (.row 1 (irows (readsAll (k.body.take i))))) k.body.length ?_ ?_
  · exact ⟨0, by simp [readsAll]⟩
  rintro n st - - ⟨i, rfl, hi, h1, h2, hp2, h6, h5, hp5⟩
  have hrl := readsAll_len (k.body.take i)
  rw [List.length_take] at hrl
  all_goals have fx := And.intro h1 <| And.intro h2 <| And.intro hp2 <| And.intro h6 <| And.intro h5 <| And.intro hp5 <| hk
  repeat' (first
   | refine w_seq ?_ | refine w_reg fun K hK => ?_
   | ((with_reducible refine s_end hK ?_); clear hK K)
   | (with_reducible first | refine then_normal ?_)
   | (with_reducible first | refine s_none ?_)
   | (with_reducible refine x_q (h := ?_))
   | fail)
  all_goals try clear fx
  refine w_if (by simp []; first | done | rfl | exact (Bool.not_not _).symm) (fun ht => ?_) (fun hf => ?_)
  · have hlt : i < k.body.length := by simpa using ht
    obtain ⟨s, hs⟩ : ∃ s, k.body[i]? = some s := ⟨_, List.getElem?_eq_getElem hlt⟩
    have hsl := s.reads_len
    all_goals have fx := And.intro h1 <| And.intro h2 <| And.intro hp2 <| And.intro h6 <| And.intro h5 <| And.intro hp5 <| And.intro hk <| hs
    repeat' (first
     | refine w_seq ?_ | refine w_block ?_ | refine w_skip ?_ | refine w_reg fun K hK => ?_
     | ((with_reducible refine s_end hK ?_); clear hK K)
     | (with_reducible first | refine then_normal ?_)
     | (with_reducible first | refine s_none ?_ | refine x_assign (h := ?_) | refine x_append (T := 34) (h := ?_))
     | ((with_reducible refine o_id 137 rfl ?_); refine x_callh (hF := readsOf_fn _ s) (h := ?_))
     | (with_reducible refine x_q (h := ?_))
     | fail)
    all_goals try clear fx
    refine ⟨k.body.length - (i + 1), by omega, i + 1, rfl, by omega, ?_⟩
    simp [h1, h2, hp2, h5, take_succ_readsAll hs]
    exact wrp (by omega) (by omega)
  · have h8 : i = k.body.length := by
      have : ¬ i < k.body.length := by simpa using hf
      omega
    subst h8
    all_goals have fx := And.intro h1 <| And.intro h2 <| And.intro hp2 <| And.intro h6 <| And.intro h5 <| And.intro hp5 <| hk
    repeat' (first
     | refine w_seq ?_ | refine w_reg fun K hK => ?_
     | ((with_reducible refine s_end hK ?_); clear hK K)
     | (with_reducible first | refine then_normal ?_)
     | refine w_exit ?_
     | refine w_ret ?_
     | (with_reducible first | refine s_none ?_ | refine x_assign (h := ?_))
     | ((with_reducible refine o_id 120 rfl ?_); refine x_callh (hF := sorted_fn _ (readsAll k.body) (by rw [List.take_length] at hrl; omega)) (h := ?_))
     | (with_reducible refine x_q (h := ?_))
     | fail)
    all_goals try clear fx
    exact e_list (t := 4) (by first | (simp []; done) | (simp []; rfl)) (by first | (simp []; done) | (simp []; rfl)) (by simp)
end Go.Proofs.YtmpbjmihjelhgaaDoor
end

section
/-
  The generator's readers: what they read.
-/
set_option maxRecDepth 100000
set_option maxHeartbeats 1000000
set_option linter.unusedSimpArgs false
namespace Go.Proofs.YtmpbjmihjelhgaaDoor
open Go Go.Hm Go.Proofs

theorem tmod_nat {v : Int} {n : Nat} (hv : 0 ≤ v) (hn : 0 < n) : ∃ k : Nat, v.tmod n = k ∧ k < n := by
  have h1 := Int.tmod_nonneg n hv
  have h2 := Int.tmod_lt_of_pos v (show (0 : Int) < n by omega)
  exact ⟨(v.tmod n).toNat, by omega, by omega⟩

theorem xor_nat {x y : Int} (hx : 0 ≤ x ∧ x ≤ 1000000000000) (hy : 0 ≤ y ∧ y ≤ 1000000000000) : ∃ r : Nat, IntKind.i64.wrap (((x % 2 ^ IntKind.i64.bits).toNat ^^^ (y % 2 ^ IntKind.i64.bits).toNat : Nat) : Int) = r := by
  have e : ∀ z : Int, 0 ≤ z ∧ z ≤ 1000000000000 → (z % 2 ^ IntKind.i64.bits).toNat < 2 ^ 40 := by
    intro z hz
    simp only [show IntKind.i64.bits = 64 from rfl]
    omega
  have h := Nat.xor_lt_two_pow (e x hx) (e y hy)
  exact ⟨_, wrp (by omega) (by omega)⟩
@[simp] theorem int_xorv {k : IntKind} {x y : Int} : intAV k .xor x y = some (.sc (.int k (k.wrap ((BitVec.ofInt k.bits x ^^^ BitVec.ofInt k.bits y).toNat : Int)))) := rfl

theorem pick_fn (gl) (H : Nm → Option AO) (bs : List Int) (pos n : Nat) (hb : BytesOk bs) (hpos : pos ≤ 1000000) (hn : n ≤ 1000000) (hH : H (.u 1 0 0) = some (rdO bs pos)) :
    FnE Tryd.prog gl 77 (Nm.under (.u 1 0 0)) [.pt (.u 1 0 0) 0, iv n] H (fun _ z H' => ∃ k : Nat, z = iv k ∧ (k = 0 ∨ k < n) ∧ H' (.u 1 0 0) = some (rdO bs (pos + 1))) noE := by
  have w1 : IntKind.i64.wrap ((pos : Int) + 1) = pos + 1 := wrp (by omega) (by omega)
  have w0 : IntKind.i64.wrap (pos : Int) = pos := wrp (by omega) (by omega)
  have hbl := hb.len
  refine FnE.of_sem Tryd.func77 rfl (by kernel_rfl) (rs := [.tmp 4]) rfl Tryd.ntmps77 (Nat.le_of_ble_eq_true rfl) (fun _ => under_usroot rfl) fun C w g root hroot => ?_
  rcases Nat.eq_zero_or_pos n with rfl | hn0
  · skip
    all_goals have fx := And.intro hH <| w1
    repeat' (first
     | refine w_seq ?_ | refine w_reg fun K hK => ?_
     | ((with_reducible refine s_end hK ?_); clear hK K)
     | (with_reducible first | refine then_normal ?_ | refine then_ret ?_)
     | refine w_ret ?_
     | (with_reducible refine s_none ?_)
     | ((with_reducible refine g_id ?_); refine x_guard (h := ?_))
     | (with_reducible first | refine x_ft (h := ?_) | refine x_assign (h := ?_) | refine x_store0 (h := ?_))
     | (with_reducible refine x_q (h := ?_))
     | refine x_condt (h1 := ?_)
     | fail)
    all_goals try clear fx
    refine e_ret [] .nil (by simp; rfl) ⟨0, by simp, .inl rfl, by simp [hH]⟩
  have hn1 : ¬ (n : Int) < 1 := by omega
  rcases Nat.eq_zero_or_pos bs.length with hl0 | hl
  · skip
    all_goals have fx := And.intro hH <| And.intro w1 <| And.intro hn1 <| hl0
    repeat' (first
     | refine w_seq ?_ | refine w_reg fun K hK => ?_
     | ((with_reducible refine s_end hK ?_); clear hK K)
     | (with_reducible first | refine then_normal ?_ | refine then_ret ?_)
     | refine w_ret ?_
     | (with_reducible refine s_none ?_)
     | ((with_reducible refine g_id ?_); refine x_guard (h := ?_))
     | (with_reducible first | refine gx_ff ?_ | refine x_assign (h := ?_) | refine x_store0 (h := ?_))
     | (with_reducible refine x_q (h := ?_))
     | refine x_condt (h1 := ?_)
     | fail)
    all_goals try clear fx
    refine e_ret [] .nil (by simp; rfl) ⟨0, by simp, .inl rfl, by simp [hH]⟩
  have hl1 : ((bs.length : Int) == 0) = false := by rw [beq_eq_false_iff_ne]; omega
  have hn2 : ¬ n = 0 := by omega
  by_cases hpl : pos < bs.length
  · obtain ⟨v, hv⟩ : ∃ v, bs[pos]? = some v := ⟨_, List.getElem?_eq_getElem hpl⟩
    obtain ⟨_, hvE⟩ := List.getElem?_eq_some_iff.1 hv
    have hvr := hb.rng v (List.mem_of_getElem? hv)
    obtain ⟨k, hk, hkn⟩ := tmod_nat hvr.1 hn0
    have wv : IntKind.i64.wrap v = v := wrp (by omega) (by omega)
    all_goals have fx := And.intro hH <| And.intro w1 <| And.intro w0 <| And.intro hn1 <| And.intro hl1 <| And.intro hpl <| And.intro hv <| And.intro hvE <| And.intro hn2 <| And.intro hk <| wv
    repeat' (first
     | refine w_seq ?_ | refine w_skip ?_ | refine w_reg fun K hK => ?_
     | ((with_reducible refine s_end hK ?_); clear hK K)
     | (with_reducible first | refine then_normal ?_ | refine then_ret ?_)
     | refine w_ret ?_
     | (with_reducible refine s_none ?_)
     | ((with_reducible refine g_id ?_); refine x_guard (h := ?_))
     | (with_reducible first | refine gx_ff ?_ | refine x_assign (h := ?_) | refine x_store0 (h := ?_))
     | (with_reducible refine x_q (h := ?_))
     | refine x_condt (h1 := ?_) | refine x_condf (h1 := ?_)
     | fail)
    all_goals try clear fx
    refine e_ret [] .nil (by simp; rfl) ⟨k, by simp, .inr hkn, by simp [hH]⟩
  have hbl0 : ¬ bs.length = 0 := by omega
  obtain ⟨i1, hi1, hi1l⟩ := tmod_nat (v := (pos : Int)) (by omega) hl
  obtain ⟨i2, hi2, hi2l⟩ := tmod_nat (v := (pos : Int) * 7 + 3) (by omega) hl
  obtain ⟨b1, hb1⟩ : ∃ v, bs[i1]? = some v := ⟨_, List.getElem?_eq_getElem hi1l⟩
  obtain ⟨b2, hb2⟩ : ∃ v, bs[i2]? = some v := ⟨_, List.getElem?_eq_getElem hi2l⟩
  obtain ⟨_, hb1E⟩ := List.getElem?_eq_some_iff.1 hb1
  obtain ⟨_, hb2E⟩ := List.getElem?_eq_some_iff.1 hb2
  have hr1 := hb.rng b1 (List.mem_of_getElem? hb1)
  have hr2 := hb.rng b2 (List.mem_of_getElem? hb2)
  have wb1 : IntKind.i64.wrap b1 = b1 := wrp (by omega) (by omega)
  have wb2 : IntKind.i64.wrap b2 = b2 := wrp (by omega) (by omega)
  have w7 : IntKind.i64.wrap ((pos : Int) * 7) = pos * 7 := wrp (by omega) (by omega)
  have w73 : IntKind.i64.wrap ((pos : Int) * 7 + 3) = pos * 7 + 3 := wrp (by omega) (by omega)
  obtain ⟨q, hq, hql⟩ : ∃ q : Nat, (pos : Int) / (bs.length : Int) = q ∧ q ≤ pos := ⟨pos / bs.length, by simp, Nat.div_le_self _ _⟩
  have wq : IntKind.i64.wrap (q : Int) = q := wrp (by omega) (by omega)
  have w131 : IntKind.i64.wrap (b1 * 131) = b1 * 131 := wrp (by omega) (by omega)
  have w1117 : IntKind.i64.wrap (b2 * 1117) = b2 * 1117 := wrp (by omega) (by omega)
  have wa : IntKind.i64.wrap (b1 * 131 + b2 * 1117) = b1 * 131 + b2 * 1117 := wrp (by omega) (by omega)
  have w29 : IntKind.i64.wrap ((pos : Int) * 29) = pos * 29 := wrp (by omega) (by omega)
  have wb : IntKind.i64.wrap (b1 * 131 + b2 * 1117 + pos * 29) = b1 * 131 + b2 * 1117 + pos * 29 := wrp (by omega) (by omega)
  have w53 : IntKind.i64.wrap ((q : Int) * 53) = q * 53 := wrp (by omega) (by omega)
  obtain ⟨X, hX⟩ : ∃ X, X = b1 * 131 + b2 * 1117 + pos * 29 + q * 53 := ⟨_, rfl⟩
  have wX : IntKind.i64.wrap (b1 * 131 + b2 * 1117 + pos * 29 + q * 53) = X := by rw [hX]; exact wrp (by omega) (by omega)
  obtain ⟨Y, hY, hYr⟩ : ∃ Y, X.tdiv 64 = Y ∧ 0 ≤ Y ∧ Y ≤ X := by
    refine ⟨_, rfl, Int.tdiv_nonneg (by omega) (by decide), ?_⟩
    exact Int.tdiv_le_self _ (by omega)
  have wY : IntKind.i64.wrap Y = Y := wrp (by omega) (by omega)
  obtain ⟨r, hr⟩ := xor_nat (x := X) (y := Y) (by omega) (by omega)
  obtain ⟨k, hk, hkn⟩ := tmod_nat (v := (r : Int)) (by omega) hn0
  all_goals have fx := And.intro hH <| And.intro w1 <| And.intro w0 <| And.intro hn1 <| And.intro hl1 <| And.intro hpl <| And.intro hi1 <| And.intro hi2 <| And.intro hi1l <| And.intro hi2l <| And.intro hb1 <| And.intro hb2 <| And.intro hb1E <| And.intro hb2E <| And.intro wb1 <| And.intro wb2 <| And.intro w7 <| And.intro w73 <| And.intro hbl0 <| And.intro hq <| And.intro wq <| And.intro w131 <| And.intro w1117 <| And.intro wa <| And.intro w29 <| And.intro wb <| And.intro w53 <| And.intro wX <| And.intro hY <| And.intro wY <| And.intro hr <| And.intro hn2 <| hk
  repeat' (first
   | refine w_seq ?_ | refine w_skip ?_ | refine w_reg fun K hK => ?_
   | ((with_reducible refine s_end hK ?_); clear hK K)
   | (with_reducible first | refine then_normal ?_ | refine s_nil ?_)
   | refine w_ret ?_
   | (with_reducible refine s_none ?_)
   | ((with_reducible refine g_id ?_); refine x_guard (h := ?_))
   | (with_reducible first | refine gx_ff ?_ | refine x_assign (h := ?_) | refine x_store0 (h := ?_))
   | (with_reducible refine x_q (h := ?_))
   | refine x_condf (h1 := ?_)
   | (refine w_sch (id := 7) (.q 0 <| .q 1 <| .q 2 <| .q 3 <| .q 4 <| .q 5 <| .q 6 <| .q 7 <| .q 8 <| .q 9 <| .q 10 <| .q 11 <| .q 12 <| .q 13 <| .q 14 <| .q 15 <| .q 16 <| .q 17 <| .q 18 <| .q 19 <| .q 20 <| .q 21 <| .q 22 <| .q 23 <| .q 24 <| .q 25 <| .q 26 <| .q 27 <| .q 28 <| .q 29 <| .q 30 <| .q 31 <| .q 32 <| .q 33 <| .q 34 <| .q 35 <| .q 36 <| .q 37 <| .q 38 <| .q 39 <| .q 40 <| .q 41 <| .q 42 <| .q 43 <| .q 44 <| .l 45 [] <| .done) mixed (by kernel_rfl) (by kernel_rfl) fun K hK => ?_)
   | ((with_reducible refine a_end hK ?_); clear hK K)
   | ((with_reducible refine a_id ?_); first | refine xa_q (h := ?_))
   | refine a_l rfl ?_ | (with_reducible refine And.intro ?_ ?_) | exact st_nil
   | fail)
  all_goals try clear fx
  refine e_ret [] .nil (by simp; rfl) ⟨k, by simp, .inr hkn, by simp [hH]⟩

theorem one_fn (gl) (H : Nm → Option AO) (bs : List Int) (pos : Nat) (xs : List Int) (hb : BytesOk bs) (hpos : pos ≤ 1000000) (hx : 0 < xs.length ∧ xs.length ≤ 1000) (hH : H (.u 1 0 0) = some (rdO bs pos)) (hL : H (.u 2 0 0) = some (.row 1 (irows xs))) :
    FnE Tryd.prog gl 76 D12 [.pt (.u 1 0 0) 0, .hs (.u 2 0 0) 1 0 xs.length] H (fun _ z H' => ∃ v, z = iv v ∧ v ∈ xs ∧ H' (.u 1 0 0) = some (rdO bs (pos + 1))) noE := by
  have hxl := hx.2
  refine FnE.of_sem Tryd.func76 rfl (by kernel_rfl) (rs := [.tmp 4]) rfl Tryd.ntmps76 (Nat.le_of_ble_eq_true rfl) (fun _ => D12_root) fun C w g root hroot => ?_
  all_goals have fx := fx0
  repeat' (first
   | refine w_seq ?_ | refine w_reg fun K hK => ?_
   | ((with_reducible refine s_end hK ?_); clear hK K)
   | (with_reducible first | refine s_none ?_ | refine x_assign (h := ?_))
   | (with_reducible refine x_q (h := ?_))
   | fail)
  all_goals try clear fx
  have fx := hxl
  refine x_mut (.u 1 0 0) rfl (by simp [hH]) (hF := pick_fn _ _ bs pos xs.length hb hpos (by omega) (by simp [hH])) (h := ?_)
  rintro z H1 ⟨k, rfl, hk, hk1⟩
  have hkl : k < xs.length := by omega
  obtain ⟨v, hv⟩ : ∃ v, xs[k]? = some v := ⟨_, List.getElem?_eq_getElem hkl⟩
  obtain ⟨_, hvE⟩ := List.getElem?_eq_some_iff.1 hv
  clear fx
  all_goals have fx := And.intro hL <| And.intro hkl <| And.intro hv <| hvE
  repeat' (first
   | ((with_reducible refine s_end hK ?_); clear hK K)
   | (with_reducible first | refine then_normal ?_)
   | refine w_ret ?_
   | (with_reducible first | refine s_none ?_ | refine x_assign (h := ?_))
   | (with_reducible refine x_q (h := ?_))
   | fail)
  all_goals try clear fx
  refine e_ret [] .nil (by simp; rfl) ⟨v, by simp, List.mem_of_getElem? hv, by simp [hk1]⟩

theorem oneOk (gl) : OneOk Tryd.prog gl 76 := fun H bs pos xs hb hp hx hH hL => one_fn gl H bs pos xs hb hp hx hH hL

theorem aName_fn (gl) (H : Nm → Option AO) (bs : List Int) (pos : Nat) (hb : BytesOk bs) (hpos : pos ≤ 1000000) (hH : H (.u 1 0 0) = some (rdO bs pos)) (hV : H (.u 2 0 0) = none) :
    FnE Tryd.prog gl 153 (Nm.under (.u 1 0 0)) [.pt (.u 1 0 0) 0] H (fun _ z H' => ∃ v, z = iv v ∧ H' (.u 1 0 0) = some (rdO bs (pos + 1))) noE := by
  refine FnE.of_sem Tryd.func153 rfl (by kernel_rfl) (rs := [.tmp 2]) rfl Tryd.ntmps153 (Nat.le_of_ble_eq_true rfl) (fun _ => under_usroot rfl) fun C w g root hroot => ?_
  all_goals have fx := fx0
  repeat' (first
   | refine w_seq ?_ | refine w_reg fun K hK => ?_
   | ((with_reducible refine s_end hK ?_); clear hK K)
   | (with_reducible first | refine s_none ?_ | refine x_assign (h := ?_) | refine x_build (h := ?_))
   | (with_reducible refine x_q (h := ?_))
   | fail)
  all_goals try clear fx
  refine x_one (oneOk _) 4 [0, 1, 2, 0, 1, 3, 7] hb hpos (hV := hV) (h0 := by simp) (h1 := by simp) (hH := by simp [hH]) (hL := by simp [irows]) (h := ?_)
  intro v hv
  all_goals have fx := fx0
  repeat' (first
   | ((with_reducible refine s_end hK ?_); clear hK K)
   | (with_reducible first | refine then_normal ?_)
   | refine w_ret ?_
   | (with_reducible first | refine s_none ?_ | refine x_assign (h := ?_))
   | fail)
  all_goals try clear fx
  refine e_ret [] .nil (by simp; rfl) ⟨v, by simp, by simp⟩

theorem pick_rd (gl) (H : Nm → Option AO) (bs : List Int) (pos n : Nat) (hb : BytesOk bs) (hpos : pos ≤ 1000000) (hn : n ≤ 1000000) (hH : H (.u 1 0 0) = some (rdO bs pos)) :
    FnE Tryd.prog gl 77 (Nm.under (.u 1 0 0)) [.pt (.u 1 0 0) 0, iv n] H (RdPost bs (fun k : Nat => iv k) (fun k pos' => (k = 0 ∨ k < n) ∧ pos' = pos + 1)) noE :=
  FnE.mono (pick_fn gl H bs pos n hb hpos hn hH) (fun _ _ _ ⟨k, h1, h2, h3⟩ => ⟨k, pos + 1, h1, ⟨h2, rfl⟩, h3⟩) (fun _ _ _ h => h)
theorem aName_rd (gl) (H : Nm → Option AO) (bs : List Int) (pos : Nat) (hb : BytesOk bs) (hpos : pos ≤ 1000000) (hH : H (.u 1 0 0) = some (rdO bs pos)) (hV : H (.u 2 0 0) = none) :
    FnE Tryd.prog gl 153 (Nm.under (.u 1 0 0)) [.pt (.u 1 0 0) 0] H (RdPost bs (fun v : Int => iv v) (fun _ pos' => pos' = pos + 1)) noE :=
  FnE.mono (aName_fn gl H bs pos hb hpos hH hV) (fun _ _ _ ⟨v, h1, h3⟩ => ⟨v, pos + 1, h1, rfl, h3⟩) (fun _ _ _ h => h)
end Go.Proofs.YtmpbjmihjelhgaaDoor
end

section
/-
  The generator's statements: what they are.
-/
set_option maxRecDepth 100000
set_option maxHeartbeats 1000000
set_option linter.unusedSimpArgs false
namespace Go.Proofs.YtmpbjmihjelhgaaDoor
open Go Go.Hm Go.Proofs

theorem someStmt_fn (gl) (H : Nm → Option AO) (bs : List Int) (pos : Nat) (kind : Int) (hb : BytesOk bs) (hpos : pos ≤ 900000) (hH : H (.u 1 0 0) = some (rdO bs pos)) (hV : H (.u 2 0 0) = none) :
    FnE Tryd.prog gl 152 (Nm.under (.u 1 0 0)) [.pt (.u 1 0 0) 0, iv kind] H (RdPost bs (fun s : Stm => s.av) (fun _ pos' => pos ≤ pos' ∧ pos' ≤ pos + 8)) noE := by
  refine FnE.of_sem Tryd.func152 rfl (by kernel_rfl) (rs := [.cell 4 101]) rfl Tryd.ntmps152 (Nat.le_of_ble_eq_true rfl) (fun _ => under_usroot rfl) fun C w g root hroot => ?_
  all_goals have fx := fx0
  repeat' (first
   | refine w_seq ?_ | refine w_reg fun K hK => ?_
   | ((with_reducible refine s_end hK ?_); clear hK K)
   | (with_reducible first | refine s_none ?_ | refine x_alloc (h := ?_) | refine x_build (h := ?_))
   | (with_reducible refine x_q (h := ?_))
   | fail)
  all_goals try clear fx
  refine x_one (oneOk _) 7 [0, 1, 2, 0, 1, 3] (bs := bs) (pos := pos) hb (by omega) (hV := hV) (h0 := by simp) (h1 := by simp) (hH := by simp [hH]) (hL := by simp [irows]) (h := ?_)
  intro to hto
  all_goals have fx := fx0
  repeat' (first
   | refine w_seq ?_ | refine w_reg fun K hK => ?_
   | ((with_reducible refine s_end hK ?_); clear hK K)
   | (with_reducible first | refine s_none ?_ | refine x_assign (h := ?_))
   | (with_reducible refine x_q (h := ?_))
   | fail)
  all_goals try clear fx
  refine x_rd (hs := by simp) (ha := by first | (simp; done) | (simp; rfl)) (hF := pick_rd _ _ bs (pos + 1) 12 hb (by omega) (by omega) (by simp)) (h := ?_)
  rintro k pk ⟨hk, rfl⟩
  have hk12 : k < 12 := by omega
  have hkc : k = 0 ∨ k = 1 ∨ k = 2 ∨ k = 3 ∨ k = 4 ∨ k = 5 ∨ k = 6 ∨ k = 7 ∨ k = 8 ∨ k = 9 ∨ k = 10 ∨ k = 11 := by omega
  clear hk hk12
  rcases hkc with rfl | rfl | rfl | rfl | rfl | rfl | rfl | rfl | rfl | rfl | rfl | rfl
  · skip
    all_goals have fx := fx0
    repeat' (first
     | refine w_seq ?_ | refine w_block ?_ | refine w_skip ?_ | refine w_reg fun K hK => ?_
     | ((with_reducible refine s_end hK ?_); clear hK K)
     | (with_reducible first | refine then_normal ?_)
     | (with_reducible first | refine s_none ?_ | refine x_assign (h := ?_))
     | (with_reducible refine x_q (h := ?_))
     | refine x_condt (h1 := ?_)
     | fail)
    all_goals try clear fx
    refine x_rd (hs := by simp) (ha := by first | (simp; done) | (simp; rfl)) (hF := pick_rd _ _ bs (pos + 1 + 1) 20 hb (by omega) (by omega) (by simp)) (h := ?_)
    rintro x px ⟨hx, rfl⟩
    all_goals have fx := fx0
    repeat' (first
     | (with_reducible first | refine s_none ?_ | refine x_build (h := ?_))
     | fail)
    all_goals try clear fx
    refine x_one (oneOk _) 19 [(x : Int), 99, 5] (bs := bs) (pos := pos + 1 + 1 + 1) hb (by omega) (hV := hV) (h0 := by simp) (h1 := by simp) (hH := by simp) (hL := by simp [irows]) (h := ?_)
    intro v hv
    all_goals have fx := fx0
    repeat' (first
     | ((with_reducible refine s_end hK ?_); clear hK K)
     | (with_reducible first | refine then_normal ?_ | refine then_ret ?_ | refine in_ret ?_)
     | refine w_ret ?_
     | (with_reducible first | refine s_none ?_ | refine x_store0 (h := ?_))
     | (with_reducible refine x_q (h := ?_))
     | fail)
    all_goals try clear fx
    exact e_ret [] .nil (by simp; rfl) ⟨⟨0, to, v, 0⟩, pos + 1 + 1 + 1 + 1, by simp, by omega, by simp⟩
  · skip
    all_goals have fx := fx0
    repeat' (first
     | refine w_seq ?_ | refine w_block ?_ | refine w_skip ?_ | refine w_reg fun K hK => ?_
     | ((with_reducible refine s_end hK ?_); clear hK K)
     | (with_reducible first | refine then_normal ?_)
     | (with_reducible first | refine s_none ?_ | refine x_assign (h := ?_))
     | (with_reducible refine x_q (h := ?_))
     | refine x_condt (h1 := ?_) | refine x_condf (h1 := ?_)
     | fail)
    all_goals try clear fx
    refine x_rd (hs := by simp) (ha := by first | (simp; done) | (simp; rfl)) (hF := pick_rd _ _ bs (pos + 1 + 1) 20 hb (by omega) (by omega) (by simp)) (h := ?_)
    rintro x px ⟨hx, rfl⟩
    all_goals have fx := fx0
    repeat' (first
     | (with_reducible first | refine s_none ?_ | refine x_build (h := ?_))
     | fail)
    all_goals try clear fx
    refine x_one (oneOk _) 19 [(x : Int), 99, 5] (bs := bs) (pos := pos + 1 + 1 + 1) hb (by omega) (hV := hV) (h0 := by simp) (h1 := by simp) (hH := by simp) (hL := by simp [irows]) (h := ?_)
    intro v hv
    all_goals have fx := fx0
    repeat' (first
     | ((with_reducible refine s_end hK ?_); clear hK K)
     | (with_reducible first | refine then_normal ?_ | refine then_ret ?_ | refine in_ret ?_)
     | refine w_ret ?_
     | (with_reducible first | refine s_none ?_ | refine x_store0 (h := ?_))
     | (with_reducible refine x_q (h := ?_))
     | fail)
    all_goals try clear fx
    exact e_ret [] .nil (by simp; rfl) ⟨⟨0, to, v, 0⟩, pos + 1 + 1 + 1 + 1, by simp, by omega, by simp⟩
  · skip
    all_goals have fx := fx0
    repeat' (first
     | refine w_seq ?_ | refine w_block ?_ | refine w_reg fun K hK => ?_
     | ((with_reducible refine s_end hK ?_); clear hK K)
     | (with_reducible first | refine then_normal ?_)
     | (with_reducible first | refine s_none ?_ | refine x_assign (h := ?_))
     | (with_reducible refine x_q (h := ?_))
     | refine x_condt (h1 := ?_) | refine x_condf (h1 := ?_)
     | fail)
    all_goals try clear fx
    refine x_rd (hs := by simp) (ha := by first | (simp; done) | (simp; rfl)) (hF := pick_rd _ _ bs (pos + 1 + 1) 20 hb (by omega) (by omega) (by simp)) (h := ?_)
    rintro x px ⟨hx, rfl⟩
    all_goals have fx := fx0
    repeat' (first
     | (with_reducible first | refine s_none ?_ | refine x_build (h := ?_))
     | fail)
    all_goals try clear fx
    refine x_one (oneOk _) 19 [(x : Int), 99, 5] (bs := bs) (pos := pos + 1 + 1 + 1) hb (by omega) (hV := hV) (h0 := by simp) (h1 := by simp) (hH := by simp) (hL := by simp [irows]) (h := ?_)
    intro v hv
    all_goals have fx := fx0
    repeat' (first
     | ((with_reducible refine s_end hK ?_); clear hK K)
     | (with_reducible first | refine then_normal ?_ | refine then_ret ?_ | refine in_ret ?_)
     | refine w_ret ?_
     | (with_reducible first | refine s_none ?_ | refine x_store0 (h := ?_))
     | (with_reducible refine x_q (h := ?_))
     | fail)
    all_goals try clear fx
    exact e_ret [] .nil (by simp; rfl) ⟨⟨0, to, v, 0⟩, pos + 1 + 1 + 1 + 1, by simp, by omega, by simp⟩
  · skip
    all_goals have fx := fx0
    repeat' (first
     | refine w_seq ?_ | refine w_block ?_ | refine w_reg fun K hK => ?_
     | ((with_reducible refine s_end hK ?_); clear hK K)
     | (with_reducible first | refine then_normal ?_)
     | (with_reducible first | refine s_none ?_ | refine x_assign (h := ?_))
     | (with_reducible refine x_q (h := ?_))
     | refine x_condt (h1 := ?_) | refine x_condf (h1 := ?_)
     | fail)
    all_goals try clear fx
    refine x_rd (hs := by simp) (ha := by first | (simp; done) | (simp; rfl)) (hF := aName_rd _ _ bs (pos + 1 + 1) hb (by omega) (by simp) (by simp)) (h := ?_)
    rintro v pv rfl
    all_goals have fx := fx0
    repeat' (first
     | ((with_reducible refine s_end hK ?_); clear hK K)
     | (with_reducible first | refine then_normal ?_ | refine then_ret ?_ | refine in_ret ?_)
     | refine w_ret ?_
     | (with_reducible first | refine s_none ?_ | refine x_store0 (h := ?_))
     | (with_reducible refine x_q (h := ?_))
     | fail)
    all_goals try clear fx
    exact e_ret [] .nil (by simp; rfl) ⟨⟨1, to, v, 0⟩, pos + 1 + 1 + 1, by simp, by omega, by simp⟩
  · skip
    all_goals have fx := fx0
    repeat' (first
     | refine w_seq ?_ | refine w_block ?_ | refine w_reg fun K hK => ?_
     | ((with_reducible refine s_end hK ?_); clear hK K)
     | (with_reducible first | refine then_normal ?_)
     | (with_reducible first | refine s_none ?_ | refine x_assign (h := ?_))
     | (with_reducible refine x_q (h := ?_))
     | refine x_condt (h1 := ?_) | refine x_condf (h1 := ?_)
     | fail)
    all_goals try clear fx
    refine x_rd (hs := by simp) (ha := by first | (simp; done) | (simp; rfl)) (hF := aName_rd _ _ bs (pos + 1 + 1) hb (by omega) (by simp) (by simp)) (h := ?_)
    rintro v pv rfl
    all_goals have fx := fx0
    repeat' (first
     | (with_reducible first | refine s_none ?_)
     | (with_reducible refine x_q (h := ?_))
     | fail)
    all_goals try clear fx
    refine x_rd (hs := by simp) (ha := by first | (simp; done) | (simp; rfl)) (hF := aName_rd _ _ bs (pos + 1 + 1 + 1) hb (by omega) (by simp) (by simp)) (h := ?_)
    rintro w pw rfl
    all_goals have fx := fx0
    repeat' (first
     | ((with_reducible refine s_end hK ?_); clear hK K)
     | (with_reducible first | refine then_normal ?_ | refine then_ret ?_ | refine in_ret ?_)
     | refine w_ret ?_
     | (with_reducible first | refine s_none ?_ | refine x_store0 (h := ?_))
     | (with_reducible refine x_q (h := ?_))
     | fail)
    all_goals try clear fx
    exact e_ret [] .nil (by simp; rfl) ⟨⟨2, to, v, w⟩, pos + 1 + 1 + 1 + 1, by simp, by omega, by simp⟩
  · skip
    all_goals have fx := fx0
    repeat' (first
     | refine w_seq ?_ | refine w_block ?_ | refine w_skip ?_ | refine w_reg fun K hK => ?_
     | ((with_reducible refine s_end hK ?_); clear hK K)
     | (with_reducible first | refine then_normal ?_)
     | (with_reducible first | refine s_none ?_ | refine x_assign (h := ?_))
     | (with_reducible refine x_q (h := ?_))
     | refine x_condt (h1 := ?_) | refine x_condf (h1 := ?_)
     | fail)
    all_goals try clear fx
    refine x_rd (hs := by simp) (ha := by first | (simp; done) | (simp; rfl)) (hF := aName_rd _ _ bs (pos + 1 + 1) hb (by omega) (by simp) (by simp)) (h := ?_)
    rintro v pv rfl
    all_goals have fx := fx0
    repeat' (first
     | ((with_reducible refine s_end hK ?_); clear hK K)
     | (with_reducible first | refine then_normal ?_ | refine then_ret ?_ | refine in_ret ?_)
     | refine w_ret ?_
     | (with_reducible first | refine s_none ?_ | refine x_store0 (h := ?_))
     | (with_reducible refine x_q (h := ?_))
     | fail)
    all_goals try clear fx
    exact e_ret [] .nil (by simp; rfl) ⟨⟨7, 0, v, 0⟩, pos + 1 + 1 + 1, by simp, by omega, by simp⟩
  · skip
    all_goals have fx := fx0
    repeat' (first
     | refine w_seq ?_ | refine w_block ?_ | refine w_reg fun K hK => ?_
     | ((with_reducible refine s_end hK ?_); clear hK K)
     | (with_reducible first | refine then_normal ?_)
     | (with_reducible first | refine s_none ?_ | refine x_assign (h := ?_))
     | (with_reducible refine x_q (h := ?_))
     | refine x_condt (h1 := ?_) | refine x_condf (h1 := ?_)
     | fail)
    all_goals try clear fx
    refine x_rd (hs := by simp) (ha := by first | (simp; done) | (simp; rfl)) (hF := aName_rd _ _ bs (pos + 1 + 1) hb (by omega) (by simp) (by simp)) (h := ?_)
    rintro v pv rfl
    all_goals have fx := fx0
    repeat' (first
     | ((with_reducible refine s_end hK ?_); clear hK K)
     | (with_reducible first | refine then_normal ?_ | refine then_ret ?_ | refine in_ret ?_)
     | refine w_ret ?_
     | (with_reducible first | refine s_none ?_ | refine x_store0 (h := ?_))
     | (with_reducible refine x_q (h := ?_))
     | fail)
    all_goals try clear fx
    exact e_ret [] .nil (by simp; rfl) ⟨⟨7, 0, v, 0⟩, pos + 1 + 1 + 1, by simp, by omega, by simp⟩
  · skip
    all_goals have fx := fx0
    repeat' (first
     | refine w_seq ?_ | refine w_block ?_ | refine w_reg fun K hK => ?_
     | ((with_reducible refine s_end hK ?_); clear hK K)
     | (with_reducible first | refine then_normal ?_)
     | (with_reducible first | refine s_none ?_ | refine x_assign (h := ?_))
     | (with_reducible refine x_q (h := ?_))
     | refine x_condt (h1 := ?_) | refine x_condf (h1 := ?_)
     | fail)
    all_goals try clear fx
    refine x_rd (hs := by simp) (ha := by first | (simp; done) | (simp; rfl)) (hF := aName_rd _ _ bs (pos + 1 + 1) hb (by omega) (by simp) (by simp)) (h := ?_)
    rintro v pv rfl
    all_goals have fx := fx0
    repeat' (first
     | (with_reducible first | refine s_none ?_ | refine x_build (h := ?_))
     | fail)
    all_goals try clear fx
    refine x_one (oneOk _) 48 [4, 5, v] (bs := bs) (pos := pos + 1 + 1 + 1) hb (by omega) (hV := hV) (h0 := by simp) (h1 := by simp) (hH := by simp) (hL := by simp [irows]) (h := ?_)
    intro x hx
    all_goals have fx := fx0
    repeat' (first
     | (with_reducible first | refine s_none ?_)
     | (with_reducible refine x_q (h := ?_))
     | fail)
    all_goals try clear fx
    refine x_rd (hs := by simp) (ha := by first | (simp; done) | (simp; rfl)) (hF := aName_rd _ _ bs (pos + 1 + 1 + 1 + 1) hb (by omega) (by simp) (by simp)) (h := ?_)
    rintro u pu rfl
    all_goals have fx := fx0
    repeat' (first
     | (with_reducible first | refine s_none ?_ | refine x_build (h := ?_))
     | fail)
    all_goals try clear fx
    refine x_one (oneOk _) 53 [-1, -1, u] (bs := bs) (pos := pos + 1 + 1 + 1 + 1 + 1) hb (by omega) (hV := hV) (h0 := by simp) (h1 := by simp) (hH := by simp) (hL := by simp [irows]) (h := ?_)
    intro y hy
    all_goals have fx := fx0
    repeat' (first
     | ((with_reducible refine s_end hK ?_); clear hK K)
     | (with_reducible first | refine then_normal ?_ | refine then_ret ?_ | refine in_ret ?_)
     | refine w_ret ?_
     | (with_reducible first | refine s_none ?_ | refine x_store0 (h := ?_))
     | (with_reducible refine x_q (h := ?_))
     | fail)
    all_goals try clear fx
    exact e_ret [] .nil (by simp; rfl) ⟨⟨5, to, x, y⟩, pos + 1 + 1 + 1 + 1 + 1 + 1, by simp, by omega, by simp⟩
  · skip
    all_goals have fx := fx0
    repeat' (first
     | refine w_seq ?_ | refine w_block ?_ | refine w_reg fun K hK => ?_
     | ((with_reducible refine s_end hK ?_); clear hK K)
     | (with_reducible first | refine then_normal ?_)
     | (with_reducible first | refine s_none ?_ | refine x_assign (h := ?_))
     | (with_reducible refine x_q (h := ?_))
     | refine x_condt (h1 := ?_) | refine x_condf (h1 := ?_)
     | fail)
    all_goals try clear fx
    refine x_rd (hs := by simp) (ha := by first | (simp; done) | (simp; rfl)) (hF := aName_rd _ _ bs (pos + 1 + 1) hb (by omega) (by simp) (by simp)) (h := ?_)
    rintro v pv rfl
    all_goals have fx := fx0
    repeat' (first
     | ((with_reducible refine s_end hK ?_); clear hK K)
     | (with_reducible first | refine then_normal ?_ | refine then_ret ?_ | refine in_ret ?_)
     | refine w_ret ?_
     | (with_reducible first | refine s_none ?_ | refine x_store0 (h := ?_))
     | (with_reducible refine x_q (h := ?_))
     | fail)
    all_goals try clear fx
    exact e_ret [] .nil (by simp; rfl) ⟨⟨6, to, 6, v⟩, pos + 1 + 1 + 1, by simp, by omega, by simp⟩
  · by_cases hk0 : kind = 0
    · subst hk0
      all_goals have fx := fx0
      repeat' (first
       | refine w_seq ?_ | refine w_block ?_ | refine w_skip ?_ | refine w_reg fun K hK => ?_
       | ((with_reducible refine s_end hK ?_); clear hK K)
       | (with_reducible first | refine then_normal ?_)
       | (with_reducible first | refine s_none ?_ | refine x_assign (h := ?_))
       | (with_reducible refine x_q (h := ?_))
       | refine x_condt (h1 := ?_) | refine x_condf (h1 := ?_)
       | fail)
      all_goals try clear fx
      refine x_rd (hs := by simp) (ha := by first | (simp; done) | (simp; rfl)) (hF := aName_rd _ _ bs (pos + 1 + 1) hb (by omega) (by simp) (by simp)) (h := ?_)
      rintro v pv rfl
      all_goals have fx := fx0
      repeat' (first
       | ((with_reducible refine s_end hK ?_); clear hK K)
       | (with_reducible first | refine then_normal ?_)
       | refine w_ret ?_
       | (with_reducible first | refine s_none ?_ | refine x_store0 (h := ?_))
       | (with_reducible refine x_q (h := ?_))
       | fail)
      all_goals try clear fx
      exact e_ret [] .nil (by simp; rfl) ⟨⟨7, 0, v, 0⟩, pos + 1 + 1 + 1, by simp, by omega, by simp⟩
    · have hkn : (kind != 0) = true := by simp [hk0]
      all_goals have fx := And.intro hk0 <| hkn
      repeat' (first
       | refine w_seq ?_ | refine w_block ?_ | refine w_reg fun K hK => ?_
       | ((with_reducible refine s_end hK ?_); clear hK K)
       | (with_reducible first | refine then_normal ?_)
       | (with_reducible first | refine s_none ?_ | refine x_assign (h := ?_) | refine x_build (h := ?_))
       | (with_reducible refine x_q (h := ?_))
       | refine x_condt (h1 := ?_) | refine x_condf (h1 := ?_)
       | fail)
      all_goals try clear fx
      refine x_one (oneOk _) 67 [9, 10, 10] (bs := bs) (pos := pos + 1 + 1) hb (by omega) (hV := hV) (h0 := by simp) (h1 := by simp) (hH := by simp) (hL := by simp [irows]) (h := ?_)
      intro v hv
      all_goals have fx := fx0
      repeat' (first
       | ((with_reducible refine s_end hK ?_); clear hK K)
       | (with_reducible first | refine then_normal ?_ | refine then_ret ?_ | refine in_ret ?_)
       | refine w_ret ?_
       | (with_reducible first | refine s_none ?_ | refine x_store0 (h := ?_))
       | (with_reducible refine x_q (h := ?_))
       | fail)
      all_goals try clear fx
      exact e_ret [] .nil (by simp; rfl) ⟨⟨v, to, 0, 0⟩, pos + 1 + 1 + 1, by simp, by omega, by simp⟩
  · skip
    all_goals have fx := fx0
    repeat' (first
     | refine w_seq ?_ | refine w_block ?_ | refine w_reg fun K hK => ?_
     | ((with_reducible refine s_end hK ?_); clear hK K)
     | (with_reducible first | refine then_normal ?_)
     | (with_reducible first | refine s_none ?_ | refine x_assign (h := ?_))
     | (with_reducible refine x_q (h := ?_))
     | refine x_condt (h1 := ?_) | refine x_condf (h1 := ?_)
     | fail)
    all_goals try clear fx
    refine x_rd (hs := by simp) (ha := by first | (simp; done) | (simp; rfl)) (hF := pick_rd _ _ bs (pos + 1 + 1) 3 hb (by omega) (by omega) (by simp)) (h := ?_)
    rintro x px ⟨hx, rfl⟩
    rcases Nat.eq_zero_or_pos x with rfl | hx0
    · skip
      all_goals have fx := fx0
      repeat' (first
       | refine w_seq ?_ | refine w_reg fun K hK => ?_
       | ((with_reducible refine s_end hK ?_); clear hK K)
       | (with_reducible first | refine then_normal ?_ | refine then_ret ?_ | refine in_ret ?_)
       | refine w_ret ?_
       | (with_reducible first | refine s_none ?_ | refine x_store0 (h := ?_))
       | (with_reducible refine x_q (h := ?_))
       | refine x_condt (h1 := ?_)
       | fail)
      all_goals try clear fx
      exact e_ret [] .nil (by simp; rfl) ⟨⟨11, to, 0, 0⟩, pos + 1 + 1 + 1, by simp, by omega, by simp⟩
    · have hxn : ((x : Int) == 0) = false := by rw [beq_eq_false_iff_ne]; omega
      have hxn2 : ¬ x = 0 := by omega
      all_goals have fx := And.intro hxn <| hxn2
      repeat' (first
       | refine w_seq ?_ | refine w_skip ?_ | refine w_reg fun K hK => ?_
       | ((with_reducible refine s_end hK ?_); clear hK K)
       | (with_reducible first | refine then_normal ?_)
       | (with_reducible first | refine s_none ?_)
       | (with_reducible refine x_q (h := ?_))
       | refine x_condf (h1 := ?_)
       | fail)
      all_goals try clear fx
      refine x_rd (hs := by simp) (ha := by first | (simp; done) | (simp; rfl)) (hF := aName_rd _ _ bs (pos + 1 + 1 + 1) hb (by omega) (by simp) (by simp)) (h := ?_)
      rintro v pv rfl
      all_goals have fx := fx0
      repeat' (first
       | ((with_reducible refine s_end hK ?_); clear hK K)
       | (with_reducible first | refine then_normal ?_)
       | refine w_ret ?_
       | (with_reducible first | refine s_none ?_ | refine x_store0 (h := ?_))
       | (with_reducible refine x_q (h := ?_))
       | fail)
      all_goals try clear fx
      exact e_ret [] .nil (by simp; rfl) ⟨⟨7, 0, v, 0⟩, pos + 1 + 1 + 1 + 1, by simp, by omega, by simp⟩
  · skip
    all_goals have fx := fx0
    repeat' (first
     | refine w_seq ?_ | refine w_block ?_ | refine w_skip ?_ | refine w_reg fun K hK => ?_
     | ((with_reducible refine s_end hK ?_); clear hK K)
     | (with_reducible first | refine then_normal ?_)
     | (with_reducible first | refine s_none ?_ | refine x_assign (h := ?_))
     | (with_reducible refine x_q (h := ?_))
     | refine x_condf (h1 := ?_)
     | fail)
    all_goals try clear fx
    refine x_rd (hs := by simp) (ha := by first | (simp; done) | (simp; rfl)) (hF := aName_rd _ _ bs (pos + 1 + 1) hb (by omega) (by simp) (by simp)) (h := ?_)
    rintro v pv rfl
    all_goals have fx := fx0
    repeat' (first
     | ((with_reducible refine s_end hK ?_); clear hK K)
     | (with_reducible first | refine then_normal ?_)
     | refine w_ret ?_
     | (with_reducible first | refine s_none ?_ | refine x_store0 (h := ?_))
     | (with_reducible refine x_q (h := ?_))
     | fail)
    all_goals try clear fx
    exact e_ret [] .nil (by simp; rfl) ⟨⟨7, 0, v, 0⟩, pos + 1 + 1 + 1, by simp, by omega, by simp⟩
end Go.Proofs.YtmpbjmihjelhgaaDoor
end
