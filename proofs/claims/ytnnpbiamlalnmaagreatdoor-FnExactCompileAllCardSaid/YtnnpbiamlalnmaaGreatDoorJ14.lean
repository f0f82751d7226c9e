/-
  Own texts, joined by mkclaim.py: Ga, Gb, Gc, Gd, Ge, Gf, Gg, Gh.
-/
import Derived.Test.YtnnpbiamlalnmaaGreatDoorJ13
import Derived.Test.YtnnpbiamlalnmaaGreatDoorJ09
import Derived.Test.YtnnpbiamlalnmaaGreatDoorJ11
import Derived.Test.YtnnpbiamlalnmaaGreatDoorJ08
set_option linter.unusedSimpArgs false
set_option linter.unusedVariables false
set_option maxRecDepth 100000
set_option maxHeartbeats 4000000

section
namespace Go.Proofs.YtnnpbiamlalnmaaGreatDoor
open Go Go.Hm Go.Proofs
theorem inRange_fn (gl) (n lo hi : Int) : FnOk Tryz.prog gl 21 [iv n, iv lo, iv hi] (fun _ x _ => x = bv (decide (lo ≤ n) && decide (n ≤ hi))) := by
  refine FnOk.of_sem Tryz.func21 rfl (by kernel_rfl) (rs := [.tmp 6]) rfl Tryz.ntmps21 (Nat.le_of_ble_eq_true rfl) fun C w g root => ?_
  all_goals have fx := fx0
  repeat' (first
   | refine w_seq ?_ | refine w_reg fun K hK => ?_
   | ((with_reducible refine s_end hK ?_); clear hK K)
   | (with_reducible first | refine then_normal ?_)
   | refine w_ret ?_
   | (with_reducible refine s_none ?_)
   | ((with_reducible refine g_id ?_); refine x_guard (h := ?_))
   | (with_reducible first | refine gx_tt ?_ | refine x_tf (h := ?_) | refine x_assign (h := ?_))
   | (with_reducible refine x_q (h := ?_))
   | (with_reducible refine gx_s (fun ht => ?_) (fun ht => ?_))
   | fail)
  all_goals try clear fx
  all_goals refine e_ret [] .nil (by simp; rfl) ?_
  all_goals simp_all
  omega
theorem spec_isName_fn (gl) (n : Int) : FnOk Tryz.prog gl 90 [iv n] (fun _ x _ => x = bv (decide (0 ≤ n) && decide (n ≤ 7))) := by
  refine FnOk.of_sem Tryz.func90 rfl (by kernel_rfl) (rs := [.tmp 2]) rfl Tryz.ntmps90 (Nat.le_of_ble_eq_true rfl) fun C w g root => ?_
  all_goals have fx := fx0
  repeat' (first
   | refine w_seq ?_ | refine w_reg fun K hK => ?_
   | ((with_reducible refine s_end hK ?_); clear hK K)
   | (with_reducible first | refine then_normal ?_)
   | refine w_ret ?_
   | (with_reducible first | refine s_none ?_ | refine x_assign (h := ?_))
   | ((with_reducible refine o_id 21 rfl ?_); refine x_call (hF := inRange_fn _ _ _ _) (h := ?_))
   | (with_reducible refine x_q (h := ?_))
   | fail)
  all_goals try clear fx
  refine e_ret [] .nil (by simp; rfl) (by simp)
theorem impl_isName_fn (gl) (n : Int) : FnOk Tryz.prog gl 97 [iv n] (fun _ x _ => x = bv (decide (0 ≤ n) && decide (n ≤ 7))) := by
  refine FnOk.of_sem Tryz.func97 rfl (by kernel_rfl) (rs := [.tmp 2]) rfl Tryz.ntmps97 (Nat.le_of_ble_eq_true rfl) fun C w g root => ?_
  all_goals have fx := fx0
  repeat' (first
   | refine w_seq ?_ | refine w_reg fun K hK => ?_
   | ((with_reducible refine s_end hK ?_); clear hK K)
   | (with_reducible first | refine then_normal ?_)
   | refine w_ret ?_
   | (with_reducible refine s_none ?_)
   | ((with_reducible refine g_id ?_); refine x_guard (h := ?_))
   | (with_reducible first | refine gx_tt ?_ | refine x_tf (h := ?_) | refine x_assign (h := ?_))
   | (with_reducible refine x_q (h := ?_))
   | (with_reducible refine gx_s (fun ht => ?_) (fun ht => ?_))
   | fail)
  all_goals try clear fx
  all_goals refine e_ret [] .nil (by simp; rfl) ?_
  all_goals simp_all
  omega
theorem placeIn_fn (gl) (xs : List Int) (x : Int) (hlen : xs.length ≤ 4294967296) : FnOk Tryz.prog gl 68 [isl xs, iv x] (fun _ z _ => z = iv (placeIn xs x)) := by
  refine FnOk.of_sem Tryz.func68 rfl (by kernel_rfl) (rs := [.tmp 4]) rfl Tryz.ntmps68 (Nat.le_of_ble_eq_true rfl) fun C w g root => ?_
  have fx := fx0
  refine k_run ?_
  clear fx
  refine w_loop (fun n st => ∃ i : Nat, n = xs.length - i ∧ i ≤ xs.length ∧ st.tm 0 = isl xs ∧ st.tm 1 = iv x ∧ st.tm 5 = iv i ∧ ∀ j < i, xs[j]? ≠ some x) xs.length ⟨0, by simp⟩ ?_
  rintro n st - - ⟨i, rfl, hi, h0, h1, h5, hno⟩
  have fx := And.intro h0 <| And.intro h1 <| h5
  refine k_run ?_
  clear fx
  refine w_if (by simp []; first | done | rfl | exact (Bool.not_not _).symm) (fun ht => ?_) (fun hf => ?_)
  · have hlt : i < xs.length := by simpa using ht
    obtain ⟨y, hy⟩ : ∃ y, xs[i]? = some y := ⟨xs[i], gE hlt⟩
    have fx := And.intro h0 <| And.intro h1 <| And.intro h5 <| hy
    refine k_run ?_
    clear fx
    refine w_if (by simp []; first | done | rfl | exact (Bool.not_not _).symm) (fun ht => ?_) (fun hf => ?_)
    · skip
      have fx := And.intro h0 <| And.intro h1 <| h5
      refine k_run ?_
      clear fx
      refine e_ret [] .nil (by simp [h5]; rfl) ?_
      have hyx : y = x := by simpa using ht
      subst hyx
      have : xs.findIdx? (· == y) = some i := by
        rw [List.findIdx?_eq_some_iff_getElem]
        refine ⟨hlt, ?_, fun j hj => ?_⟩
        · rw [gE hlt] at hy; simpa using Option.some.inj hy
        · have := hno j hj
          rw [gE (by omega)] at this
          simpa using this
      simp [placeIn, this]
    · skip
      have fx := And.intro h0 <| And.intro h1 <| h5
      refine k_run ?_
      clear fx
      refine ⟨xs.length - (i + 1), by omega, i + 1, rfl, by omega, ?_⟩
      simp [h0, h1]
      refine ⟨wrp (by omega) (by omega), fun j hj => ?_⟩
      rcases Nat.lt_succ_iff_lt_or_eq.1 hj with h | rfl
      · exact hno j h
      · rw [hy]; simpa using hf
  · skip
    have fx := And.intro h0 <| And.intro h1 <| h5
    refine k_run ?_
    clear fx
    refine e_ret [] .nil (by simp; rfl) ?_
    have hge : i = xs.length := by have : ¬ i < xs.length := by simpa using hf
                                   omega
    have : xs.findIdx? (· == x) = none := by
      rw [List.findIdx?_eq_none_iff]
      intro y hy
      obtain ⟨j, hj, rfl⟩ := List.getElem_of_mem hy
      have := hno j (by omega)
      rw [gE hj] at this
      simpa using this
    simp [placeIn, this]
theorem has_fn (gl) (xs : List Int) (x : Int) (hlen : xs.length ≤ 4294967296) : FnOk Tryz.prog gl 41 [isl xs, iv x] (fun _ z _ => z = bv (decide (x ∈ xs))) := by
  refine FnOk.of_sem Tryz.func41 rfl (by kernel_rfl) (rs := [.tmp 4]) rfl Tryz.ntmps41 (Nat.le_of_ble_eq_true rfl) fun C w g root => ?_
  all_goals have fx := fx0
  repeat' (first
   | refine w_seq ?_ | refine w_reg fun K hK => ?_
   | ((with_reducible refine s_end hK ?_); clear hK K)
   | (with_reducible first | refine then_normal ?_)
   | refine w_ret ?_
   | (with_reducible first | refine s_none ?_ | refine x_assign (h := ?_))
   | ((with_reducible refine o_id 68 rfl ?_); refine x_call (hF := placeIn_fn _ _ _ hlen) (h := ?_))
   | (with_reducible refine x_q (h := ?_))
   | fail)
  all_goals try clear fx
  refine e_ret [] .nil (by simp []; rfl) (by simp [placeIn_nonneg])
theorem sorted_fn (gl) (xs : List Int) (hlen : xs.length ≤ 4294967296) : FnOk Tryz.prog gl 67 [isl xs] (fun r y H' => y = .hs r 1 0 (sorted xs).length ∧ H' r = some (.row 1 (irows (sorted xs)))) := by
  refine FnOk.of_sem Tryz.func67 rfl (by kernel_rfl) (rs := [.tmp 2]) rfl Tryz.ntmps67 (Nat.le_of_ble_eq_true rfl) fun C w g root => ?_
  have fx := fx0
  refine k_run ?_
  clear fx
  refine w_loop (fun n st => ∃ i : Nat, n = 8 - i ∧ i ≤ 8 ∧ st.tm 0 = isl xs ∧ st.tm 4 = iv i ∧ st.tm 3 = .hs (.s 3) 1 0 (sortedTo xs i).length ∧ st.hp (.s 3) = some (.row 1 (irows (sortedTo xs i)))) 8 ?_ ?_
  · exact ⟨0, by simp [sortedTo]⟩
  rintro n st - - ⟨i, rfl, hi, h0, h4, h3, hp3⟩
  have hsl := sortedTo_len (xs := xs) i
  have fx := And.intro h0 <| And.intro h4 <| And.intro h3 <| hp3
  refine k_run ?_
  clear fx
  refine w_if (by simp []; first | done | rfl | exact (Bool.not_not _).symm) (fun ht => ?_) (fun hf => ?_)
  · have hlt : (i : Int) ≤ 7 := by simpa using ht
    all_goals have fx := And.intro h0 <| And.intro h4 <| And.intro h3 <| hp3
    repeat' (first
     | refine w_seq ?_ | refine w_block ?_ | refine w_skip ?_ | refine w_reg fun K hK => ?_
     | ((with_reducible refine s_end hK ?_); clear hK K)
     | (with_reducible first | refine then_normal ?_ | refine in_normal ?_ | refine then_exit ?_ | refine in_exit ?_ | refine then_ret ?_ | refine in_ret ?_ | refine in_other (by decide) ?_)
     | refine w_exit ?_
     | refine w_ret ?_
     | (with_reducible first | refine s_none ?_ | refine x_assign (h := ?_) | refine x_append0 (T := 26) (h := ?_) | refine x_append (T := 26) (h := ?_) | refine x_build (h := ?_))
     | ((with_reducible refine o_id 68 rfl ?_); refine x_call (hF := placeIn_fn _ _ _ hlen) (h := ?_))
     | (with_reducible refine x_q (h := ?_))
     | refine x_condt (h1 := ?_) | refine x_condf (h1 := ?_)
     | fail)
    all_goals try clear fx
    refine w_if (by simp []; first | done | rfl | exact (Bool.not_not _).symm) (fun ht => ?_) (fun hf => ?_)
    · have hm : (i : Int) ∈ xs := placeIn_nonneg.1 (by simpa using ht)
      have fx := And.intro h0 <| And.intro h4 <| And.intro h3 <| hp3
      refine k_run ?_
      clear fx
      refine ⟨8 - (i + 1), by omega, i + 1, rfl, by omega, ?_⟩
      simp [h0, h3, sortedTo, hm]
      exact wrp (by omega) (by omega)
    · have hm : ¬ (i : Int) ∈ xs := fun h => by simp [placeIn_nonneg.2 h] at hf
      have fx := And.intro h0 <| And.intro h4 <| And.intro h3 <| hp3
      refine k_run ?_
      clear fx
      refine ⟨8 - (i + 1), by omega, i + 1, rfl, by omega, ?_⟩
      simp [h0, h3, hp3, sortedTo, hm]
      exact wrp (by omega) (by omega)
  · have h8 : i = 8 := by
      have : ¬ (i : Int) ≤ 7 := by simpa using hf
      omega
    subst h8
    all_goals have fx := And.intro h0 <| And.intro h4 <| And.intro h3 <| hp3
    repeat' (first
     | refine w_seq ?_ | refine w_block ?_ | refine w_skip ?_ | refine w_reg fun K hK => ?_
     | ((with_reducible refine s_end hK ?_); clear hK K)
     | (with_reducible first | refine then_normal ?_ | refine in_normal ?_ | refine then_exit ?_ | refine in_exit ?_ | refine then_ret ?_ | refine in_ret ?_ | refine in_other (by decide) ?_)
     | refine w_exit ?_
     | refine w_ret ?_
     | (with_reducible first | refine s_none ?_ | refine x_assign (h := ?_) | refine x_append0 (T := 26) (h := ?_) | refine x_append (T := 26) (h := ?_) | refine x_build (h := ?_))
     | (with_reducible refine x_q (h := ?_))
     | refine x_condt (h1 := ?_) | refine x_condf (h1 := ?_)
     | fail)
    all_goals try clear fx
    exact e_list (t := 2) (by first | (simp [hp3]; done) | (simp [hp3]; rfl)) (by first | (simp [hp3]; done) | (simp [hp3]; rfl)) (by simp)
theorem readsOf_fn (gl) (s : Stm) : FnOk Tryz.prog gl 73 [Stm.av s] (fun r y H' => y = .hs r 1 0 s.reads.length ∧ H' r = some (.row 1 (irows s.reads))) := by
  refine FnOk.of_sem Tryz.func73 rfl (by kernel_rfl) (rs := [.tmp 2]) rfl Tryz.ntmps73 (Nat.le_of_ble_eq_true rfl) fun C w g root => ?_
  obtain ⟨kind, to, a, b⟩ := s
  all_goals have fx := fx0
  repeat' (first
   | refine w_seq ?_ | refine w_block ?_ | refine w_skip ?_ | refine w_reg fun K hK => ?_
   | ((with_reducible refine s_end hK ?_); clear hK K)
   | (with_reducible first | refine then_normal ?_ | refine then_ret ?_ | refine in_ret ?_)
   | refine w_ret ?_
   | (with_reducible first | refine s_none ?_ | refine x_assign (h := ?_) | refine x_box (h := ?_) | refine x_build (h := ?_))
   | (with_reducible refine x_q (h := ?_))
   | refine x_condt (h1 := ?_)
   | refine x_if (h1 := fun ht => ?_) (h2 := fun ht => ?_)
   | fail)
  all_goals try clear fx
  all_goals refine e_list (t := 2) ?_ ?_ ?_
  all_goals simp_all [Stm.reads, irows]
theorem sets_fn (gl) (s : Stm) : FnOk Tryz.prog gl 104 [Stm.av s] (fun _ x _ => x = bv (decide s.sets)) := by
  refine FnOk.of_sem Tryz.func104 rfl (by kernel_rfl) (rs := [.tmp 2]) rfl Tryz.ntmps104 (Nat.le_of_ble_eq_true rfl) fun C w g root => ?_
  all_goals have fx := fx0
  repeat' (first
   | refine w_seq ?_ | refine w_reg fun K hK => ?_
   | ((with_reducible refine s_end hK ?_); clear hK K)
   | (with_reducible first | refine then_normal ?_)
   | refine w_ret ?_
   | (with_reducible first | refine s_none ?_ | refine x_assign (h := ?_) | refine x_box (h := ?_))
   | ((with_reducible refine o_id 21 rfl ?_); refine x_call (hF := inRange_fn _ _ _ _) (h := ?_))
   | (with_reducible refine x_q (h := ?_))
   | fail)
  all_goals try clear fx
  refine e_ret [] .nil (by simp []; rfl) (by simp [])
theorem copyInts_fn (gl) (xs : List Int) (hlen : xs.length ≤ 4294967296) : FnOk Tryz.prog gl 43 [isl xs] (fun r y H' => y = .hs r 1 0 xs.length ∧ H' r = some (.row 1 (irows xs))) := by
  refine FnOk.of_sem Tryz.func43 rfl (by kernel_rfl) (rs := [.tmp 2]) rfl Tryz.ntmps43 (Nat.le_of_ble_eq_true rfl) fun C w g root => ?_
  have fx := fx0
  refine k_run ?_
  clear fx
  exact e_list (t := 2) (by first | (simp []; done) | (simp []; rfl)) (by first | (simp []; done) | (simp []; rfl)) (by simp)
theorem take_succ_readsAll {ss : List Stm} {s : Stm} {i : Nat} (h : ss[i]? = some s) : readsAll (ss.take (i + 1)) = readsAll (ss.take i) ++ s.reads := by
  rw [List.take_add_one, h]; simp [readsAll]
theorem read_fn (gl) (p : Prg) (b : Nat) (k : Blk) (hk : p[b]? = some k) (hlen : k.body.length ≤ 1048576) : FnOk Tryz.prog gl 93 [pav p, iv b] (fun r y H' => y = .hs r 1 0 (sorted (readsAll k.body)).length ∧ H' r = some (.row 1 (irows (sorted (readsAll k.body))))) := by
  refine FnOk.of_sem Tryz.func93 rfl (by kernel_rfl) (rs := [.tmp 4]) rfl Tryz.ntmps93 (Nat.le_of_ble_eq_true rfl) fun C w g root => ?_
  have fx := fx0
  refine k_run ?_
  clear fx
  refine w_loop (fun n st => ∃ i : Nat, n = k.body.length - i ∧ i ≤ k.body.length ∧ st.tm 1 = iv b ∧ st.tm 2 = .pt (.s 2) 0 ∧ st.hp (.s 2) = some (.row 1 [[ksl p]]) ∧ st.tm 6 = iv i ∧ st.tm 5 = .hs (.s 5) 1 0 (readsAll (k.body.take i)).length ∧ st.hp (.s 5) = some (.row 1 (irows (readsAll (k.body.take i))))) k.body.length ?_ ?_
  · exact ⟨0, by simp [readsAll]⟩
  rintro n st - - ⟨i, rfl, hi, h1, h2, hp2, h6, h5, hp5⟩
  have hrl := readsAll_len (k.body.take i)
  rw [List.length_take] at hrl
  have fx := And.intro h1 <| And.intro h2 <| And.intro hp2 <| And.intro h6 <| And.intro h5 <| And.intro hp5 <| hk
  refine k_run ?_
  clear fx
  refine w_if (by simp []; first | done | rfl | exact (Bool.not_not _).symm) (fun ht => ?_) (fun hf => ?_)
  · have hlt : i < k.body.length := by simpa using ht
    obtain ⟨s, hs⟩ : ∃ s, k.body[i]? = some s := ⟨_, gE hlt⟩
    have hsl := s.reads_len
    have fx := And.intro h1 <| And.intro h2 <| And.intro hp2 <| And.intro h6 <| And.intro h5 <| And.intro hp5 <| And.intro hk <| hs
    have d1 := readsOf_fn gl s
    refine k_run ?_
    clear fx d1
    refine ⟨k.body.length - (i + 1), by omega, i + 1, rfl, by omega, ?_⟩
    simp [h1, h2, hp2, h5, take_succ_readsAll hs]
    exact wrp (by omega) (by omega)
  · have h8 : i = k.body.length := by
      have : ¬ i < k.body.length := by simpa using hf
      omega
    subst h8
    have fx := And.intro h1 <| And.intro h2 <| And.intro hp2 <| And.intro h6 <| And.intro h5 <| And.intro hp5 <| hk
    have d1 := sorted_fn gl (readsAll k.body) (by rw [List.take_length] at hrl; omega)
    refine k_run ?_
    clear fx d1
    exact e_list (t := 4) (by first | (simp []; done) | (simp []; rfl)) (by first | (simp []; done) | (simp []; rfl)) (by simp)
theorem bound_fn (gl) (p : Prg) (b : Nat) (k : Blk) (hk : p[b]? = some k) (hs : BSm k) : FnOk Tryz.prog gl 92 [pav p, iv b] (fun r y H' => y = .hs r 1 0 k.bd.length ∧ H' r = some (.row 1 (irows k.bd))) := by
  obtain ⟨hl1, hl2⟩ := hs
  refine FnOk.of_sem Tryz.func92 rfl (by kernel_rfl) (rs := [.tmp 4]) rfl Tryz.ntmps92 (Nat.le_of_ble_eq_true rfl) fun C w g root => ?_
  have fx :=  hk
  have d1 := copyInts_fn gl k.params (by omega)
  refine k_run ?_
  clear fx d1
  refine w_loop (fun n st => ∃ i : Nat, n = k.body.length - i ∧ i ≤ k.body.length ∧ st.tm 1 = iv b ∧ st.tm 2 = .pt (.s 2) 0 ∧ st.hp (.s 2) = some (.row 1 [[ksl p]]) ∧ st.tm 6 = iv i ∧ ∃ xs : List Int, xs = k.params ++ ((k.body.take i).filter (fun s => decide (s.sets ∨ s.kind = 11))).map Stm.to ∧ xs.length ≤ k.params.length + i ∧ st.tm 5 = .hs (.s 5) 1 0 xs.length ∧ st.hp (.s 5) = some (.row 1 (irows xs))) k.body.length ?_ ?_
  · exact ⟨0, by simp⟩
  rintro n st - - ⟨i, rfl, hi, h1, h2, hp2, h6, xs, hxs, hxl, h5, hp5⟩
  have fx := And.intro h1 <| And.intro h2 <| And.intro hp2 <| And.intro h6 <| And.intro h5 <| And.intro hp5 <| hk
  refine k_run ?_
  clear fx
  refine w_if (by simp []; first | done | rfl | exact (Bool.not_not _).symm) (fun ht => ?_) (fun hf => ?_)
  · have hlt : i < k.body.length := by simpa using ht
    obtain ⟨s, hs⟩ : ∃ s, k.body[i]? = some s := ⟨_, gE hlt⟩
    by_cases hc : s.sets <;> cases h11 : (s.kind == 11)
    all_goals have fx := And.intro h1 <| And.intro h2 <| And.intro hp2 <| And.intro h6 <| And.intro h5 <| And.intro hp5 <| And.intro hk <| And.intro hs <| And.intro hc <| h11
    repeat' (first
     | refine w_seq ?_ | refine w_block ?_ | refine w_skip ?_ | refine w_reg fun K hK => ?_
     | ((with_reducible refine s_end hK ?_); clear hK K)
     | (with_reducible first | refine then_normal ?_ | refine in_normal ?_ | refine then_exit ?_ | refine in_exit ?_ | refine then_ret ?_ | refine in_ret ?_ | refine in_other (by decide) ?_)
     | refine w_exit ?_
     | refine w_ret ?_
     | (with_reducible refine s_none ?_)
     | ((with_reducible refine g_id ?_); refine x_guard (h := ?_))
     | (with_reducible first | refine gx_tt ?_ | refine gx_ff ?_ | refine x_tf (h := ?_) | refine x_ft (h := ?_) | refine x_u (h := ?_) | refine x_assign (h := ?_) | refine x_box (h := ?_) | refine x_alloc (h := ?_) | refine x_store0 (h := ?_) | refine x_append0 (T := 26) (h := ?_) | refine x_append (T := 26) (h := ?_) | refine x_build (h := ?_))
     | ((with_reducible refine o_id 104 rfl ?_); refine x_call (hF := sets_fn _ s) (h := ?_))
     | (with_reducible refine x_q (h := ?_))
     | (with_reducible refine gx_s (fun ht => ?_) (fun ht => ?_))
     | refine x_condt (h1 := ?_) | refine x_condf (h1 := ?_)
     | fail)
    all_goals try clear fx
    all_goals refine ⟨k.body.length - (i + 1), by omega, i + 1, rfl, by omega, by simp [h1], by simp [h2], by simp [hp2], by simp; exact wrp (by omega) (by omega), _, rfl, ?_⟩
    all_goals simp at h11
    all_goals simp [take_succ_filter hs, hc, h11, h5, hp5, hxs]
    all_goals (rw [hxs] at hxl; simp at hxl; omega)
  · have h8 : i = k.body.length := by
      have : ¬ i < k.body.length := by simpa using hf
      omega
    subst h8
    have hb : boundAll k = xs := by rw [hxs]; simp [boundAll]
    have fx := And.intro h1 <| And.intro h2 <| And.intro hp2 <| And.intro h6 <| And.intro h5 <| And.intro hp5 <| hk
    have d1 := sorted_fn gl xs (by omega)
    refine k_run ?_
    clear fx d1
    rw [← hb]
    exact e_list (t := 4) (by first | (simp []; done) | (simp []; rfl)) (by first | (simp []; done) | (simp []; rfl)) (by simp)
theorem declared_fn (gl) (p : Prg) (b : Nat) (k : Blk) (d : Int) (hk : p[b]? = some k) (hs : BSm k) : FnOk Tryz.prog gl 40 [pav p, iv b, iv d] (fun r y H' => y = .hs r 1 0 (k.dc d).length ∧ H' r = some (.row 1 (irows (k.dc d)))) := by
  obtain ⟨hl1, hl2⟩ := hs
  refine FnOk.of_sem Tryz.func40 rfl (by kernel_rfl) (rs := [.tmp 6]) rfl Tryz.ntmps40 (Nat.le_of_ble_eq_true rfl) fun C w g root => ?_
  have fx :=  hk
  refine k_run ?_
  clear fx
  refine w_loop (fun n st => ∃ i : Nat, n = k.body.length - i ∧ i ≤ k.body.length ∧ st.tm 1 = iv b ∧ st.tm 2 = iv d ∧ st.tm 3 = .pt (.s 3) 0 ∧ st.hp (.s 3) = some (.row 1 [[ksl p]]) ∧ st.tm 8 = iv i ∧ ∃ xs : List Int, xs = ((k.body.take i).filter (fun s => decide (s.kind = d))).map Stm.to ∧ xs.length ≤ i ∧ st.tm 7 = .hs (.s 7) 1 0 xs.length ∧ st.hp (.s 7) = some (.row 1 (irows xs))) k.body.length ?_ ?_
  · exact ⟨0, by simp⟩
  rintro n st - - ⟨i, rfl, hi, h1, h2, h3, hp3, h8, xs, hxs, hxl, h7, hp7⟩
  have fx := And.intro h1 <| And.intro h2 <| And.intro h3 <| And.intro hp3 <| And.intro h8 <| And.intro h7 <| And.intro hp7 <| hk
  refine k_run ?_
  clear fx
  refine w_if (by simp []; first | done | rfl | exact (Bool.not_not _).symm) (fun ht => ?_) (fun hf => ?_)
  · have hlt : i < k.body.length := by simpa using ht
    obtain ⟨s, hs⟩ : ∃ s, k.body[i]? = some s := ⟨_, gE hlt⟩
    cases hc : (s.kind == d)
    all_goals have fx := And.intro h1 <| And.intro h2 <| And.intro h3 <| And.intro hp3 <| And.intro h8 <| And.intro h7 <| And.intro hp7 <| And.intro hk <| And.intro hs <| hc
    repeat' (first
     | refine w_seq ?_ | refine w_block ?_ | refine w_skip ?_ | refine w_reg fun K hK => ?_
     | ((with_reducible refine s_end hK ?_); clear hK K)
     | (with_reducible first | refine then_normal ?_ | refine in_normal ?_ | refine then_exit ?_ | refine in_exit ?_ | refine then_ret ?_ | refine in_ret ?_ | refine in_other (by decide) ?_)
     | refine w_exit ?_
     | refine w_ret ?_
     | (with_reducible first | refine s_none ?_ | refine x_assign (h := ?_) | refine x_box (h := ?_) | refine x_append0 (T := 26) (h := ?_) | refine x_append (T := 26) (h := ?_) | refine x_build (h := ?_))
     | (with_reducible refine x_q (h := ?_))
     | refine x_condt (h1 := ?_) | refine x_condf (h1 := ?_)
     | fail)
    all_goals try clear fx
    all_goals refine ⟨k.body.length - (i + 1), by omega, i + 1, rfl, by omega, by simp [h1], by simp [h2], by simp [h3], by simp [hp3], by simp; exact wrp (by omega) (by omega), _, rfl, ?_⟩
    all_goals simp at hc
    all_goals simp [take_succ_filter hs, hc, h7, hp7, hxs]
    all_goals (rw [hxs] at hxl; simp at hxl; omega)
  · have h8 : i = k.body.length := by
      have : ¬ i < k.body.length := by simpa using hf
      omega
    subst h8
    have hb : declAll k d = xs := by rw [hxs]; simp [declAll]
    have fx := And.intro h1 <| And.intro h2 <| And.intro h3 <| And.intro hp3 <| And.intro h8 <| And.intro h7 <| And.intro hp7 <| hk
    have d1 := sorted_fn gl xs (by omega)
    refine k_run ?_
    clear fx d1
    simp only [Blk.dc, hb]
    exact e_list (t := 6) (by first | (simp []; done) | (simp []; rfl)) (by first | (simp []; done) | (simp []; rfl)) (by simp)
theorem isLocal_fn (gl) (p : Prg) (b : Nat) (k : Blk) (x : Int) (hk : p[b]? = some k) (hs : BSm k) : FnOk Tryz.prog gl 69 [pav p, iv b, iv x] (fun _ y _ => y = bv (isLocal b k x)) := by
  refine FnOk.of_sem Tryz.func69 rfl (by kernel_rfl) (rs := [.tmp 6]) rfl Tryz.ntmps69 (Nat.le_of_ble_eq_true rfl) fun C w g root => ?_
  all_goals have fx :=  hk
  repeat' (first
   | refine w_seq ?_ | refine w_reg fun K hK => ?_
   | ((with_reducible refine s_end hK ?_); clear hK K)
   | (with_reducible first | refine then_normal ?_)
   | refine w_ret ?_
   | (with_reducible refine s_none ?_)
   | ((with_reducible refine g_id ?_); refine x_guard (h := ?_))
   | (with_reducible first | refine gx_tt ?_ | refine x_tf (h := ?_) | refine x_assign (h := ?_) | refine x_box (h := ?_))
   | ((with_reducible refine o_id 92 rfl ?_); refine x_callh (hF := bound_fn _ p b k hk hs) (h := ?_))
   | ((with_reducible refine o_id 41 rfl ?_); refine x_call (hF := has_fn _ _ _ (by first | exact Nat.le_trans (Blk.bd_len _) (by decide) | exact Nat.le_trans (Blk.dc_len _ _) (by decide) | exact Nat.le_trans (Blk.rd_len _) (by decide))) (h := ?_))
   | ((with_reducible refine o_id 40 rfl ?_); refine x_callh (hF := declared_fn _ p b k _ hk hs) (h := ?_))
   | (with_reducible refine x_q (h := ?_))
   | (with_reducible refine gx_s (fun ht => ?_) (fun ht => ?_))
   | fail)
  all_goals try clear fx
  all_goals refine e_ret [] .nil (by simp; rfl) ?_
  all_goals simp_all [isLocal]
theorem outer_fn (gl) (p : Prg) (b : Nat) (k : Blk) (x : Int) (hk : p[b]? = some k) (hs : Sml p) (hh : Heads p) : FnOk Tryz.prog gl 42 [pav p, iv b, iv x] (fun _ y _ => y = iv (outer p b x)) := by
  refine FnOk.of_sem Tryz.func42 rfl (by kernel_rfl) (rs := [.tmp 6]) rfl Tryz.ntmps42 (Nat.le_of_ble_eq_true rfl) fun C w g root => ?_
  have fx :=  hk
  refine k_run ?_
  clear fx
  obtain ⟨hk1, hk2, _⟩ := hh b k hk
  have hbl : b < p.length := (gS hk).1
  refine w_loop (fun n st => ∃ j : Int, n = (j + 1).toNat ∧ -1 ≤ j ∧ j < p.length ∧ outerF p x p.length j = outer p b x ∧ st.tm 2 = iv x ∧ st.tm 3 = .pt (.s 3) 0 ∧ st.hp (.s 3) = some (.row 1 [[ksl p]]) ∧ st.tm 7 = iv j) (k.parent + 1).toNat ?_ ?_
  · exact ⟨k.parent, rfl, hk1, by omega, (outer_fuel hh hk).symm, by simp⟩
  rintro n st - - ⟨j, rfl, hj1, hj2, ho, h2, h3, hp3, h7⟩
  have fx := And.intro h2 <| And.intro h3 <| And.intro hp3 <| h7
  refine k_run ?_
  clear fx
  refine w_if (by simp []; first | done | rfl | exact (Bool.not_not _).symm) (fun ht => ?_) (fun hf => ?_)
  · have hj0 : 0 < j := by simpa using ht
    obtain ⟨j, rfl⟩ : ∃ i : Nat, j = i := ⟨j.toNat, by omega⟩
    have hj0 : 0 < j := by omega
    obtain ⟨q, hq⟩ : ∃ q, p[j]? = some q := ⟨_, gE (by omega)⟩
    rw [outerF_step hh hq hj0] at ho
    obtain ⟨hq1, hq2, hq3⟩ := hh j q hq
    cases hc : (q.kind == 1)
    · skip
      have fx := And.intro h2 <| And.intro h3 <| And.intro hp3 <| And.intro h7 <| And.intro hq <| And.intro hc <| @bne_def
      refine k_run ?_
      clear fx
      refine ⟨(q.parent + 1).toNat, by omega, q.parent, rfl, hq1, by omega, ?_, by simp [h2, h3, hp3]⟩
      rw [← ho, if_pos (by simpa using hc)]
    · rw [if_neg (by simpa using hc)] at ho
      all_goals have fx := And.intro h2 <| And.intro h3 <| And.intro hp3 <| And.intro h7 <| And.intro hq <| And.intro hc <| @bne_def
      repeat' (first
       | refine w_seq ?_ | refine w_block ?_ | refine w_skip ?_ | refine w_reg fun K hK => ?_
       | ((with_reducible refine s_end hK ?_); clear hK K)
       | (with_reducible first | refine then_normal ?_ | refine in_normal ?_ | refine then_exit ?_ | refine in_exit ?_ | refine then_ret ?_ | refine in_ret ?_ | refine in_other (by decide) ?_)
       | refine w_exit ?_
       | refine w_ret ?_
       | (with_reducible first | refine s_none ?_ | refine x_assign (h := ?_) | refine x_box (h := ?_))
       | ((with_reducible refine o_id 40 rfl ?_); refine x_callh (hF := declared_fn _ p j q _ hq (hs.bsm hq)) (h := ?_))
       | ((with_reducible refine o_id 41 rfl ?_); refine x_call (hF := has_fn _ _ _ (Nat.le_trans (Blk.dc_len _ _) (by decide))) (h := ?_))
       | (with_reducible refine x_q (h := ?_))
       | refine x_condt (h1 := ?_) | refine x_condf (h1 := ?_)
       | fail)
      all_goals try clear fx
      refine w_if (by simp []; first | done | rfl | exact (Bool.not_not _).symm) (fun ht => ?_) (fun hf => ?_)
      · have hm : x ∈ q.dc 9 := by simpa using ht
        rw [if_pos hm] at ho
        have fx := And.intro h2 <| And.intro h3 <| And.intro hp3 <| And.intro h7 <| hq
        refine k_run ?_
        clear fx
        refine e_ret [] .nil (by simp []; rfl) (by simp [← ho])
      · have hm : ¬ x ∈ q.dc 9 := by simpa using hf
        rw [if_neg hm] at ho
        have fx := And.intro h2 <| And.intro h3 <| And.intro hp3 <| And.intro h7 <| hq
        have c1 := isLocal_fn gl p j q x hq (hs.bsm hq)
        refine k_run ?_
        clear fx c1
        refine w_if (by simp []; first | done | rfl | exact (Bool.not_not _).symm) (fun ht => ?_) (fun hf => ?_)
        · rw [if_pos ht] at ho
          have fx := And.intro h2 <| And.intro h3 <| And.intro hp3 <| And.intro h7 <| hq
          refine k_run ?_
          clear fx
          refine e_ret [] .nil (by simp []; rfl) (by simp [← ho])
        · rw [if_neg (by simp [hf])] at ho
          have fx := And.intro h2 <| And.intro h3 <| And.intro hp3 <| And.intro h7 <| hq
          refine k_run ?_
          clear fx
          refine ⟨(q.parent + 1).toNat, by omega, q.parent, rfl, hq1, by omega, ho, by simp [h2, h3, hp3]⟩
  · have hj : j ≤ 0 := by simpa using hf
    rw [outerF_end hj] at ho
    have fx := fx0
    refine k_run ?_
    clear fx
    refine e_ret [] .nil (by simp []; rfl) (by simp [← ho])
theorem owner_fn (gl) (p : Prg) (b : Nat) (k : Blk) (x : Int) (hk : p[b]? = some k) (hs : Sml p) (hh : Heads p) : FnOk Tryz.prog gl 71 [pav p, iv b, iv x] (fun _ y _ => y = iv (owner p b x)) := by
  refine FnOk.of_sem Tryz.func71 rfl (by kernel_rfl) (rs := [.tmp 6]) rfl Tryz.ntmps71 (Nat.le_of_ble_eq_true rfl) fun C w g root => ?_
  all_goals have fx :=  hk
  repeat' (first
   | refine w_seq ?_ | refine w_skip ?_ | refine w_reg fun K hK => ?_
   | ((with_reducible refine s_end hK ?_); clear hK K)
   | (with_reducible first | refine then_normal ?_ | refine then_ret ?_)
   | refine w_ret ?_
   | (with_reducible refine s_none ?_)
   | ((with_reducible refine g_id ?_); refine x_guard (h := ?_))
   | (with_reducible first | refine gx_ff ?_ | refine x_ft (h := ?_) | refine x_assign (h := ?_) | refine x_box (h := ?_))
   | ((with_reducible refine o_id 40 rfl ?_); refine x_callh (hF := declared_fn _ p b k _ hk (hs.bsm hk)) (h := ?_))
   | ((with_reducible refine o_id 41 rfl ?_); refine x_call (hF := has_fn _ _ _ (Nat.le_trans (Blk.dc_len _ _) (by decide))) (h := ?_))
   | ((with_reducible refine o_id 69 rfl ?_); refine x_call (hF := isLocal_fn _ p b k x hk (hs.bsm hk)) (h := ?_))
   | ((with_reducible refine o_id 42 rfl ?_); refine x_call (hF := outer_fn _ p b k x hk hs hh) (h := ?_))
   | (with_reducible refine x_q (h := ?_))
   | (with_reducible refine gx_s (fun ht => ?_) (fun ht => ?_))
   | refine x_condt (h1 := ?_)
   | refine x_if (h1 := fun ht => ?_) (h2 := fun ht => ?_)
   | fail)
  all_goals try clear fx
  all_goals refine e_ret [] .nil (by simp; rfl) ?_
  all_goals simp_all [owner]
theorem madeAs_fn (gl) (p : Prg) (b : Nat) (j kind : Int) (hs : Sml p) (hb : b < p.length) : FnOk Tryz.prog gl 91 [pav p, iv b, iv j, iv kind] (fun _ y _ => y = bv (madeAs p b j kind)) := by
  have hpl := hs.len
  have w1 : IntKind.i64.wrap ((b : Int) + 1) = b + 1 := wrp (by omega) (by omega)
  have w2 : IntKind.i64.wrap ((p.length : Int) - 1) = p.length - 1 := wrp (by omega) (by omega)
  refine FnOk.of_sem Tryz.func91 rfl (by kernel_rfl) (rs := [.tmp 8]) rfl Tryz.ntmps91 (Nat.le_of_ble_eq_true rfl) fun C w g root => ?_
  by_cases hj : (b : Int) + 1 ≤ j ∧ j ≤ (p.length : Int) - 1
  · obtain ⟨j, rfl⟩ : ∃ i : Nat, j = i := ⟨j.toNat, by omega⟩
    obtain ⟨q, hq⟩ : ∃ q, p[j]? = some q := ⟨_, gE (by omega)⟩
    all_goals have fx := And.intro hq <| And.intro w1 <| And.intro w2 <| hj
    repeat' (first
     | refine w_seq ?_ | refine w_reg fun K hK => ?_
     | ((with_reducible refine s_end hK ?_); clear hK K)
     | (with_reducible first | refine then_normal ?_)
     | refine w_ret ?_
     | (with_reducible refine s_none ?_)
     | ((with_reducible refine g_id ?_); refine x_guard (h := ?_))
     | (with_reducible first | refine gx_tt ?_ | refine x_tf (h := ?_) | refine x_assign (h := ?_) | refine x_box (h := ?_))
     | ((with_reducible refine o_id 21 rfl ?_); refine x_call (hF := inRange_fn _ _ _ _) (h := ?_))
     | (with_reducible refine x_q (h := ?_))
     | (with_reducible refine gx_s (fun ht => ?_) (fun ht => ?_))
     | fail)
    all_goals try clear fx
    all_goals refine e_ret [] .nil (by simp; rfl) ?_
    all_goals simp_all [madeAs]
  · have hj' : (decide ((b : Int) + 1 ≤ j) && decide (j ≤ (p.length : Int) - 1)) = false := by simpa using hj
    all_goals have fx := And.intro w1 <| And.intro w2 <| hj'
    repeat' (first
     | refine w_seq ?_ | refine w_reg fun K hK => ?_
     | ((with_reducible refine s_end hK ?_); clear hK K)
     | (with_reducible first | refine then_normal ?_)
     | refine w_ret ?_
     | (with_reducible refine s_none ?_)
     | ((with_reducible refine g_id ?_); refine x_guard (h := ?_))
     | (with_reducible first | refine x_tf (h := ?_) | refine x_assign (h := ?_) | refine x_box (h := ?_))
     | ((with_reducible refine o_id 21 rfl ?_); refine x_call (hF := inRange_fn _ _ _ _) (h := ?_))
     | (with_reducible refine x_q (h := ?_))
     | fail)
    all_goals try clear fx
    all_goals refine e_ret [] .nil (by simp; rfl) ?_
    all_goals simp_all [madeAs]
    intro h1 h2
    exact absurd (hj h1) (by omega)
theorem validBlock_fn (gl) (p : Prg) (b : Nat) (k : Blk) (hk : p[b]? = some k) (hb : b < p.length) (hs : Sml p) : FnOk Tryz.prog gl 64 [pav p, iv b] (fun _ y _ => y = bv (decide (HeadOk b k))) := by
  have hpl := hs.len
  have w2 : IntKind.i64.wrap ((b : Int) - 1) = b - 1 := wrp (by omega) (by omega)
  refine FnOk.of_sem Tryz.func64 rfl (by kernel_rfl) (rs := [.tmp 4]) rfl Tryz.ntmps64 (Nat.le_of_ble_eq_true rfl) fun C w g root => ?_
  obtain ⟨kind, parent, params, body⟩ := k
  by_cases hp : 2 ≤ params.length
  · have c0 : ((params.length : Int) == 0) = false := by simp only [beq_eq_false_iff_ne, ne_eq]; omega
    have c1 : ((params.length : Int) == 1) = false := by simp only [beq_eq_false_iff_ne, ne_eq]; omega
    all_goals have fx := And.intro hk <| And.intro w2 <| And.intro c0 <| c1
    repeat' (first
     | refine w_seq ?_ | refine w_skip ?_ | refine w_reg fun K hK => ?_
     | ((with_reducible refine s_end hK ?_); clear hK K)
     | (with_reducible first | refine then_normal ?_ | refine then_ret ?_)
     | refine w_ret ?_
     | (with_reducible refine s_none ?_)
     | ((with_reducible refine g_id ?_); refine x_guard (h := ?_))
     | (with_reducible first | refine gx_tt ?_ | refine gx_ff ?_ | refine x_tf (h := ?_) | refine x_ft (h := ?_) | refine x_assign (h := ?_) | refine x_box (h := ?_) | refine x_alloc (h := ?_) | refine x_store0 (h := ?_))
     | ((with_reducible refine o_id 21 rfl ?_); refine x_call (hF := inRange_fn _ _ _ _) (h := ?_))
     | (with_reducible refine x_q (h := ?_))
     | (with_reducible refine gx_s (fun ht => ?_) (fun ht => ?_))
     | refine x_condt (h1 := ?_)
     | refine x_if (h1 := fun ht => ?_) (h2 := fun ht => ?_)
     | fail)
    all_goals try clear fx
    all_goals refine e_ret [] .nil (by simp; rfl) ?_
    all_goals simp_all [HeadOk]
    all_goals (intros; omega)
  · rcases params with _ | ⟨x, _ | ⟨y, l⟩⟩
    rotate_left 2
    · simp at hp
    all_goals have fx := And.intro hk <| w2
    repeat' (first
     | refine w_seq ?_ | refine w_skip ?_ | refine w_reg fun K hK => ?_
     | ((with_reducible refine s_end hK ?_); clear hK K)
     | (with_reducible first | refine then_normal ?_ | refine then_ret ?_)
     | refine w_ret ?_
     | (with_reducible refine s_none ?_)
     | ((with_reducible refine g_id ?_); refine x_guard (h := ?_))
     | (with_reducible first | refine gx_tt ?_ | refine gx_ff ?_ | refine x_tf (h := ?_) | refine x_ft (h := ?_) | refine x_u (h := ?_) | refine x_assign (h := ?_) | refine x_box (h := ?_) | refine x_alloc (h := ?_) | refine x_store0 (h := ?_))
     | ((with_reducible refine o_id 21 rfl ?_); refine x_call (hF := inRange_fn _ _ _ _) (h := ?_))
     | ((with_reducible refine o_id 90 rfl ?_); refine x_call (hF := spec_isName_fn _ _) (h := ?_))
     | (with_reducible refine x_q (h := ?_))
     | (with_reducible refine gx_s (fun ht => ?_) (fun ht => ?_))
     | refine x_condt (h1 := ?_)
     | refine x_if (h1 := fun ht => ?_) (h2 := fun ht => ?_)
     | fail)
    all_goals try clear fx
    all_goals refine e_ret [] .nil (by simp; rfl) ?_
    all_goals simp_all [HeadOk]
    all_goals (intros; omega)
theorem validStmt_fn (gl) (p : Prg) (b : Nat) (k : Blk) (s : Stm) (hk : p[b]? = some k) (hs : Sml p) (hb : b < p.length) : FnOk Tryz.prog gl 65 [pav p, iv b, Stm.av s] (fun _ y _ => y = bv (StmOk p b k s)) := by
  refine FnOk.of_sem Tryz.func65 rfl (by kernel_rfl) (rs := [.tmp 6]) rfl Tryz.ntmps65 (Nat.le_of_ble_eq_true rfl) fun C w g root => ?_
  obtain ⟨kind, to, a, c⟩ := s
  all_goals have fx :=  hk
  repeat' (first
   | refine w_seq ?_ | refine w_block ?_ | refine w_skip ?_ | refine w_reg fun K hK => ?_
   | ((with_reducible refine s_end hK ?_); clear hK K)
   | (with_reducible first | refine then_normal ?_ | refine then_ret ?_)
   | refine w_ret ?_
   | (with_reducible refine s_none ?_)
   | (with_reducible first | refine x_assign (h := ?_) | refine x_box (h := ?_))
   | ((with_reducible refine o_id 73 rfl ?_); refine x_callh (hF := readsOf_fn _ ⟨kind, to, a, c⟩) (h := ?_))
   | ((with_reducible refine o_id 90 rfl ?_); refine x_call (hF := spec_isName_fn _ _) (h := ?_))
   | (with_reducible refine x_q (h := ?_))
   | refine x_if (h1 := fun ht => ?_) (h2 := fun ht => ?_)
   | fail)
  all_goals try clear fx
  · have hto : isNm to = false := by
      rw [Bool.eq_false_iff]
      intro h
      simp at h ht
      omega
    refine e_ret [] .nil (by simp; rfl) ?_
    simp only [StmOk, hto]
    rfl
  have hto : isNm to = true := by simpa using ht
  generalize hr : Stm.reads ⟨kind, to, a, c⟩ = rs
  have hrl : rs.length ≤ 2 := hr ▸ Stm.reads_len _
  refine w_loop (fun n st => ∃ i : Nat, n = rs.length - i ∧ i ≤ rs.length ∧ st.tm 1 = iv b ∧ st.tm 3 = .pt (.s 3) 0 ∧ st.hp (.s 3) = some (.row 1 [[ksl p]]) ∧ st.tm 5 = .pt (.s 5) 0 ∧ st.hp (.s 5) = some (.row 4 [[iv kind, iv to, iv a, iv c]]) ∧ st.tm 8 = iv i ∧ st.tm 7 = .hs (.s 7) 1 0 rs.length ∧ st.hp (.s 7) = some (.row 1 (irows rs)) ∧ (rs.take i).all isNm = true) rs.length ?_ ?_
  · exact ⟨0, by simp [hr]⟩
  rintro n st - - ⟨i, rfl, hi, h1, h3, hp3, h5, hp5, h8, h7, hp7, hal⟩
  all_goals have fx := And.intro h1 <| And.intro h3 <| And.intro hp3 <| And.intro h5 <| And.intro hp5 <| And.intro h8 <| And.intro h7 <| hp7
  repeat' (first
   | refine w_seq ?_ | refine w_reg fun K hK => ?_
   | ((with_reducible refine s_end hK ?_); clear hK K)
   | (with_reducible first | refine then_normal ?_)
   | (with_reducible refine s_none ?_)
   | (with_reducible refine x_q (h := ?_))
   | fail)
  all_goals try clear fx
  refine w_if (by simp []; first | done | rfl | exact (Bool.not_not _).symm) (fun ht => ?_) (fun hf => ?_)
  · have hlt : i < rs.length := by simpa using ht
    obtain ⟨y, hy⟩ : ∃ y, rs[i]? = some y := ⟨_, gE hlt⟩
    obtain ⟨_, hy'⟩ := gS hy
    all_goals have fx := And.intro h1 <| And.intro h3 <| And.intro hp3 <| And.intro h5 <| And.intro hp5 <| And.intro h8 <| And.intro h7 <| And.intro hp7 <| And.intro hy' <| hlt
    repeat' (first
     | refine w_seq ?_ | refine w_block ?_ | refine w_skip ?_ | refine w_reg fun K hK => ?_
     | ((with_reducible refine s_end hK ?_); clear hK K)
     | (with_reducible first | refine then_normal ?_ | refine then_ret ?_ | refine in_ret ?_)
     | refine w_ret ?_
     | (with_reducible refine s_none ?_)
     | (with_reducible first | refine x_assign (h := ?_))
     | ((with_reducible refine o_id 90 rfl ?_); refine x_call (hF := spec_isName_fn _ _) (h := ?_))
     | (with_reducible refine x_q (h := ?_))
     | refine x_if (h1 := fun ht => ?_) (h2 := fun ht => ?_)
     | fail)
    all_goals try clear fx
    · have hno : isNm y = false := by
        rw [Bool.eq_false_iff]
        intro h
        simp at h ht
        omega
      refine e_ret [] .nil (by simp; rfl) ?_
      have hall : rs.all isNm = false := by
        rw [Bool.eq_false_iff]
        intro h
        have := List.all_eq_true.1 h y (List.mem_of_getElem? hy)
        rw [hno] at this
        cases this
      simp only [StmOk, hr, hall]
      simp
    · have hyes : isNm y = true := by simpa using ht
      refine ⟨rs.length - (i + 1), by omega, i + 1, rfl, by omega, by simp [h1], by simp [h3], by simp [hp3], by simp [h5], by simp [hp5], by simp; exact wrp (by omega) (by omega), by simp [h7], by simp [hp7], ?_⟩
      rw [List.take_add_one, hy, List.all_append, hal]
      simp only [Option.toList_some, List.all_cons, List.all_nil, hyes]
      rfl
  · have hge : i = rs.length := by
      have : ¬ i < rs.length := by simpa using hf
      omega
    subst hge
    rw [List.take_length] at hal
    have hok : StmOk p b k ⟨kind, to, a, c⟩ = (if kind = 0 then decide (0 ≤ a) && decide (a ≤ 99) && c == 0 else if kind = 1 then c == 0 else if kind = 2 ∨ kind = 5 then true
      else if kind = 3 then c == 0 && madeAs p b a 1 else if kind = 4 then c == 0 && madeAs p b a 2 else if kind = 6 then isNm c
      else if kind = 7 then to == 0 && c == 0 else if kind = 8 then to == 0 && c == 0 && k.kind == 1
      else if kind = 9 ∨ kind = 10 then a == 0 && c == 0 && k.kind != 0 else if kind = 11 then a == 0 && c == 0 else false) := by
      simp only [StmOk, hr, hal, hto, Bool.true_and]
    rw [hok]
    clear hok
    all_goals have fx := And.intro h1 <| And.intro h3 <| And.intro hp3 <| And.intro h5 <| And.intro hp5 <| hk
    repeat' (first
     | refine w_seq ?_ | refine w_block ?_ | refine w_skip ?_ | refine w_reg fun K hK => ?_
     | ((with_reducible refine s_end hK ?_); clear hK K)
     | (with_reducible first | refine then_normal ?_ | refine then_ret ?_ | refine in_ret ?_)
     | refine w_exit ?_
     | refine w_ret ?_
     | (with_reducible refine s_none ?_)
     | ((with_reducible refine g_id ?_); refine x_guard (h := ?_))
     | (with_reducible first | refine gx_tt ?_ | refine x_tf (h := ?_) | refine x_assign (h := ?_))
     | ((with_reducible refine o_id 90 rfl ?_); refine x_call (hF := spec_isName_fn _ _) (h := ?_))
     | ((with_reducible refine o_id 21 rfl ?_); refine x_call (hF := inRange_fn _ _ _ _) (h := ?_))
     | ((with_reducible refine o_id 91 rfl ?_); refine x_call (hF := madeAs_fn _ p b _ _ hs hb) (h := ?_))
     | (with_reducible refine x_q (h := ?_))
     | (with_reducible refine gx_s (fun ht => ?_) (fun ht => ?_))
     | refine x_condt (h1 := ?_)
     | refine x_if (h1 := fun ht => ?_) (h2 := fun ht => ?_)
     | fail)
    all_goals try clear fx
    all_goals refine e_ret [] .nil (by simp; rfl) ?_
    all_goals simp_all
    all_goals (intros; omega)
theorem madeIn_fn (gl) (p : Prg) (b : Nat) (k : Blk) (hk : p[b]? = some k) (h0 : 0 < b) (hh : Heads p) (hs : Sml p) : FnOk Tryz.prog gl 66 [pav p, iv b] (fun _ y _ => y = iv (madeIn p b)) := by
  refine FnOk.of_sem Tryz.func66 rfl (by kernel_rfl) (rs := [.tmp 4]) rfl Tryz.ntmps66 (Nat.le_of_ble_eq_true rfl) fun C w g root => ?_
  obtain ⟨hp1, hp2, hp3⟩ := hh b k hk
  have hbl : b < p.length := (gS hk).1
  have hkp := hp3 h0
  obtain ⟨q, hq⟩ : ∃ q, p[k.parent.toNat]? = some q := ⟨_, gE (by omega)⟩
  have hmi : madeIn p b = ((q.body.filter (fun s => makes s b)).length : Int) := by simp only [madeIn, hk, hq]
  rw [hmi]
  have hql := (hs.bsm hq).body
  all_goals have fx := And.intro hk <| And.intro hq <| hkp
  repeat' (first
   | refine w_seq ?_ | refine w_block ?_ | refine w_reg fun K hK => ?_
   | ((with_reducible refine s_end hK ?_); clear hK K)
   | (with_reducible first | refine s_nil ?_)
   | (with_reducible refine s_none ?_)
   | (with_reducible first | refine x_assign (h := ?_) | refine x_box (h := ?_))
   | (refine wSc (id := 2) (.q 0 <| .q 1 <| .q 2 <| .q 3 <| .q 4 <| .q 5 <| .q 6 <| .q 7 <| .q 8 <| .q 9 <| .q 10 <| .l 11 [] <| .done) mixed fun K hK => ?_)
   | ((with_reducible refine a_end hK ?_); clear hK K)
   | ((with_reducible refine a_id ?_); first | refine xa_q (h := ?_))
   | refine a_l rfl ?_ | (with_reducible refine And.intro ?_ ?_) | exact st_nil
   | fail)
  all_goals try clear fx
  refine w_loop (fun n st => ∃ i : Nat, n = q.body.length - i ∧ i ≤ q.body.length ∧ st.tm 1 = iv b ∧ st.tm 6 = ssl q.body ∧ st.tm 7 = iv i ∧ ∃ c : Nat, c = ((q.body.take i).filter (fun s => makes s b)).length ∧ c ≤ i ∧ st.tm 5 = iv c) q.body.length ?_ ?_
  · exact ⟨0, by simp⟩
  rintro n st - - ⟨i, rfl, hi, h1, h6, h7, c, hc, hci, h5⟩
  all_goals have fx := And.intro h1 <| And.intro h6 <| And.intro h7 <| h5
  repeat' (first
   | refine w_seq ?_ | refine w_reg fun K hK => ?_
   | ((with_reducible refine s_end hK ?_); clear hK K)
   | (with_reducible first | refine then_normal ?_)
   | (with_reducible refine s_none ?_)
   | (with_reducible refine x_q (h := ?_))
   | fail)
  all_goals try clear fx
  refine w_if (by simp []; first | done | rfl | exact (Bool.not_not _).symm) (fun ht => ?_) (fun hf => ?_)
  · have hlt : i < q.body.length := by simpa using ht
    obtain ⟨s, hs⟩ : ∃ s, q.body[i]? = some s := ⟨_, gE hlt⟩
    all_goals have fx := And.intro h1 <| And.intro h6 <| And.intro h7 <| And.intro h5 <| hs
    repeat' (first
     | refine w_seq ?_ | refine w_block ?_ | refine w_skip ?_ | refine w_reg fun K hK => ?_
     | ((with_reducible refine s_end hK ?_); clear hK K)
     | (with_reducible first | refine then_normal ?_)
     | (with_reducible refine s_none ?_)
     | ((with_reducible refine g_id ?_); refine x_guard (h := ?_))
     | (with_reducible first | refine gx_tt ?_ | refine gx_ff ?_ | refine x_tf (h := ?_) | refine x_ft (h := ?_) | refine x_assign (h := ?_))
     | (with_reducible refine x_q (h := ?_))
     | (with_reducible refine gx_s (fun ht => ?_) (fun ht => ?_))
     | refine x_condf (h1 := ?_)
     | refine x_if (h1 := fun ht => ?_) (h2 := fun ht => ?_)
     | fail)
    all_goals try clear fx
    all_goals refine ⟨q.body.length - (i + 1), by omega, i + 1, rfl, by omega, by simp [h1], by simp [h6], by simp; exact wrp (by omega) (by omega), ?_⟩
    all_goals refine ⟨_, rfl, ?_⟩
    all_goals simp only [take_succ_filter hs, List.length_append]
    all_goals simp_all [makes]
    all_goals first | exact wrp (by omega) (by omega) | omega
  · have hge : i = q.body.length := by
      have : ¬ i < q.body.length := by simpa using hf
      omega
    subst hge
    rw [List.take_length] at hc
    all_goals have fx :=  h5
    repeat' (first
     | refine w_seq ?_ | refine w_reg fun K hK => ?_
     | ((with_reducible refine s_end hK ?_); clear hK K)
     | (with_reducible first | refine then_normal ?_)
     | refine w_exit ?_
     | refine w_ret ?_
     | (with_reducible refine s_none ?_)
     | (with_reducible first | refine x_assign (h := ?_))
     | (with_reducible refine x_q (h := ?_))
     | fail)
    all_goals try clear fx
    refine e_ret [] .nil (by simp []; rfl) (by simp [hc])
theorem validBlock_fn' (gl) (p : Prg) (b : Nat) (k : Blk) (hk : p[b]? = some k) (hb : b < p.length) (hs : Sml p) : FnOk Tryz.prog gl 64 [pav p, iv b] (fun _ y _ => y = bv (headOk b k)) := validBlock_fn gl p b k hk hb hs
theorem validShape_fn (gl) (p : Prg) (hs : Sml p) : FnOk Tryz.prog gl 39 [pav p] (fun _ y _ => y = bv (shapeOk p)) := by
  have hpl := hs.len
  refine FnOk.of_sem Tryz.func39 rfl (by kernel_rfl) (rs := [.tmp 2]) rfl Tryz.ntmps39 (Nat.le_of_ble_eq_true rfl) fun C w g root => ?_
  all_goals have fx := fx0
  repeat' (first
   | refine w_seq ?_ | refine w_block ?_ | refine w_skip ?_ | refine w_reg fun K hK => ?_
   | ((with_reducible refine s_end hK ?_); clear hK K)
   | (with_reducible first | refine then_normal ?_ | refine then_ret ?_)
   | refine w_ret ?_
   | (with_reducible refine s_none ?_)
   | (with_reducible first | refine x_assign (h := ?_) | refine x_box (h := ?_))
   | ((with_reducible refine o_id 21 rfl ?_); refine x_call (hF := inRange_fn _ _ _ _) (h := ?_))
   | (with_reducible refine x_q (h := ?_))
   | refine x_if (h1 := fun ht => ?_) (h2 := fun ht => ?_)
   | fail)
  all_goals try clear fx
  · refine e_ret [] .nil (by simp; rfl) ?_
    have hno : (decide (1 ≤ p.length) && decide (p.length ≤ 7)) = false := by
      rw [Bool.eq_false_iff]
      intro h
      simp at h ht
      omega
    simp only [shapeOk, hno]
    rfl
  have hyes : (decide (1 ≤ p.length) && decide (p.length ≤ 7)) = true := by
    simp at ht ⊢
    omega
  have hsh : shapeOk p = ((List.range p.length).all (blkOk p) && (List.range p.length).all (fun i => i == 0 || madeIn p i == 1)) := by
    simp only [shapeOk, hyes, Bool.true_and]
  rw [hsh]
  clear hsh
  refine w_loop (fun n st => ∃ i : Nat, n = p.length - i ∧ i ≤ p.length ∧ st.tm 1 = .pt (.s 1) 0 ∧ st.hp (.s 1) = some (.row 1 [[ksl p]]) ∧ st.tm 3 = iv i ∧ (List.range i).all (blkOk p) = true) p.length ?_ ?_
  · exact ⟨0, by simp⟩
  rintro n st - - ⟨i, rfl, hi, h1, hp1, h3, hal⟩
  all_goals have fx := And.intro h1 <| And.intro hp1 <| h3
  repeat' (first
   | refine w_seq ?_ | refine w_reg fun K hK => ?_
   | ((with_reducible refine s_end hK ?_); clear hK K)
   | (with_reducible first | refine then_normal ?_)
   | (with_reducible refine s_none ?_)
   | (with_reducible refine x_q (h := ?_))
   | fail)
  all_goals try clear fx
  refine w_if (by simp []; first | done | rfl | exact (Bool.not_not _).symm) (fun ht => ?_) (fun hf => ?_)
  · have hlt : i < p.length := by simpa using ht
    obtain ⟨k, hk⟩ : ∃ k, p[i]? = some k := ⟨_, gE hlt⟩
    have hbf : blkOk p i = (headOk i k && decide (k.body.length ≤ 12) && k.body.all (StmOk p i k)) := by simp only [blkOk, hk]
    have fin : ∀ R : Bool, blkOk p i = false → ((List.range p.length).all (blkOk p) && R) = false := fun R h => by rw [range_false hlt h]; rfl
    have hbl := (hs.bsm hk).body
    all_goals have fx := And.intro h1 <| And.intro hp1 <| And.intro h3 <| hk
    repeat' (first
     | refine w_seq ?_ | refine w_block ?_ | refine w_skip ?_ | refine w_reg fun K hK => ?_
     | ((with_reducible refine s_end hK ?_); clear hK K)
     | (with_reducible first | refine then_normal ?_ | refine then_ret ?_ | refine in_ret ?_)
     | refine w_ret ?_
     | (with_reducible refine s_none ?_)
     | ((with_reducible refine g_id ?_); refine x_guard (h := ?_))
     | (with_reducible first | refine gx_ff ?_ | refine x_ft (h := ?_) | refine x_assign (h := ?_))
     | ((with_reducible refine o_id 64 rfl ?_); refine x_call (hF := validBlock_fn' _ p i k hk hlt hs) (h := ?_))
     | (with_reducible refine x_q (h := ?_))
     | (with_reducible refine gx_s (fun ht => ?_) (fun ht => ?_))
     | refine x_condt (h1 := ?_)
     | refine x_if (h1 := fun ht => ?_) (h2 := fun ht => ?_)
     | fail)
    all_goals try clear fx
    · refine e_ret [] .nil (by simp; rfl) ?_
      rw [fin _ (by rw [hbf, show headOk i k = false by simpa using ht]; rfl)]
      rfl
    · refine e_ret [] .nil (by simp; rfl) ?_
      rw [fin _ (by rw [hbf, show decide (k.body.length ≤ 12) = false by simp at ht ⊢; omega]; simp)]
      rfl
    rename_i ht1
    have hhd : headOk i k = true := by simpa using ht1
    have hbd : k.body.length ≤ 12 := by simp at ht; omega
    refine w_loop (fun n st => ∃ j : Nat, n = k.body.length - j ∧ j ≤ k.body.length ∧ st.tm 1 = .pt (.s 1) 0 ∧ st.hp (.s 1) = some (.row 1 [[ksl p]]) ∧ st.tm 3 = iv i ∧ st.tm 4 = iv j ∧ (k.body.take j).all (StmOk p i k) = true) k.body.length ?_ ?_
    · exact ⟨0, by simp [h1, hp1, h3]⟩
    clear h1 hp1 h3 ht ht1
    rintro n st - - ⟨j, rfl, hj, h1, hp1, h3, h4, haj⟩
    all_goals have fx := And.intro h1 <| And.intro hp1 <| And.intro h3 <| And.intro h4 <| hk
    repeat' (first
     | refine w_seq ?_ | refine w_reg fun K hK => ?_
     | ((with_reducible refine s_end hK ?_); clear hK K)
     | (with_reducible first | refine then_normal ?_)
     | (with_reducible refine s_none ?_)
     | (with_reducible refine x_q (h := ?_))
     | fail)
    all_goals try clear fx
    refine w_if (by simp []; first | done | rfl | exact (Bool.not_not _).symm) (fun ht => ?_) (fun hf => ?_)
    · have hlj : j < k.body.length := by simpa using ht
      obtain ⟨s, hsj⟩ : ∃ s, k.body[j]? = some s := ⟨_, gE hlj⟩
      all_goals have fx := And.intro h1 <| And.intro hp1 <| And.intro h3 <| And.intro h4 <| And.intro hk <| hsj
      repeat' (first
       | refine w_seq ?_ | refine w_block ?_ | refine w_skip ?_ | refine w_reg fun K hK => ?_
       | ((with_reducible refine s_end hK ?_); clear hK K)
       | (with_reducible first | refine then_normal ?_ | refine then_ret ?_ | refine in_ret ?_ | refine s_nil ?_)
       | refine w_ret ?_
       | (with_reducible refine s_none ?_)
       | (with_reducible first | refine x_assign (h := ?_))
       | ((with_reducible refine o_id 65 rfl ?_); refine x_call (hF := validStmt_fn _ p i k s hk hs hlt) (h := ?_))
       | (with_reducible refine x_q (h := ?_))
       | (refine wSc (id := 11) (.q 0 <| .q 1 <| .q 2 <| .q 3 <| .q 4 <| .q 5 <| .q 6 <| .q 7 <| .q 8 <| .q 9 <| .q 10 <| .l 11 [9, 8, 7, 6, 5, 4, 3, 2] <| .q 12 <| .done) mixed fun K hK => ?_)
       | ((with_reducible refine a_end hK ?_); clear hK K)
       | ((with_reducible refine a_id ?_); first | refine xa_q (h := ?_))
       | refine a_l rfl ?_ | (with_reducible refine And.intro ?_ ?_) | exact st_nil | refine xa_st (h2 := ?_)
       | refine x_if (h1 := fun ht => ?_) (h2 := fun ht => ?_)
       | fail)
      all_goals try clear fx
      · refine e_ret [] .nil (by simp; rfl) ?_
        rw [fin _ (by rw [hbf, all_false (List.mem_of_getElem? hsj) (show StmOk p i k s = false by simpa using ht)]; simp)]
        rfl
      · refine ⟨k.body.length - (j + 1), by omega, j + 1, rfl, by omega, by simp [h1], by simp [hp1], by simp [h3], by simp; exact wrp (by omega) (by omega), ?_⟩
        rw [List.take_add_one, hsj, List.all_append, haj]
        simpa using ht
    · have hge : j = k.body.length := by
        have : ¬ j < k.body.length := by simpa using hf
        omega
      subst hge
      rw [List.take_length] at haj
      all_goals have fx := And.intro h1 <| And.intro hp1 <| And.intro h3 <| And.intro h4 <| hk
      repeat' (first
       | refine w_reg fun K hK => ?_
       | ((with_reducible refine s_end hK ?_); clear hK K)
       | (with_reducible first | refine then_normal ?_)
       | refine w_exit ?_
       | (with_reducible refine s_none ?_)
       | (with_reducible first | refine x_assign (h := ?_))
       | (with_reducible refine x_q (h := ?_))
       | fail)
      all_goals try clear fx
      refine ⟨p.length - (i + 1), by omega, i + 1, rfl, by omega, by simp [h1], by simp [hp1], by simp; exact wrp (by omega) (by omega), ?_⟩
      rw [all_range_succ, hal, hbf, hhd, haj]
      simpa using hbd
  · have hge : i = p.length := by
      have : ¬ i < p.length := by simpa using hf
      omega
    subst hge
    have hh := heads_of hal
    rw [hal, Bool.true_and]
    all_goals have fx := And.intro h1 <| hp1
    repeat' (first
     | refine w_seq ?_ | refine w_block ?_ | refine w_reg fun K hK => ?_
     | ((with_reducible refine s_end hK ?_); clear hK K)
     | refine w_exit ?_
     | (with_reducible refine s_none ?_)
     | (with_reducible first | refine x_assign (h := ?_))
     | fail)
    all_goals try clear fx
    refine w_loop (fun n st => ∃ i : Nat, n = p.length - i ∧ i ≤ p.length ∧ 1 ≤ i ∧ st.tm 1 = .pt (.s 1) 0 ∧ st.hp (.s 1) = some (.row 1 [[ksl p]]) ∧ st.tm 5 = iv i ∧ (List.range i).all (fun i => i == 0 || madeIn p i == 1) = true) (p.length - 1) ?_ ?_
    · refine ⟨1, by omega, ?_, by omega, by simp [h1, hp1]⟩
      simp at hyes
      omega
    clear h1 hp1 h3 hi
    rintro n st - - ⟨i, rfl, hi, hi1, h1, hp1, h5, hmi⟩
    all_goals have fx := And.intro h1 <| And.intro hp1 <| h5
    repeat' (first
     | refine w_seq ?_ | refine w_reg fun K hK => ?_
     | ((with_reducible refine s_end hK ?_); clear hK K)
     | (with_reducible first | refine then_normal ?_)
     | (with_reducible refine s_none ?_)
     | (with_reducible refine x_q (h := ?_))
     | fail)
    all_goals try clear fx
    refine w_if (by simp []; first | done | rfl | exact (Bool.not_not _).symm) (fun ht => ?_) (fun hf => ?_)
    · have hlt : i < p.length := by simpa using ht
      obtain ⟨k, hk⟩ : ∃ k, p[i]? = some k := ⟨_, gE hlt⟩
      all_goals have fx := And.intro h1 <| And.intro hp1 <| And.intro h5 <| @bne_def
      repeat' (first
       | refine w_seq ?_ | refine w_block ?_ | refine w_skip ?_ | refine w_reg fun K hK => ?_
       | ((with_reducible refine s_end hK ?_); clear hK K)
       | (with_reducible first | refine then_normal ?_ | refine then_ret ?_ | refine in_ret ?_)
       | refine w_ret ?_
       | (with_reducible refine s_none ?_)
       | (with_reducible first | refine x_assign (h := ?_))
       | ((with_reducible refine o_id 66 rfl ?_); refine x_call (hF := madeIn_fn _ p i k hk hi1 hh hs) (h := ?_))
       | (with_reducible refine x_q (h := ?_))
       | refine x_if (h1 := fun ht => ?_) (h2 := fun ht => ?_)
       | fail)
      all_goals try clear fx
      · refine e_ret [] .nil (by simp; rfl) ?_
        rw [range_false hlt (show (i == 0 || madeIn p i == 1) = false by simp at ht ⊢; exact ⟨by omega, ht⟩)]
        rfl
      · refine ⟨p.length - (i + 1), by omega, i + 1, rfl, by omega, by omega, by simp [h1], by simp [hp1], by simp; exact wrp (by omega) (by omega), ?_⟩
        rw [all_range_succ, hmi]
        simp at ht ⊢
        exact .inr ht
    · have hge : i = p.length := by
        have : ¬ i < p.length := by simpa using hf
        omega
      subst hge
      all_goals have fx := fx0
      repeat' (first
       | refine w_seq ?_ | refine w_reg fun K hK => ?_
       | ((with_reducible refine s_end hK ?_); clear hK K)
       | (with_reducible first | refine then_normal ?_)
       | refine w_exit ?_
       | refine w_ret ?_
       | (with_reducible refine s_none ?_)
       | (with_reducible first | refine x_assign (h := ?_))
       | fail)
      all_goals try clear fx
      refine e_ret [] .nil (by simp []; rfl) (by simp [hmi])
end Go.Proofs.YtnnpbiamlalnmaaGreatDoor
end
