/-
  Own texts, joined by mkclaim.py: Ta, Tb.
-/
import Derived.Test.YtmpbjmihjelhgaaDoorM23
import Derived.Test.YtmpbjmihjelhgaaDoorM11
import Derived.Test.YtmpbjmihjelhgaaDoorM24
set_option linter.unusedSimpArgs false
set_option linter.unusedVariables false

section
/-
  The laws' functions of equality and of lists; blocks inside.
-/
set_option maxRecDepth 100000
set_option maxHeartbeats 1000000
set_option linter.unusedSimpArgs false
namespace Go.Proofs.YtmpbjmihjelhgaaDoor
open Go Go.Hm Go.Proofs

theorem equalInts_fn (gl) (xs ys : List Int) (hx : xs.length ≤ 1048576) (hy : ys.length ≤ 1048576) : FnOk Tryd.prog gl 40 [isl xs, isl ys] (fun _ z _ => z = bv (decide (xs = ys))) := by
  refine FnOk.of_sem Tryd.func40 rfl (by kernel_rfl) (rs := [.tmp 4]) rfl Tryd.ntmps40 (Nat.le_of_ble_eq_true rfl) fun C w g root => ?_
  by_cases hl : xs.length = ys.length
  case neg =>
    have h1 : ((xs.length : Int) == ys.length) = false := by simp; omega
    all_goals have fx := And.intro h1 <| @bne_def
    repeat' (first
     | refine w_seq ?_ | refine w_reg fun K hK => ?_
     | ((with_reducible refine s_end hK ?_); clear hK K)
     | (with_reducible first | refine then_normal ?_ | refine then_ret ?_)
     | refine w_ret ?_
     | (with_reducible first | refine s_none ?_ | refine x_assign (h := ?_))
     | (with_reducible refine x_q (h := ?_))
     | refine x_condt (h1 := ?_)
     | fail)
    all_goals try clear fx
    refine e_ret [] .nil (by simp; rfl) ?_
    have : ¬ xs = ys := fun e => hl (by rw [e])
    simp [this]
  all_goals have fx := And.intro hl <| @bne_def
  repeat' (first
   | refine w_seq ?_ | refine w_block ?_ | refine w_skip ?_ | refine w_reg fun K hK => ?_
   | ((with_reducible refine s_end hK ?_); clear hK K)
   | (with_reducible first | refine then_normal ?_)
   | (with_reducible first | refine s_none ?_ | refine x_assign (h := ?_))
   | (with_reducible refine x_q (h := ?_))
   | refine x_condf (h1 := ?_)
   | fail)
  all_goals try clear fx
  refine w_loop (fun n st => ∃ i : Nat, n = xs.length - i ∧ i ≤ xs.length ∧ st.tm 0 = isl xs ∧ st.tm 1 = isl ys ∧ st.tm 5 = iv i ∧ xs.take i = ys.take i) xs.length ?_ ?_
  · exact ⟨0, by simp⟩
  rintro n st - - ⟨i, rfl, hi, h0, h1, h5, heq⟩
  all_goals have fx := And.intro h0 <| h5
  repeat' (first
   | refine w_seq ?_ | refine w_reg fun K hK => ?_
   | ((with_reducible refine s_end hK ?_); clear hK K)
   | (with_reducible first | refine then_normal ?_)
   | (with_reducible first | refine s_none ?_)
   | (with_reducible refine x_q (h := ?_))
   | fail)
  all_goals try clear fx
  refine w_if (by simp []; first | done | rfl | exact (Bool.not_not _).symm) (fun ht => ?_) (fun hf => ?_)
  · have hlt : i < xs.length := by simpa using ht
    obtain ⟨x, hxi⟩ : ∃ x, xs[i]? = some x := ⟨_, List.getElem?_eq_getElem (by omega)⟩
    obtain ⟨y, hyi⟩ : ∃ y, ys[i]? = some y := ⟨_, List.getElem?_eq_getElem (by omega)⟩
    clear ht
    all_goals have fx := And.intro h0 <| And.intro h1 <| And.intro h5 <| And.intro hxi <| And.intro hyi <| @bne_def
    repeat' (first
     | refine w_seq ?_ | refine w_block ?_ | refine w_skip ?_ | refine w_reg fun K hK => ?_
     | ((with_reducible refine s_end hK ?_); clear hK K)
     | (with_reducible first | refine then_normal ?_ | refine then_ret ?_ | refine in_ret ?_)
     | refine w_ret ?_
     | (with_reducible first | refine s_none ?_ | refine x_assign (h := ?_))
     | (with_reducible refine x_q (h := ?_))
     | (refine w_sch (id := 6) (.q 0 <| .q 1 <| .q 2 <| .q 3 <| .q 4 <| .q 5 <| .q 6 <| .q 7 <| .q 8 <| .done) mixed (by kernel_rfl) (by kernel_rfl) fun K hK => ?_)
     | ((with_reducible refine a_end hK ?_); clear hK K)
     | ((with_reducible refine a_id ?_); first | refine xa_q (h := ?_))
     | refine x_if (h1 := fun ht => ?_) (h2 := fun ht => ?_)
     | fail)
    all_goals try clear fx
    all_goals first
      | (refine e_ret [] .nil (by simp; rfl) ?_
         have hne : ¬ xs = ys := fun e => by rw [e, hyi] at hxi; obtain rfl := Option.some.inj hxi; simp at ht
         simp [hne])
      | (have hxy : x = y := by simpa using ht
         refine ⟨xs.length - (i + 1), by omega, i + 1, rfl, by omega, by simp [h0], by simp [h1], by simp; exact wrp (by omega) (by omega), ?_⟩
         rw [List.take_add_one, List.take_add_one, heq, hxi, hyi, hxy])
  · have hge : i = xs.length := by
      have : ¬ i < xs.length := by simpa using hf
      omega
    have : xs = ys := by rw [hge, List.take_length, hl, List.take_length] at heq; exact heq
    all_goals have fx := fx0
    repeat' (first
     | refine w_seq ?_ | refine w_reg fun K hK => ?_
     | ((with_reducible refine s_end hK ?_); clear hK K)
     | (with_reducible first | refine then_normal ?_)
     | refine w_exit ?_
     | refine w_ret ?_
     | (with_reducible first | refine s_none ?_ | refine x_assign (h := ?_))
     | fail)
    all_goals try clear fx
    refine e_ret [] .nil (by simp []; rfl) (by simp [this])

theorem isIn_fn (gl) (xs : List Int) (x : Int) (hx : xs.length ≤ 1048576) : FnOk Tryd.prog gl 17 [isl xs, iv x] (fun _ z _ => z = bv (decide (x ∈ xs))) := by
  refine FnOk.of_sem Tryd.func17 rfl (by kernel_rfl) (rs := [.tmp 4]) rfl Tryd.ntmps17 (Nat.le_of_ble_eq_true rfl) fun C w g root => ?_
  all_goals have fx := fx0
  repeat' (first
   | refine w_seq ?_ | refine w_block ?_ | refine w_reg fun K hK => ?_
   | ((with_reducible refine s_end hK ?_); clear hK K)
   | (with_reducible first | refine s_none ?_ | refine x_assign (h := ?_))
   | fail)
  all_goals try clear fx
  refine w_loop (fun n st => ∃ i : Nat, n = xs.length - i ∧ i ≤ xs.length ∧ st.tm 0 = isl xs ∧ st.tm 1 = iv x ∧ st.tm 5 = iv i ∧ x ∉ xs.take i) xs.length ?_ ?_
  · exact ⟨0, by simp⟩
  rintro n st - - ⟨i, rfl, hi, h0, h1, h5, hno⟩
  all_goals have fx := And.intro h0 <| h5
  repeat' (first
   | refine w_seq ?_ | refine w_reg fun K hK => ?_
   | ((with_reducible refine s_end hK ?_); clear hK K)
   | (with_reducible first | refine then_normal ?_)
   | (with_reducible first | refine s_none ?_)
   | (with_reducible refine x_q (h := ?_))
   | fail)
  all_goals try clear fx
  refine w_if (by simp []; first | done | rfl | exact (Bool.not_not _).symm) (fun ht => ?_) (fun hf => ?_)
  · have hlt : i < xs.length := by simpa using ht
    obtain ⟨u, hu⟩ : ∃ u, xs[i]? = some u := ⟨_, List.getElem?_eq_getElem hlt⟩
    obtain ⟨_, huE⟩ := List.getElem?_eq_some_iff.1 hu
    clear ht
    cases hux : (u == x)
    · have hne : ¬ u = x := by simpa using hux
      all_goals have fx := And.intro h0 <| And.intro h1 <| And.intro h5 <| And.intro hu <| And.intro huE <| And.intro hlt <| hux
      repeat' (first
       | refine w_seq ?_ | refine w_block ?_ | refine w_skip ?_ | refine w_reg fun K hK => ?_
       | ((with_reducible refine s_end hK ?_); clear hK K)
       | (with_reducible first | refine then_normal ?_)
       | (with_reducible first | refine s_none ?_ | refine x_assign (h := ?_))
       | (with_reducible refine x_q (h := ?_))
       | refine x_condf (h1 := ?_)
       | fail)
      all_goals try clear fx
      refine ⟨xs.length - (i + 1), by omega, i + 1, rfl, by omega, by simp [h0], by simp [h1], by simp; exact wrp (by omega) (by omega), ?_⟩
      rw [List.take_add_one, hu]
      simp only [Option.toList_some, List.mem_append, List.mem_singleton, not_or]
      exact ⟨hno, fun e => hne e.symm⟩
    · have he : u = x := by simpa using hux
      have hm : x ∈ xs := he ▸ List.mem_of_getElem? hu
      all_goals have fx := And.intro h0 <| And.intro h1 <| And.intro h5 <| And.intro hu <| And.intro huE <| And.intro hlt <| hux
      repeat' (first
       | refine w_seq ?_ | refine w_block ?_ | refine w_skip ?_ | refine w_reg fun K hK => ?_
       | ((with_reducible refine s_end hK ?_); clear hK K)
       | (with_reducible first | refine then_normal ?_ | refine then_ret ?_ | refine in_ret ?_)
       | refine w_ret ?_
       | (with_reducible first | refine s_none ?_ | refine x_assign (h := ?_))
       | (with_reducible refine x_q (h := ?_))
       | refine x_condt (h1 := ?_)
       | fail)
      all_goals try clear fx
      refine e_ret [] .nil (by simp; rfl) ?_
      simp [hm]
  · have hge : i = xs.length := by
      have : ¬ i < xs.length := by simpa using hf
      omega
    rw [hge, List.take_length] at hno
    all_goals have fx := fx0
    repeat' (first
     | refine w_seq ?_ | refine w_reg fun K hK => ?_
     | ((with_reducible refine s_end hK ?_); clear hK K)
     | (with_reducible first | refine then_normal ?_)
     | refine w_exit ?_
     | refine w_ret ?_
     | (with_reducible first | refine s_none ?_ | refine x_assign (h := ?_))
     | fail)
    all_goals try clear fx
    refine e_ret [] .nil (by simp; rfl) ?_
    simp [hno]

end Go.Proofs.YtmpbjmihjelhgaaDoor
end

section
/-
  The program's names that a block uses, as a list.
-/
set_option maxRecDepth 100000
set_option maxHeartbeats 1000000
set_option linter.unusedSimpArgs false
namespace Go.Proofs.YtmpbjmihjelhgaaDoor
open Go Go.Hm Go.Proofs

theorem sortedTo_congr {l l' : List Int} (h : ∀ x : Int, 0 ≤ x → x ≤ 7 → (x ∈ l ↔ x ∈ l')) : ∀ n : Nat, n ≤ 8 → sortedTo l n = sortedTo l' n
  | 0, _ => rfl
  | n + 1, hn => by
    simp only [sortedTo]
    rw [sortedTo_congr h n (by omega)]
    have := h n (by omega) (by omega)
    by_cases e : (n : Int) ∈ l
    · rw [if_pos e, if_pos (this.1 e)]
    · rw [if_neg e, if_neg (fun e' => e (this.2 e'))]
theorem sorted_congr {l l' : List Int} (h : ∀ x : Int, 0 ≤ x → x ≤ 7 → (x ∈ l ↔ x ∈ l')) : sorted l = sorted l' := sortedTo_congr h 8 (Nat.le_refl _)
theorem bset_same {l : List Int} {x : Nat} (h : x < 8) (hx : (x : Int) ∉ l) : (bset l).take x ++ bv false :: (bset l).drop (x + 1) = bset l := by
  have hl : x < (bset l).length := by simp; omega
  have hset := List.set_eq_take_append_cons_drop (l := bset l) (i := x) (a := bv false)
  rw [if_pos hl] at hset
  rw [← hset]
  apply List.ext_getElem?
  intro i
  rw [List.getElem?_set]
  by_cases e : x = i
  · subst e
    rw [if_pos rfl, if_pos hl, bset_get h]
    simp [hx]
  · rw [if_neg e]

theorem list_fn (gl) (l : List Int) : FnOk Tryd.prog gl 62 [.agg (bset l)] (fun r z H' => z = .hs r 1 0 (sorted l).length ∧ H' r = some (.row 1 (irows (sorted l)))) := by
  refine FnOk.of_sem Tryd.func62 rfl (by kernel_rfl) (rs := [.tmp 2]) rfl Tryd.ntmps62 (Nat.le_of_ble_eq_true rfl) fun C w g root => ?_
  all_goals have fx := fx0
  repeat' (first
   | refine w_seq ?_ | refine w_block ?_ | refine w_reg fun K hK => ?_
   | ((with_reducible refine s_end hK ?_); clear hK K)
   | (with_reducible first | refine s_none ?_ | refine x_assign (h := ?_) | refine x_box (h := ?_))
   | (with_reducible refine x_q (h := ?_))
   | fail)
  all_goals try clear fx
  refine w_loop (fun n st => ∃ x : Nat, n = 8 - x ∧ x ≤ 8 ∧ st.tm 6 = .agg (bset l) ∧ st.tm 7 = iv x ∧ st.tm 3 = .hs (.s 3) 1 0 (sortedTo l x).length ∧ st.hp (.s 3) = some (.row 1 (irows (sortedTo l x))) ∧ (sortedTo l x).length ≤ x) 8 ?_ ?_
  · exact ⟨0, by omega, by omega, by simp, by simp, by simp [sortedTo], by simp [sortedTo], by simp [sortedTo]⟩
  rintro n st - - ⟨x, rfl, hx, h6, h7, h3, hp3, hle⟩
  all_goals have fx :=  h7
  repeat' (first
   | refine w_seq ?_ | refine w_reg fun K hK => ?_
   | ((with_reducible refine s_end hK ?_); clear hK K)
   | (with_reducible first | refine s_none ?_)
   | (with_reducible refine x_q (h := ?_))
   | fail)
  all_goals try clear fx
  refine w_if (by simp []; first | done | rfl | exact (Bool.not_not _).symm) (fun ht => ?_) (fun hf => ?_)
  · have hx8' : (x : Int) < 8 := by simpa using ht
    have hx8 : x < 8 := by omega
    have hbg := bset_get (l := l) hx8
    obtain ⟨hbl, hbE⟩ := List.getElem?_eq_some_iff.1 hbg
    clear ht
    by_cases hm : (x : Int) ∈ l
    · have he : sortedTo l (x + 1) = sortedTo l x ++ [(x : Int)] := by simp [sortedTo, hm]
      generalize hL : sortedTo l x = L at h3 hp3 he hle
      all_goals have fx := And.intro h6 <| And.intro h7 <| And.intro hbg <| And.intro hbE <| And.intro hx8 <| And.intro hx8' <| And.intro hm <| And.intro h3 <| hp3
      repeat' (first
       | refine w_seq ?_ | refine w_block ?_ | refine w_skip ?_ | refine w_reg fun K hK => ?_
       | ((with_reducible refine s_end hK ?_); clear hK K)
       | (with_reducible first | refine then_normal ?_)
       | (with_reducible first | refine s_none ?_ | refine x_assign (h := ?_) | refine x_append (T := 34) (h := ?_) | refine x_build (h := ?_))
       | (with_reducible refine x_q (h := ?_))
       | refine x_condt (h1 := ?_)
       | fail)
      all_goals try clear fx
      refine ⟨8 - (x + 1), by omega, x + 1, rfl, by omega, by simp [h6], by simp; exact wrp (by omega) (by omega), by simp [he], ?_, by simp [he]; omega⟩
      rw [he]
      simp [hp3, irows]
    · have he : sortedTo l (x + 1) = sortedTo l x := by simp [sortedTo, hm]
      all_goals have fx := And.intro h6 <| And.intro h7 <| And.intro hbg <| And.intro hbE <| And.intro hx8 <| And.intro hx8' <| hm
      repeat' (first
       | refine w_seq ?_ | refine w_block ?_ | refine w_skip ?_ | refine w_reg fun K hK => ?_
       | ((with_reducible refine s_end hK ?_); clear hK K)
       | (with_reducible first | refine then_normal ?_)
       | (with_reducible first | refine s_none ?_ | refine x_assign (h := ?_))
       | (with_reducible refine x_q (h := ?_))
       | refine x_condf (h1 := ?_)
       | fail)
      all_goals try clear fx
      exact ⟨8 - (x + 1), by omega, x + 1, rfl, by omega, by simp [h6], by simp; exact wrp (by omega) (by omega), by simp [he, h3], by simp [he, hp3], by rw [he]; omega⟩
  · have hge : x = 8 := by
      have : ¬ (x : Int) < 8 := by simpa using hf
      omega
    subst hge
    all_goals have fx := And.intro h3 <| hp3
    repeat' (first
     | refine w_seq ?_ | refine w_reg fun K hK => ?_
     | ((with_reducible refine s_end hK ?_); clear hK K)
     | (with_reducible first | refine then_normal ?_)
     | refine w_exit ?_
     | refine w_ret ?_
     | (with_reducible first | refine s_none ?_ | refine x_assign (h := ?_))
     | (with_reducible refine x_q (h := ?_))
     | fail)
    all_goals try clear fx
    exact e_list (t := 2) (by first | (simp [hp3]; done) | (simp [hp3]; rfl)) (by first | (simp [hp3]; done) | (simp [hp3]; rfl)) (by simp)

theorem UsedIn_fn (gl) (p : Prg) (b : Nat) (k : Blk) (hk : p[b]? = some k) (hs : Sml p) (hv : progOk p = true) : FnOk Tryd.prog gl 18 [pav p, iv b] (fun r z H' => z = .hs r 1 0 k.us.length ∧ H' r = some (.row 1 (irows k.us))) := by
  have hsh : shapeOk p = true := by
    simp only [progOk, Bool.and_eq_true] at hv
    exact hv.1
  have hp := ShapeP.of hs hsh
  have hh := hp.heads
  have hl7 := hp.len
  obtain ⟨hbl, _⟩ := List.getElem?_eq_some_iff.1 hk
  have hsg := sRows_at (n := .s 18) hbl
  obtain ⟨_, hse⟩ := List.getElem?_eq_some_iff.1 hsg
  have hus : sorted (sortedTo k.us 8) = k.us := by
    have h1 : sorted (sortedTo k.us 8) = sorted (k.rd ++ k.bd ++ k.dc 9 ++ k.dc 10) := sorted_congr fun x h1 h2 => by
      rw [mem_sortedTo, Blk.us, Go.Hm.mem_sorted]
      exact ⟨fun h => h.1.1, fun h => ⟨⟨h, h1, h2⟩, h1, by omega⟩⟩
    rw [h1, Blk.us]
  refine FnOk.of_sem Tryd.func18 rfl (by kernel_rfl) (rs := [.tmp 4]) rfl Tryd.ntmps18 (Nat.le_of_ble_eq_true rfl) fun C w g root => ?_
  all_goals have fx := And.intro hv <| hbl
  repeat' (first
   | refine w_seq ?_ | refine w_skip ?_ | refine w_reg fun K hK => ?_
   | ((with_reducible refine s_end hK ?_); clear hK K)
   | (with_reducible first | refine then_normal ?_)
   | (with_reducible refine s_none ?_)
   | ((with_reducible refine g_id ?_); refine x_guard (h := ?_))
   | (with_reducible first | refine gx_ff ?_ | refine x_assign (h := ?_) | refine x_box (h := ?_) | refine x_alloc (h := ?_))
   | ((with_reducible refine o_id 16 rfl ?_); refine x_call (hF := impl_ValidProgram_fn _ p hs) (h := ?_))
   | ((with_reducible refine o_id 60 rfl ?_); refine x_call (hF := impl_isBlock_fn _ p b) (h := ?_))
   | ((with_reducible refine o_id 58 rfl ?_); refine x_callg (hF := scopesOf_fn _ p hs hh hp.names) (h := ?_))
   | (with_reducible refine x_q (h := ?_))
   | refine x_condf (h1 := ?_)
   | fail)
  all_goals try clear fx
  rintro z H' ⟨rfl, hO⟩
  obtain ⟨hc1, hc2⟩ := hO.hcln
  refine ⟨by simp, ?_⟩
  all_goals have fx := And.intro hc1 <| And.intro hsg <| And.intro hse <| hbl
  repeat' (first
   | refine w_seq ?_ | refine w_block ?_ | refine w_reg fun K hK => ?_
   | ((with_reducible refine s_end hK ?_); clear hK K)
   | (with_reducible refine s_none ?_)
   | (with_reducible first | refine x_assign (h := ?_))
   | (with_reducible refine x_q (h := ?_))
   | fail)
  all_goals try clear fx
  refine w_loop (fun n st => ∃ x : Nat, n = 8 - x ∧ x ≤ 8 ∧ st.tm 5 = .pt (.s 5) 0 ∧ st.hp (.s 5) = some (.row 8 [bset (sortedTo k.us x)]) ∧ st.tm 6 = .pt (.c (.s 18) b 0) 0 ∧ OwnS st.hp (.s 18) p p.length ∧ st.tm 22 = iv x) 8 ?_ ?_
  · exact ⟨0, by omega, by omega, by simp, by simp; rfl, by simp, ⟨by simp [hc1], fun j k hj hk => by simp [hc2 j k hj hk]⟩, by simp⟩
  clear hc1 hc2 hO
  rintro n st - - ⟨x, rfl, hx, h5, hp5, h6, ⟨hc1, hc2⟩, h22⟩
  all_goals have fx :=  h22
  repeat' (first
   | refine w_seq ?_ | refine w_reg fun K hK => ?_
   | ((with_reducible refine s_end hK ?_); clear hK K)
   | (with_reducible refine s_none ?_)
   | (with_reducible refine x_q (h := ?_))
   | fail)
  all_goals try clear fx
  refine w_if (by simp []; first | done | rfl | exact (Bool.not_not _).symm) (fun ht => ?_) (fun hf => ?_)
  · have hx8' : (x : Int) < 8 := by simpa using ht
    have hx8 : x < 8 := by omega
    clear ht
    by_cases hm : (x : Int) ∈ k.us
    · have he : sortedTo k.us (x + 1) = sortedTo k.us x ++ [(x : Int)] := by simp [sortedTo, hm]
      all_goals have fx := And.intro h5 <| And.intro hp5 <| And.intro h6 <| And.intro h22 <| And.intro hx8 <| And.intro hx8' <| hm
      repeat' (first
       | refine w_seq ?_ | refine w_block ?_ | refine w_skip ?_ | refine w_reg fun K hK => ?_
       | ((with_reducible refine s_end hK ?_); clear hK K)
       | (with_reducible first | refine then_normal ?_)
       | (with_reducible refine s_none ?_)
       | (with_reducible first | refine x_assign (h := ?_) | refine x_store0 (h := ?_))
       | ((with_reducible refine o_id 61 rfl ?_); refine x_call (hB := (by first | ((repeat' (first | exact .nil | refine .cons ?_ ?_ | exact .refl _ | exact bw_ints (by simp [fx]; first | done | rfl) (by first | (simp [fx]; done) | (simp [fx]; omega) | omega) | exact bw_list (by simp [fx]; first | done | rfl) (by first | (simp [fx]; done) | (simp [fx]; omega) | omega) (by first | (simp; done) | fail) | exact bw_sc (n := .s 18) (p := p) (k := k) ⟨by simp [hc1], fun j k hj hk => by simp [hc2 j k hj hk]⟩ hh hk)); done) | fail)) (hF := uses_fn' _ p b k x hx8) (h := ?_))
       | (with_reducible refine x_q (h := ?_))
       | fail)
      all_goals try clear fx
      refine ⟨8 - (x + 1), by omega, x + 1, rfl, by omega, by simp [h5], ?_, by simp [h6], ⟨by simp [hc1], fun j k hj hk => by simp [hc2 j k hj hk]⟩, by simp; exact wrp (by omega) (by omega)⟩
      rw [he]
      simp [← bset_add (l := sortedTo k.us x) (y := (x : Int)) rfl hx8]
    · have he : sortedTo k.us (x + 1) = sortedTo k.us x := by simp [sortedTo, hm]
      have hno : (x : Int) ∉ sortedTo k.us x := fun h => by
        rw [mem_sortedTo] at h
        omega
      all_goals have fx := And.intro h5 <| And.intro hp5 <| And.intro h6 <| And.intro h22 <| And.intro hx8 <| And.intro hx8' <| hm
      repeat' (first
       | refine w_seq ?_ | refine w_block ?_ | refine w_skip ?_ | refine w_reg fun K hK => ?_
       | ((with_reducible refine s_end hK ?_); clear hK K)
       | (with_reducible first | refine then_normal ?_)
       | (with_reducible refine s_none ?_)
       | (with_reducible first | refine x_assign (h := ?_) | refine x_store0 (h := ?_))
       | ((with_reducible refine o_id 61 rfl ?_); refine x_call (hB := (by first | ((repeat' (first | exact .nil | refine .cons ?_ ?_ | exact .refl _ | exact bw_ints (by simp [fx]; first | done | rfl) (by first | (simp [fx]; done) | (simp [fx]; omega) | omega) | exact bw_list (by simp [fx]; first | done | rfl) (by first | (simp [fx]; done) | (simp [fx]; omega) | omega) (by first | (simp; done) | fail) | exact bw_sc (n := .s 18) (p := p) (k := k) ⟨by simp [hc1], fun j k hj hk => by simp [hc2 j k hj hk]⟩ hh hk)); done) | fail)) (hF := uses_fn' _ p b k x hx8) (h := ?_))
       | (with_reducible refine x_q (h := ?_))
       | fail)
      all_goals try clear fx
      refine ⟨8 - (x + 1), by omega, x + 1, rfl, by omega, by simp [h5], ?_, by simp [h6], ⟨by simp [hc1], fun j k hj hk => by simp [hc2 j k hj hk]⟩, by simp; exact wrp (by omega) (by omega)⟩
      rw [he]
      simp [bset_same hx8 hno]
  · have hge : x = 8 := by
      have : ¬ (x : Int) < 8 := by simpa using hf
      omega
    subst hge
    all_goals have fx := And.intro h5 <| hp5
    repeat' (first
     | refine w_seq ?_ | refine w_reg fun K hK => ?_
     | ((with_reducible refine s_end hK ?_); clear hK K)
     | (with_reducible first | refine then_normal ?_)
     | refine w_exit ?_
     | refine w_ret ?_
     | (with_reducible refine s_none ?_)
     | (with_reducible first | refine x_assign (h := ?_))
     | ((with_reducible refine o_id 62 rfl ?_); refine x_callh (hF := list_fn _ (sortedTo k.us 8)) (h := ?_))
     | (with_reducible refine x_q (h := ?_))
     | fail)
    all_goals try clear fx
    rw [hus]
    exact e_list (t := 4) (by first | (simp []; done) | (simp []; rfl)) (by first | (simp []; done) | (simp []; rfl)) (by simp)
end Go.Proofs.YtmpbjmihjelhgaaDoor
end
