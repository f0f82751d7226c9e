/-
  Own texts, joined by mkclaim.py: Ta, Tb, Kc, We, Qb, Qc.
-/
import Derived.Test.YtcbkblboonkfhaaGreatX23
import Derived.Test.YtcbkblboonkfhaaGreatX11
import Derived.Test.YtcbkblboonkfhaaGreatX12
import Derived.Test.YtcbkblboonkfhaaGreatX24
import Derived.Test.YtcbkblboonkfhaaGreatX15
set_option linter.unusedSimpArgs false
set_option linter.unusedVariables false
set_option maxRecDepth 100000
set_option maxHeartbeats 4000000

section
namespace Go.Proofs.YtcbkblboonkfhaaGreat
open Go Go.Hm Go.Proofs
abbrev qsTa0 : Sch := .q 0 <| .q 1 <| .q 2 <| .q 3 <| .q 4 <| .q 5 <| .q 6 <| .q 7 <| .q 8 <| .done
theorem equalInts_fn (gl) (xs ys : List Int) (hx : xs.length ≤ 1048576) (hy : ys.length ≤ 1048576) : FnOk Tryz.prog gl 69 [isl xs, isl ys] (fun _ z _ => z = bv (decide (xs = ys))) := by
  refine FnOk.of_sem Tryz.func69 rfl (by kernel_rfl) (rs := [.tmp 4]) rfl Tryz.ntmps69 (Nat.le_of_ble_eq_true rfl) fun C w g root => ?_
  by_cases hl : xs.length = ys.length
  case neg =>
    have h1 : ((xs.length : Int) == ys.length) = false := by simp; omega
    have fx := And.intro h1 <| @bne_def
    refine k_run ?_
    repeat ((first | refine wSc (id := 6) qsTa0 mixed ?_); refine k_rund ?_; refine k_run ?_)
    clear fx
    refine e_ret [] .nil (by simp; rfl) ?_
    have : ¬ xs = ys := fun e => hl (by rw [e])
    simp [this]
  have fx := And.intro hl <| @bne_def
  refine k_run ?_
  repeat ((first | refine wSc (id := 6) qsTa0 mixed ?_); refine k_rund ?_; refine k_run ?_)
  clear fx
  refine w_loop (fun n st => ∃ i : Nat, n = xs.length - i ∧ i ≤ xs.length ∧ st.tm 0 = isl xs ∧ st.tm 1 = isl ys ∧ st.tm 5 = iv i ∧ xs.take i = ys.take i) xs.length ?_ ?_
  · exact ⟨0, by simp⟩
  rintro n st - - ⟨i, rfl, hi, h0, h1, h5, heq⟩
  have fx := And.intro h0 <| h5
  refine k_run ?_
  repeat ((first | refine wSc (id := 6) qsTa0 mixed ?_); refine k_rund ?_; refine k_run ?_)
  clear fx
  refine w_if (by simp []; first | done | rfl | exact (Bool.not_not _).symm) (fun ht => ?_) (fun hf => ?_)
  · have hlt : i < xs.length := by simpa using ht
    obtain ⟨x, hxi⟩ : ∃ x, xs[i]? = some x := ⟨_, gE (by omega)⟩
    obtain ⟨y, hyi⟩ : ∃ y, ys[i]? = some y := ⟨_, gE (by omega)⟩
    clear ht
    all_goals have fx := And.intro h0 <| And.intro h1 <| And.intro h5 <| And.intro hxi <| And.intro hyi <| @bne_def
    repeat' (first
     | refine w_seq ?_ | refine w_block ?_ | refine w_skip ?_ | refine w_reg fun K hK => ?_
     | ((with_reducible refine s_end hK ?_); clear hK K)
     | (with_reducible first | refine then_normal ?_ | refine in_normal ?_ | refine then_exit ?_ | refine in_exit ?_ | refine then_ret ?_ | refine in_ret ?_ | refine s_nil ?_ | refine in_other (by decide) ?_)
     | refine w_exit ?_
     | refine w_ret ?_
     | (with_reducible first | refine s_none ?_ | refine x_assign (h := ?_))
     | (with_reducible refine x_q (h := ?_))
     | refine x_condt (h1 := ?_) | refine x_condf (h1 := ?_)
     | (refine wSc (id := 6) qsTa0 mixed fun K hK => ?_)
     | ((with_reducible refine a_end hK ?_); clear hK K)
     | ((with_reducible refine a_id ?_); first | refine xa_q (h := ?_) | refine xa_qt (h := ?_) | refine xa_qf (h := ?_) | refine xa_qu (h := ?_))
     | ((with_reducible refine a_id ?_); refine xa_gq (h1 := fun ht => ?_) (h2 := fun ht => ?_))
     | refine a_l rfl ?_ | refine a_l2 ?_ ?_ | (with_reducible refine And.intro ?_ ?_) | exact st_nil | refine xa_st (h2 := ?_)
     | refine x_if (h1 := fun ht => ?_) (h2 := fun ht => ?_)
     | fail)
    all_goals try clear fx
    all_goals first
      | (refine e_ret [] .nil (by simp; rfl) ?_
         have hne : ¬ xs = ys := fun e => by rw [e, hyi] at hxi; obtain rfl := Option.some.inj hxi; simp at ht
         simp [hne])
      | (have hxy : x = y := by simpa using ht
         refine ⟨xs.length - (i + 1), by omega, i + 1, rfl, by omega, by simp [h0], by simp [h1], by simp; exact wrp (by omega) (by omega), ?_⟩
         rw [List.take_add_one, List.take_add_one, heq, hxi, hyi, hxy])
  · have hge : i = xs.length := by
      have : ¬ i < xs.length := by simpa using hf
      omega
    have : xs = ys := by rw [hge, List.take_length, hl, List.take_length] at heq; exact heq
    have fx := fx0
    refine k_run ?_
    repeat ((first | refine wSc (id := 6) qsTa0 mixed ?_); refine k_rund ?_; refine k_run ?_)
    clear fx
    refine e_ret [] .nil (by simp []; rfl) (by simp [this])
theorem isIn_fn (gl) (xs : List Int) (x : Int) (hx : xs.length ≤ 1048576) : FnOk Tryz.prog gl 33 [isl xs, iv x] (fun _ z _ => z = bv (decide (x ∈ xs))) := by
  refine FnOk.of_sem Tryz.func33 rfl (by kernel_rfl) (rs := [.tmp 4]) rfl Tryz.ntmps33 (Nat.le_of_ble_eq_true rfl) fun C w g root => ?_
  have fx := fx0
  refine k_run ?_
  clear fx
  refine w_loop (fun n st => ∃ i : Nat, n = xs.length - i ∧ i ≤ xs.length ∧ st.tm 0 = isl xs ∧ st.tm 1 = iv x ∧ st.tm 5 = iv i ∧ x ∉ xs.take i) xs.length ?_ ?_
  · exact ⟨0, by simp⟩
  rintro n st - - ⟨i, rfl, hi, h0, h1, h5, hno⟩
  have fx := And.intro h0 <| h5
  refine k_run ?_
  clear fx
  refine w_if (by simp []; first | done | rfl | exact (Bool.not_not _).symm) (fun ht => ?_) (fun hf => ?_)
  · have hlt : i < xs.length := by simpa using ht
    obtain ⟨u, hu⟩ : ∃ u, xs[i]? = some u := ⟨_, gE hlt⟩
    obtain ⟨_, huE⟩ := gS hu
    clear ht
    cases hux : (u == x)
    · have hne : ¬ u = x := by simpa using hux
      have fx := And.intro h0 <| And.intro h1 <| And.intro h5 <| And.intro hu <| And.intro huE <| And.intro hlt <| hux
      refine k_run ?_
      clear fx
      refine ⟨xs.length - (i + 1), by omega, i + 1, rfl, by omega, by simp [h0], by simp [h1], by simp; exact wrp (by omega) (by omega), ?_⟩
      rw [List.take_add_one, hu]
      simp only [Option.toList_some, List.mem_append, List.mem_singleton, not_or]
      exact ⟨hno, fun e => hne e.symm⟩
    · have he : u = x := by simpa using hux
      have hm : x ∈ xs := he ▸ List.mem_of_getElem? hu
      have fx := And.intro h0 <| And.intro h1 <| And.intro h5 <| And.intro hu <| And.intro huE <| And.intro hlt <| hux
      refine k_run ?_
      clear fx
      refine e_ret [] .nil (by simp; rfl) ?_
      simp [hm]
  · have hge : i = xs.length := by
      have : ¬ i < xs.length := by simpa using hf
      omega
    rw [hge, List.take_length] at hno
    have fx := fx0
    refine k_run ?_
    clear fx
    refine e_ret [] .nil (by simp; rfl) ?_
    simp [hno]
theorem sortedTo_congr {l l' : List Int} (h : ∀ x : Int, 0 ≤ x → x ≤ 7 → (x ∈ l ↔ x ∈ l')) : ∀ n : Nat, n ≤ 8 → sortedTo l n = sortedTo l' n
  | 0, _ => rfl
  | n + 1, hn => by
    simp only [sortedTo]
    rw [sortedTo_congr h n (by omega)]
    have := h n (by omega) (by omega)
    by_cases e : (n : Int) ∈ l
    · rw [if_pos e, if_pos (this.1 e)]
    · rw [if_neg e, if_neg (fun e' => e (this.2 e'))]
theorem sorted_congr {l l' : List Int} (h : ∀ x : Int, 0 ≤ x → x ≤ 7 → (x ∈ l ↔ x ∈ l')) : sorted l = sorted l' := sortedTo_congr h 8 (Nat.le_refl _)
theorem list_fn (gl) (l : List Int) : FnOk Tryz.prog gl 84 [.agg (bset l)] (fun r z H' => z = .hs r 1 0 (sorted l).length ∧ H' r = some (.row 1 (irows (sorted l)))) := by
  refine FnOk.of_sem Tryz.func84 rfl (by kernel_rfl) (rs := [.tmp 2]) rfl Tryz.ntmps84 (Nat.le_of_ble_eq_true rfl) fun C w g root => ?_
  have fx := fx0
  refine k_run ?_
  clear fx
  refine w_loop (fun n st => ∃ x : Nat, n = 8 - x ∧ x ≤ 8 ∧ st.tm 6 = .agg (bset l) ∧ st.tm 7 = iv x ∧ st.tm 3 = .hs (.s 3) 1 0 (sortedTo l x).length ∧ st.hp (.s 3) = some (.row 1 (irows (sortedTo l x))) ∧ (sortedTo l x).length ≤ x) 8 ?_ ?_
  · exact ⟨0, by omega, by omega, by simp, by simp, by simp [sortedTo], by simp [sortedTo], by simp [sortedTo]⟩
  rintro n st - - ⟨x, rfl, hx, h6, h7, h3, hp3, hle⟩
  have fx :=  h7
  refine k_run ?_
  clear fx
  refine w_if (by simp []; first | done | rfl | exact (Bool.not_not _).symm) (fun ht => ?_) (fun hf => ?_)
  · have hx8' : (x : Int) < 8 := by simpa using ht
    have hx8 : x < 8 := by omega
    have hbg := bset_get (l := l) hx8
    obtain ⟨hbl, hbE⟩ := gS hbg
    clear ht
    by_cases hm : (x : Int) ∈ l
    · have he : sortedTo l (x + 1) = sortedTo l x ++ [(x : Int)] := by simp [sortedTo, hm]
      generalize hL : sortedTo l x = L at h3 hp3 he hle
      have fx := And.intro h6 <| And.intro h7 <| And.intro hbg <| And.intro hbE <| And.intro hx8 <| And.intro hx8' <| And.intro hm <| And.intro h3 <| hp3
      refine k_run ?_
      clear fx
      refine ⟨8 - (x + 1), by omega, x + 1, rfl, by omega, by simp [h6], by simp; exact wrp (by omega) (by omega), by simp [he], ?_, by simp [he]; omega⟩
      rw [he]
      simp [hp3, irows]
    · have he : sortedTo l (x + 1) = sortedTo l x := by simp [sortedTo, hm]
      have fx := And.intro h6 <| And.intro h7 <| And.intro hbg <| And.intro hbE <| And.intro hx8 <| And.intro hx8' <| hm
      refine k_run ?_
      clear fx
      exact ⟨8 - (x + 1), by omega, x + 1, rfl, by omega, by simp [h6], by simp; exact wrp (by omega) (by omega), by simp [he, h3], by simp [he, hp3], by rw [he]; omega⟩
  · have hge : x = 8 := by
      have : ¬ (x : Int) < 8 := by simpa using hf
      omega
    subst hge
    have fx := And.intro h3 <| hp3
    refine k_run ?_
    clear fx
    exact e_list (t := 2) (by first | (simp [hp3]; done) | (simp [hp3]; rfl)) (by first | (simp [hp3]; done) | (simp [hp3]; rfl)) (by simp)
end Go.Proofs.YtcbkblboonkfhaaGreat
end
section
namespace Go.Proofs.YtcbkblboonkfhaaGreat
open Go Go.Hm Go.Proofs
theorem picked_none {f : Nat → Bool} : ∀ {n : Nat}, (∀ x, x < n → f x = false) → picked f n = []
  | 0, _ => rfl
  | n + 1, h => by
    rw [picked, if_neg (by rw [h n (by omega)]; decide), picked_none (n := n) fun x hx => h x (by omega)]
theorem picked_succ {f : Nat → Bool} {n : Nat} : picked f (n + 1) = if f n = true then picked f n ++ [(n : Int)] else picked f n := rfl
theorem placeOf_fn (gl) (xs : List Int) (x : Int) (hlen : xs.length ≤ 1048576) : FnOk Tryz.prog gl 145 [isl xs, iv x] (fun _ z _ => z = iv (placeIn xs x)) := by
  refine FnOk.of_sem Tryz.func145 rfl (by kernel_rfl) (rs := [.tmp 4]) rfl Tryz.ntmps145 (Nat.le_of_ble_eq_true rfl) fun C w g root => ?_
  all_goals have fx := fx0
  repeat' (first
   | refine w_seq ?_ | refine w_block ?_ | refine w_reg fun K hK => ?_
   | ((with_reducible refine s_end hK ?_); clear hK K)
   | (with_reducible first | refine s_none ?_ | refine x_assign (h := ?_))
   | (with_reducible refine x_q (h := ?_))
   | fail)
  all_goals try clear fx
  refine w_loop (fun n st => ∃ i : Nat, n = xs.length - i ∧ i ≤ xs.length ∧ st.tm 7 = isl xs ∧ st.tm 8 = iv xs.length ∧ st.tm 1 = iv x ∧ st.tm 9 = iv i ∧ ∀ j < i, xs[j]? ≠ some x) xs.length ⟨0, by simp⟩ ?_
  rintro n st - - ⟨i, rfl, hi, h7, h8, h1, h9, hno⟩
  by_cases hlt : i < xs.length
  · obtain ⟨y, hy⟩ : ∃ y, xs[i]? = some y := ⟨xs[i], gE hlt⟩
    obtain ⟨_, hyE⟩ := gS hy
    cases hyx : (y == x)
    rotate_left
    · skip
      all_goals have fx := And.intro h7 <| And.intro h8 <| And.intro h1 <| And.intro h9 <| And.intro hy <| And.intro hyE <| And.intro hlt <| hyx
      repeat' (first
       | refine w_seq ?_ | refine w_block ?_ | refine w_skip ?_ | refine w_reg fun K hK => ?_
       | ((with_reducible refine s_end hK ?_); clear hK K)
       | (with_reducible first | refine then_normal ?_ | refine then_ret ?_ | refine in_ret ?_)
       | refine w_ret ?_
       | (with_reducible first | refine s_none ?_ | refine x_assign (h := ?_))
       | (with_reducible refine x_q (h := ?_))
       | refine x_condt (h1 := ?_)
       | fail)
      all_goals try clear fx
      refine e_ret [] .nil (by simp; rfl) ?_
      have hyx : y = x := by simpa using hyx
      subst hyx
      have : xs.findIdx? (· == y) = some i := by
        rw [List.findIdx?_eq_some_iff_getElem]
        refine ⟨hlt, by simp [hyE], fun j hj => ?_⟩
        have := hno j hj
        rw [gE (by omega)] at this
        simpa using this
      simp [placeIn, this]
    · skip
      all_goals have fx := And.intro h7 <| And.intro h8 <| And.intro h1 <| And.intro h9 <| And.intro hy <| And.intro hyE <| And.intro hlt <| hyx
      repeat' (first
       | refine w_seq ?_ | refine w_block ?_ | refine w_skip ?_ | refine w_reg fun K hK => ?_
       | ((with_reducible refine s_end hK ?_); clear hK K)
       | (with_reducible first | refine then_normal ?_)
       | (with_reducible first | refine s_none ?_ | refine x_assign (h := ?_))
       | (with_reducible refine x_q (h := ?_))
       | refine x_condt (h1 := ?_) | refine x_condf (h1 := ?_)
       | fail)
      all_goals try clear fx
      refine ⟨xs.length - (i + 1), by omega, i + 1, rfl, by omega, by simp [h7], by simp [h8], by simp [h1], by simp; exact wrp (by omega) (by omega), fun j hj => ?_⟩
      rcases Nat.lt_succ_iff_lt_or_eq.1 hj with h | rfl
      · exact hno j h
      · rw [hy]; simpa using hyx
  · skip
    all_goals have fx := And.intro h7 <| And.intro h8 <| And.intro h1 <| And.intro h9 <| hlt
    repeat' (first
     | refine w_seq ?_ | refine w_reg fun K hK => ?_
     | ((with_reducible refine s_end hK ?_); clear hK K)
     | (with_reducible first | refine then_normal ?_)
     | refine w_exit ?_
     | refine w_ret ?_
     | (with_reducible first | refine s_none ?_ | refine x_assign (h := ?_))
     | (with_reducible refine x_q (h := ?_))
     | refine x_condf (h1 := ?_)
     | fail)
    all_goals try clear fx
    refine e_ret [] .nil (by simp; rfl) ?_
    have : xs.findIdx? (· == x) = none := by
      rw [List.findIdx?_eq_none_iff]
      intro y hy
      obtain ⟨j, hj, rfl⟩ := List.getElem_of_mem hy
      have := hno j (by omega)
      rw [gE hj] at this
      simpa using this
    simp [placeIn, this]
theorem freesOf_fn (gl) (p : Prg) (hp : ShapeP p) (b : Nat) (hbl : b < p.length) : FnOk Tryz.prog gl 144 [scsl p, iv b] (fun r y H' => y = .hs r 1 0 (freesL p b).length ∧ H' r = some (.row 1 (irows (freesL p b)))) := by
  have hh := hp.heads
  have hl7 := hp.len
  rw [← frees_eq hh hbl]
  refine FnOk.of_sem Tryz.func144 rfl (by kernel_rfl) (rs := [.tmp 4]) rfl Tryz.ntmps144 (Nat.le_of_ble_eq_true rfl) fun C w g root => ?_
  all_goals have fx := fx0
  repeat' (first
   | refine w_seq ?_ | refine w_block ?_ | refine w_reg fun K hK => ?_
   | ((with_reducible refine s_end hK ?_); clear hK K)
   | (with_reducible refine s_none ?_)
   | (with_reducible first | refine x_assign (h := ?_) | refine x_alloc (h := ?_))
   | (with_reducible refine x_q (h := ?_))
   | fail)
  all_goals try clear fx
  refine w_loop (fun n st => ∃ c : Nat, n = p.length - c ∧ c ≤ p.length ∧ st.tm 0 = scsl p ∧ st.tm 1 = iv b ∧ st.tm 5 = .pt (.s 5) 0 ∧ st.hp (.s 5) = some (.row 8 [bset (freesI p b c)]) ∧ st.tm 10 = scsl p ∧ st.tm 11 = iv p.length ∧ st.tm 12 = iv c) p.length ?_ ?_
  · exact ⟨0, by omega, by omega, by simp, by simp, by simp, by simp; rfl, by simp, by simp, by simp⟩
  rintro n st - - ⟨c, rfl, hc2, h0, h1, h5, hp5, h10, h11, h12⟩
  by_cases hlt : c < p.length
  · obtain ⟨q, hq⟩ : ∃ q, p[c]? = some q := ⟨_, gE hlt⟩
    have hsg := scRows_get (p := p) hlt
    rw [scopeA_eq hh hq] at hsg
    obtain ⟨_, hse⟩ := gS hsg
    have hnext : freesI p b (c + 1) = freesI p b c ++ picked (freeI p b c) 8 := rfl
    generalize hR : freesI p b c = R at hp5 hnext
    cases hin : inside p c b
    · rw [picked_none (fun x _ => by simp only [freeI, hq, hin]; simp), List.append_nil] at hnext
      all_goals have fx := And.intro h0 <| And.intro h1 <| And.intro h5 <| And.intro hp5 <| And.intro h10 <| And.intro h11 <| And.intro h12 <| And.intro hlt <| And.intro hsg <| And.intro hse <| hin
      repeat' (first
       | refine w_seq ?_ | refine w_block ?_ | refine w_skip ?_ | refine w_reg fun K hK => ?_
       | ((with_reducible refine s_end hK ?_); clear hK K)
       | (with_reducible first | refine then_normal ?_)
       | refine w_exit ?_
       | (with_reducible refine s_none ?_)
       | (with_reducible first | refine x_assign (h := ?_))
       | ((with_reducible refine o_id 171 rfl ?_); refine x_call (hF := isWithin_fn _ p hh c q hq b) (h := ?_))
       | (with_reducible refine x_q (h := ?_))
       | refine x_condt (h1 := ?_)
       | fail)
      all_goals try clear fx
      exact ⟨p.length - (c + 1), by omega, c + 1, rfl, by omega, by simp [h0], by simp [h1], by simp [h5], by simp [hp5, hnext], by simp [h10], by simp [h11], by simp; exact wrp (by omega) (by omega)⟩
    all_goals have fx := And.intro h0 <| And.intro h1 <| And.intro h5 <| And.intro hp5 <| And.intro h10 <| And.intro h11 <| And.intro h12 <| And.intro hlt <| And.intro hsg <| And.intro hse <| hin
    repeat' (first
     | refine w_seq ?_ | refine w_block ?_ | refine w_skip ?_ | refine w_reg fun K hK => ?_
     | ((with_reducible refine s_end hK ?_); clear hK K)
     | (with_reducible first | refine then_normal ?_)
     | (with_reducible refine s_none ?_)
     | (with_reducible first | refine x_assign (h := ?_))
     | ((with_reducible refine o_id 171 rfl ?_); refine x_call (hF := isWithin_fn _ p hh c q hq b) (h := ?_))
     | (with_reducible refine x_q (h := ?_))
     | refine x_condt (h1 := ?_) | refine x_condf (h1 := ?_)
     | fail)
    all_goals try clear fx
    refine w_loop (fun n st => ∃ x : Nat, n = 8 - x ∧ x ≤ 8 ∧ st.tm 0 = scsl p ∧ st.tm 1 = iv b ∧ st.tm 5 = .pt (.s 5) 0 ∧ st.hp (.s 5) = some (.row 8 [bset (R ++ picked (freeI p b c) x)]) ∧ st.tm 7 = scEl p c q ∧ st.tm 10 = scsl p ∧ st.tm 11 = iv p.length ∧ st.tm 12 = iv c ∧ st.tm 20 = iv x) 8 ?_ ?_
    · exact ⟨0, by omega, by omega, by simp [h0], by simp [h1], by simp [h5], by simp [hp5, picked], by simp, by simp [h10], by simp [h11], by simp [h12], by simp⟩
    clear h0 h1 h5 hp5 h10 h11 h12 hsg hse
    rintro n st - - ⟨x, rfl, hx, h0, h1, h5, hp5, h7, h10, h11, h12, h20⟩
    by_cases hx8 : x < 8
    · have hx8' : (x : Int) < 8 := by omega
      have hfi : freeI p b c x = (decide ((x : Int) ∈ q.us) && (owner p c x != -1) && !inside p (owner p c x) b) := by simp only [freeI, hq, hin, Bool.true_and]
      have hn2 := picked_succ (f := freeI p b c) (n := x)
      cases hus : decide ((x : Int) ∈ q.us)
      · rw [if_neg (by rw [hfi, hus]; simp)] at hn2
        all_goals have fx := And.intro h1 <| And.intro h5 <| And.intro hp5 <| And.intro h7 <| And.intro h20 <| And.intro hx8 <| And.intro hx8' <| hus
        repeat' (first
         | refine w_seq ?_ | refine w_block ?_ | refine w_skip ?_ | refine w_reg fun K hK => ?_
         | ((with_reducible refine s_end hK ?_); clear hK K)
         | (with_reducible first | refine then_normal ?_)
         | refine w_exit ?_
         | (with_reducible refine s_none ?_)
         | (with_reducible first | refine x_assign (h := ?_))
         | ((with_reducible refine o_id 172 rfl ?_); refine x_call (hF := uses_fn' _ p c q x hx8) (h := ?_))
         | (with_reducible refine x_q (h := ?_))
         | refine x_condt (h1 := ?_)
         | fail)
        all_goals try clear fx
        exact ⟨8 - (x + 1), by omega, x + 1, rfl, by omega, by simp [h0], by simp [h1], by simp [h5], by simp [hp5, hn2], by simp [h7], by simp [h10], by simp [h11], by simp [h12], by simp; exact wrp (by omega) (by omega)⟩
      cases hno : (owner p c x == -1)
      rotate_left
      · rw [if_neg (by rw [hfi, bne, hno]; simp)] at hn2
        all_goals have fx := And.intro h1 <| And.intro h5 <| And.intro hp5 <| And.intro h7 <| And.intro h20 <| And.intro hx8 <| And.intro hx8' <| And.intro hus <| And.intro hno <| @bne_def
        repeat' (first
         | refine w_seq ?_ | refine w_block ?_ | refine w_skip ?_ | refine w_reg fun K hK => ?_
         | ((with_reducible refine s_end hK ?_); clear hK K)
         | (with_reducible first | refine then_normal ?_)
         | (with_reducible refine s_none ?_)
         | ((with_reducible refine g_id ?_); refine x_guard (h := ?_))
         | (with_reducible first | refine x_tf (h := ?_) | refine x_assign (h := ?_))
         | ((with_reducible refine o_id 172 rfl ?_); refine x_call (hF := uses_fn' _ p c q x hx8) (h := ?_))
         | ((with_reducible refine o_id 86 rfl ?_); refine x_call (hF := scope_owner_fn _ p hp c q hq x hx8) (h := ?_))
         | (with_reducible refine x_q (h := ?_))
         | refine x_condt (h1 := ?_) | refine x_condf (h1 := ?_)
         | fail)
        all_goals try clear fx
        exact ⟨8 - (x + 1), by omega, x + 1, rfl, by omega, by simp [h0], by simp [h1], by simp [h5], by simp [hp5, hn2], by simp [h7], by simp [h10], by simp [h11], by simp [h12], by simp; exact wrp (by omega) (by omega)⟩
      have hno' : ¬ owner p c x = -1 := by simpa using hno
      obtain ⟨o, hO⟩ : ∃ o : Nat, owner p c x = o := ⟨(owner p c x).toNat, by rcases owner_pos (p := p) (c := c) (x := (x : Int)) with h | h <;> omega⟩
      have hol : o < p.length := by
        have h1 := owner_pos (p := p) (c := c) (x := (x : Int))
        have h2 := inside_ge (inside_of_owner hh (by omega) hq hO)
        omega
      obtain ⟨qo, hqo⟩ : ∃ q, p[o]? = some q := ⟨_, gE hol⟩
      have hsg := scRows_get (p := p) hol
      rw [scopeA_eq hh hqo] at hsg
      obtain ⟨_, hse⟩ := gS hsg
      rw [hO] at hno hfi
      cases hio : inside p o b
      rotate_left
      · rw [if_neg (by rw [hfi, hio]; simp)] at hn2
        all_goals have fx := And.intro h0 <| And.intro h1 <| And.intro h5 <| And.intro hp5 <| And.intro h7 <| And.intro h20 <| And.intro hx8 <| And.intro hx8' <| And.intro hus <| And.intro hO <| And.intro hno <| And.intro hol <| And.intro hsg <| And.intro hse <| And.intro hio <| @bne_def
        repeat' (first
         | refine w_seq ?_ | refine w_block ?_ | refine w_skip ?_ | refine w_reg fun K hK => ?_
         | ((with_reducible refine s_end hK ?_); clear hK K)
         | (with_reducible first | refine then_normal ?_)
         | (with_reducible refine s_none ?_)
         | ((with_reducible refine g_id ?_); refine x_guard (h := ?_))
         | (with_reducible first | refine gx_tt ?_ | refine x_assign (h := ?_))
         | ((with_reducible refine o_id 172 rfl ?_); refine x_call (hF := uses_fn' _ p c q x hx8) (h := ?_))
         | ((with_reducible refine o_id 86 rfl ?_); refine x_call (hF := scope_owner_fn _ p hp c q hq x hx8) (h := ?_))
         | ((with_reducible refine o_id 171 rfl ?_); refine x_call (hF := isWithin_fn _ p hh o qo hqo b) (h := ?_))
         | (with_reducible refine x_q (h := ?_))
         | refine x_condt (h1 := ?_) | refine x_condf (h1 := ?_)
         | fail)
        all_goals try clear fx
        exact ⟨8 - (x + 1), by omega, x + 1, rfl, by omega, by simp [h0], by simp [h1], by simp [h5], by simp [hp5, hn2], by simp [h7], by simp [h10], by simp [h11], by simp [h12], by simp; exact wrp (by omega) (by omega)⟩
      · rw [if_pos (by rw [hfi, hus, bne, hno, hio]; rfl)] at hn2
        have hnM : R ++ picked (freeI p b c) (x + 1) = R ++ picked (freeI p b c) x ++ [(x : Int)] := by rw [hn2, List.append_assoc]
        generalize R ++ picked (freeI p b c) x = M at hp5 hnM
        all_goals have fx := And.intro h0 <| And.intro h1 <| And.intro h5 <| And.intro hp5 <| And.intro h7 <| And.intro h20 <| And.intro hx8 <| And.intro hx8' <| And.intro hus <| And.intro hO <| And.intro hno <| And.intro hol <| And.intro hsg <| And.intro hse <| And.intro hio <| @bne_def
        repeat' (first
         | refine w_seq ?_ | refine w_block ?_ | refine w_skip ?_ | refine w_reg fun K hK => ?_
         | ((with_reducible refine s_end hK ?_); clear hK K)
         | (with_reducible first | refine then_normal ?_)
         | (with_reducible refine s_none ?_)
         | ((with_reducible refine g_id ?_); refine x_guard (h := ?_))
         | (with_reducible first | refine gx_tt ?_ | refine x_assign (h := ?_) | refine x_store0 (h := ?_))
         | ((with_reducible refine o_id 172 rfl ?_); refine x_call (hF := uses_fn' _ p c q x hx8) (h := ?_))
         | ((with_reducible refine o_id 86 rfl ?_); refine x_call (hF := scope_owner_fn _ p hp c q hq x hx8) (h := ?_))
         | ((with_reducible refine o_id 171 rfl ?_); refine x_call (hF := isWithin_fn _ p hh o qo hqo b) (h := ?_))
         | (with_reducible refine x_q (h := ?_))
         | refine x_condt (h1 := ?_) | refine x_condf (h1 := ?_)
         | fail)
        all_goals try clear fx
        refine ⟨8 - (x + 1), by omega, x + 1, rfl, by omega, by simp [h0], by simp [h1], by simp [h5], ?_, by simp [h7], by simp [h10], by simp [h11], by simp [h12], by simp; exact wrp (by omega) (by omega)⟩
        rw [hnM]
        simp [← bset_add (l := M) (y := (x : Int)) rfl hx8]
    · have hge : x = 8 := by omega
      subst hge
      rw [← hnext] at hp5
      all_goals have fx := And.intro h1 <| And.intro h5 <| And.intro hp5 <| And.intro h10 <| And.intro h11 <| And.intro h12 <| h20
      repeat' (first
       | refine w_seq ?_ | refine w_reg fun K hK => ?_
       | ((with_reducible refine s_end hK ?_); clear hK K)
       | (with_reducible first | refine then_normal ?_)
       | refine w_exit ?_
       | (with_reducible refine s_none ?_)
       | (with_reducible refine x_q (h := ?_))
       | refine x_condf (h1 := ?_)
       | fail)
      all_goals try clear fx
      exact ⟨p.length - (c + 1), by omega, c + 1, rfl, by omega, by simp [h0], by simp [h1], by simp [h5], by simp [hp5], by simp [h10], by simp [h11], by simp [h12]; exact wrp (by omega) (by omega)⟩
  · have hge : c = p.length := by omega
    subst hge
    all_goals have fx := And.intro h5 <| And.intro hp5 <| And.intro h11 <| h12
    repeat' (first
     | refine w_seq ?_ | refine w_reg fun K hK => ?_
     | ((with_reducible refine s_end hK ?_); clear hK K)
     | (with_reducible first | refine then_normal ?_)
     | refine w_exit ?_
     | refine w_ret ?_
     | (with_reducible refine s_none ?_)
     | (with_reducible first | refine x_assign (h := ?_))
     | ((with_reducible refine o_id 84 rfl ?_); refine x_callh (hF := list_fn _ (freesI p b p.length)) (h := ?_))
     | (with_reducible refine x_q (h := ?_))
     | refine x_condf (h1 := ?_)
     | fail)
    all_goals try clear fx
    exact e_list (t := 4) (by first | (simp []; done) | (simp []; rfl)) (by first | (simp []; done) | (simp []; rfl)) (by simp)
theorem seenIn_fn (gl) (p : Prg) (hp : ShapeP p) (b : Nat) (k : Blk) (hk : p[b]? = some k) : FnOk Tryz.prog gl 98 [scsl p, iv b] (fun r y H' => y = .hs r 1 0 (seenL p b).length ∧ H' r = some (.row 1 (irows (seenL p b)))) := by
  have hh := hp.heads
  obtain ⟨hbl, hbE⟩ := gS hk
  have hb0 : k.kind = 1 → 0 < b := by
    intro hk1
    rcases Nat.eq_zero_or_pos b with e | e
    · rw [e] at hk
      have := (hp.kind0 hk).2 rfl
      omega
    · exact e
  have hsg := scRows_get (p := p) hbl
  rw [scopeA_eq hh hk] at hsg
  obtain ⟨_, hse⟩ := gS hsg
  have hfl := freesL_len (p := p) (b := b)
  rw [← seenI_sorted hh hk hb0]
  refine FnOk.of_sem Tryz.func98 rfl (by kernel_rfl) (rs := [.tmp 4]) rfl Tryz.ntmps98 (Nat.le_of_ble_eq_true rfl) fun C w g root => ?_
  have fx := fx0
  have d1 := freesOf_fn gl p hp b hbl
  refine k_run ?_
  clear fx d1
  refine w_loop (fun n st => ∃ x : Nat, n = 8 - x ∧ x ≤ 8 ∧ st.tm 0 = scsl p ∧ st.tm 1 = iv b ∧ st.tm 5 = .pt (.s 5) 0 ∧ st.hp (.s 5) = some (.row 8 [bset (picked (seenI p b) x)]) ∧ st.tm 6 = .hs (.s 6) 1 0 (freesL p b).length ∧ st.hp (.s 6) = some (.row 1 (irows (freesL p b))) ∧ st.tm 11 = iv x) 8 ?_ ?_
  · exact ⟨0, by omega, by omega, by simp, by simp, by simp, by simp [picked]; rfl, by simp, by simp, by simp⟩
  rintro n st - - ⟨x, rfl, hx, h0, h1, h5, hp5, h6, hp6, h11⟩
  by_cases hx8 : x < 8
  · have hx8' : (x : Int) < 8 := by omega
    have hput := bset_put (f := seenI p b) hx8
    have hsx : seenI p b x = (k.kind != 1 || isLocal b k x || placeIn (freesL p b) x != -1) := by simp [seenI, hk]
    rw [hsx] at hput
    have hlf := scope_isLocal_fn gl b k (scopeA p k.parent) k.params x hx8
    cases hk1 : (k.kind == 1)
    · have hb1 : (k.kind != 1) = true := by simp [bne, hk1]
      rw [hb1] at hput
      simp only [Bool.true_or] at hput
      have fx := And.intro h0 <| And.intro h1 <| And.intro h5 <| And.intro hp5 <| And.intro h6 <| And.intro hp6 <| And.intro h11 <| And.intro hx8 <| And.intro hx8' <| And.intro hsg <| And.intro hse <| And.intro hbl <| And.intro hb1 <| hk1
      refine k_run ?_
      clear fx
      exact ⟨8 - (x + 1), by omega, x + 1, rfl, by omega, by simp [h0], by simp [h1], by simp [h5], by simp [hput], by simp [h6], by simp [hp6], by simp; exact wrp (by omega) (by omega)⟩
    · have hb1 : (k.kind != 1) = false := by simp [bne, hk1]
      have hkk : k.kind = 1 := by simpa using hk1
      have hle : (k.kind != 0 && decide ((x : Int) ∈ k.bd) && !(decide ((x : Int) ∈ k.dc 9) || decide ((x : Int) ∈ k.dc 10))) = isLocal b k x := by
        simp [isLocal, hkk, hb0 hkk, Bool.and_assoc]
      rw [hle] at hlf
      rw [hb1] at hput
      simp only [Bool.false_or] at hput
      cases hl : isLocal b k x
      · rw [hl] at hlf hput
        simp only [Bool.false_or] at hput
        have fx := And.intro h0 <| And.intro h1 <| And.intro h5 <| And.intro hp5 <| And.intro h6 <| And.intro hp6 <| And.intro h11 <| And.intro hx8 <| And.intro hx8' <| And.intro hsg <| And.intro hse <| And.intro hbl <| And.intro hb1 <| hk1
        have c1 := hlf
        have c2 := placeOf_fn gl (freesL p b) x (by omega)
        refine k_run ?_
        clear fx c1 c2
        exact ⟨8 - (x + 1), by omega, x + 1, rfl, by omega, by simp [h0], by simp [h1], by simp [h5], by simp; exact hput, by simp [h6], by simp [hp6], by simp; exact wrp (by omega) (by omega)⟩
      · rw [hl] at hlf hput
        simp only [Bool.true_or] at hput
        have fx := And.intro h0 <| And.intro h1 <| And.intro h5 <| And.intro hp5 <| And.intro h6 <| And.intro hp6 <| And.intro h11 <| And.intro hx8 <| And.intro hx8' <| And.intro hsg <| And.intro hse <| And.intro hbl <| And.intro hb1 <| hk1
        have c1 := hlf
        refine k_run ?_
        clear fx c1
        exact ⟨8 - (x + 1), by omega, x + 1, rfl, by omega, by simp [h0], by simp [h1], by simp [h5], by simp [hput], by simp [h6], by simp [hp6], by simp; exact wrp (by omega) (by omega)⟩
  · have hge : x = 8 := by omega
    subst hge
    have fx := And.intro h5 <| And.intro hp5 <| h11
    have d1 := list_fn gl (picked (seenI p b) 8)
    refine k_run ?_
    clear fx d1
    exact e_list (t := 4) (by first | (simp []; done) | (simp []; rfl)) (by first | (simp []; done) | (simp []; rfl)) (by simp)
end Go.Proofs.YtcbkblboonkfhaaGreat
end
section
namespace Go.Proofs.YtcbkblboonkfhaaGreat
open Go Go.Hm Go.Proofs
theorem readM_fn (gl) (H : Nm → Option AO) (F : Nat) (p : Prg) (W : Wld) (a x : Nat) (hP : ShapeP p) (hw : WOk p W) (ha : a < W.acts.length) (hx : x < 8) (h0 : W.en = 0) (hO : OwnM H F p W) :
    FnE Tryz.prog gl 180 DM [.pt Mn 0, ptE a, iv x] H (fun _ y H' => y = .tup [Val.av (loadW p W a x).2, bv (decide ((loadW p W a x).1.en = 0))] ∧ OwnM H' F p (loadW p W a x).1) noE := by
  have hh := hP.heads
  have hx7 : 0 ≤ (x : Int) ∧ (x : Int) ≤ 7 := by omega
  obtain ⟨hnm, hil⟩ := nms_loc (x := (x : Int)) hh hw ha
  have hT := hO.top
  simp only [mRow] at hT
  obtain ⟨c, hc⟩ : ∃ c, W.acts[a]? = some c := ⟨_, gE ha⟩
  have hE := hO.env a c hc
  refine FnE.of_sem Tryz.func180 rfl (by kernel_rfl) (rs := [.cell 6 117, .tmp 7]) rfl Tryz.ntmps180 (Nat.le_of_ble_eq_true rfl) (fun _ => DM_root) fun C w g root hroot => ?_
  have fx := fx0
  refine k_run ?_
  clear fx
  intro K hK
  have fx := fx0
  refine x_callM hO (have om := hO; OwnM.re om) (Nat.le_refl _) (Nat.le_refl _) (hF := fun hs => holderOf_fn _ _ F p W a x hP hw ha hx hs) (h := ?_)
  rintro y H1 ⟨rfl, hO1⟩
  clear fx
  have hT1 := hO1.top
  simp only [mRow] at hT1
  obtain ⟨o, ho⟩ : ∃ o, owner p (W.blk a) x = o := ⟨_, rfl⟩
  obtain ⟨l, hl⟩ : ∃ l, W.loc p a x = l := ⟨_, rfl⟩
  rw [hl] at hnm hil ⊢
  rw [ho]
  obtain ⟨i, hi⟩ : ∃ i, hIdx l = i := ⟨_, rfl⟩
  rw [hi] at hnm hil ⊢
  obtain ⟨d, hd⟩ : ∃ d, W.acts[i]? = some d := ⟨_, gE hil⟩
  have hE1 := hO1.env i d hd
  simp only [envRow] at hE1
  obtain ⟨ms, hms, hmo⟩ := hO1.nms i hil
  rw [hnm] at hmo
  have hlk := hmo.get' hx7
  cases hg : W.get l x with
  | some v =>
    rw [hg] at hlk
    have hlw : loadW p W a x = (W, v) := by simp only [loadW, hl, hg]
    have fx := And.intro hT <| And.intro hE <| And.intro hT1 <| And.intro hE1 <| And.intro hms <| hlk
    refine k_run ?_
    clear fx
    rw [hlw]
    refine e_ret [] .nil (by simp; rfl) ⟨by simp [h0], OwnM.fin (have om := hO1; OwnM.re om)⟩
  | none =>
    rw [hg] at hlk
    by_cases h4 : Hm.lack p (W.blk a) o = 4
    · have h4b : (Hm.lack p (W.blk a) o == 4) = true := by simpa using h4
      obtain ⟨a0, h00, hb0⟩ := hw.a0
      have hl0 := (gS h00).1
      have hE0 := hO1.env 0 a0 h00
      simp only [envRow] at hE0
      obtain ⟨mg, hmg, hgo⟩ := hO1.nms 0 hl0
      have hgo' : MapOk mg (W.vars none) := by simpa [Wld.nms, Wld.vars] using hgo
      have hlg := hgo'.get' hx7
      cases hg2 : W.get none x with
      | some v =>
        rw [hg2] at hlg
        have hlw : loadW p W a x = (W, v) := by simp only [loadW, hl, ho, hg, h4, if_true, hg2]
        have fx := And.intro hT <| And.intro hE <| And.intro hT1 <| And.intro hE1 <| And.intro hms <| And.intro hlk <| And.intro h4b <| And.intro hE0 <| And.intro hmg <| And.intro hlg <| @bne_def
        refine k_run ?_
        clear fx
        rw [hlw]
        refine e_ret [] .nil (by simp; rfl) ⟨by simp [h0], OwnM.fin (have om := hO1; OwnM.re om)⟩
      | none =>
        rw [hg2] at hlg
        by_cases h7 : x = 7
        · subst h7
          have hlw : loadW p W a ((7 : Nat) : Int) = (W, (1, 70)) := by simp only [loadW, hl, ho, hg, h4, if_true, hg2]; simp
          have hlk7 : lk (7 : Int) ms = none := hlk
          have hlg7 : lk (7 : Int) mg = none := hlg
          have fx := And.intro hT <| And.intro hE <| And.intro hT1 <| And.intro hE1 <| And.intro hms <| And.intro hlk7 <| And.intro h4b <| And.intro hE0 <| And.intro hmg <| And.intro hlg7 <| @bne_def
          refine k_run ?_
          clear fx
          rw [hlw]
          refine e_ret [] .nil (by simp; rfl) ⟨by simp [h0], OwnM.fin (have om := hO1; OwnM.re om)⟩
        · have h7i : ¬ (x : Int) = 7 := by omega
          have h7b : ((x : Int) == 7) = false := by simpa using h7i
          have hlw : loadW p W a x = ({ W with en := 4 }, (0, 0)) := by
            simp only [loadW, hl, ho, hg, h4, if_true, hg2, h7i, if_false]
          have fx := And.intro hT <| And.intro hE <| And.intro hT1 <| And.intro hE1 <| And.intro hms <| And.intro hlk <| And.intro h4b <| And.intro hE0 <| And.intro hmg <| And.intro hlg <| And.intro h7b <| @bne_def
          refine k_run ?_
          clear fx
          intro K hK
          have fx := And.intro hT (And.intro hE hT1)
          refine x_callM hO (have om := hO1; OwnM.re om) (Nat.le_refl _) (Nat.le_refl _) (hF := fun hs => stop_fn _ _ F p W 4 hs) (h := ?_)
          rintro y H2 ⟨rfl, hO2⟩
          clear fx
          have hT2 := hO2.top
          simp only [mRow] at hT2
          have fx := And.intro hT <| And.intro hE <| And.intro hT1 <| And.intro hE1 <| hT2
          refine k_run ?_
          clear fx
          rw [hlw]
          refine e_ret [] .nil (by simp; rfl) ⟨by simp, OwnM.fin (have om := hO2; OwnM.re om)⟩
    · have h4b : (Hm.lack p (W.blk a) o == 4) = false := by simpa using h4
      have hlw : loadW p W a x = ({ W with en := Hm.lack p (W.blk a) o }, (0, 0)) := by simp only [loadW, hl, ho, hg, h4, if_false]
      have hne : ¬ Hm.lack p (W.blk a) o = 0 := lack_ne
      have fx := And.intro hT <| And.intro hE <| And.intro hT1 <| And.intro hE1 <| And.intro hms <| And.intro hlk <| And.intro h4b <| @bne_def
      refine k_run ?_
      clear fx
      intro K hK
      have fx := And.intro hT (And.intro hE hT1)
      refine x_callM hO (have om := hO1; OwnM.re om) (Nat.le_refl _) (Nat.le_refl _) (hF := fun hs => stop_fn _ _ F p W (Hm.lack p (W.blk a) o) hs) (h := ?_)
      rintro y H2 ⟨rfl, hO2⟩
      clear fx
      have hT2 := hO2.top
      simp only [mRow] at hT2
      have fx := And.intro hT <| And.intro hE <| And.intro hT1 <| And.intro hE1 <| hT2
      refine k_run ?_
      clear fx
      rw [hlw]
      refine e_ret [] .nil (by simp; rfl) ⟨by simp [hne], OwnM.fin (have om := hO2; OwnM.re om)⟩
theorem drop_fn (gl) (H : Nm → Option AO) (F : Nat) (p : Prg) (W : Wld) (a x : Nat) (hP : ShapeP p) (hw : WOk p W) (ha : a < W.acts.length) (hx : x < 8) (h0 : W.en = 0) (hO : OwnM H F p W) :
    FnE Tryz.prog gl 181 DM [.pt Mn 0, ptE a, iv x] H (fun _ y H' => y = bv (decide ((takeW p W a x).en = 0)) ∧ OwnM H' F p (takeW p W a x)) noE := by
  have hh := hP.heads
  have hx7 : 0 ≤ (x : Int) ∧ (x : Int) ≤ 7 := by omega
  obtain ⟨hnm, hil⟩ := nms_loc (x := (x : Int)) hh hw ha
  have hT := hO.top
  simp only [mRow] at hT
  obtain ⟨c, hc⟩ : ∃ c, W.acts[a]? = some c := ⟨_, gE ha⟩
  have hE := hO.env a c hc
  refine FnE.of_sem Tryz.func181 rfl (by kernel_rfl) (rs := [.tmp 6]) rfl Tryz.ntmps181 (Nat.le_of_ble_eq_true rfl) (fun _ => DM_root) fun C w g root hroot => ?_
  have fx := fx0
  refine k_run ?_
  clear fx
  intro K hK
  have fx := fx0
  refine x_callM hO (have om := hO; OwnM.re om) (Nat.le_refl _) (Nat.le_refl _) (hF := fun hs => holderOf_fn _ _ F p W a x hP hw ha hx hs) (h := ?_)
  rintro y H1 ⟨rfl, hO1⟩
  clear fx
  have hT1 := hO1.top
  simp only [mRow] at hT1
  obtain ⟨o, ho⟩ : ∃ o, owner p (W.blk a) x = o := ⟨_, rfl⟩
  obtain ⟨l, hl⟩ : ∃ l, W.loc p a x = l := ⟨_, rfl⟩
  have hnm0 := hnm
  rw [hl] at hnm hil ⊢
  rw [ho]
  obtain ⟨i, hi⟩ : ∃ i, hIdx l = i := ⟨_, rfl⟩
  rw [hi] at hnm hil ⊢
  obtain ⟨d, hd⟩ : ∃ d, W.acts[i]? = some d := ⟨_, gE hil⟩
  have hE1 := hO1.env i d hd
  simp only [envRow] at hE1
  obtain ⟨ms, hms, hmo⟩ := hO1.nms i hil
  rw [hnm] at hmo
  have hlk := hmo.get' hx7
  cases hg : W.get l x with
  | none =>
    rw [hg] at hlk
    have hlw : takeW p W a x = { W with en := Hm.lack p (W.blk a) o } := by
      unfold takeW
      rw [hl, hg, ho]
    have hne : ¬ Hm.lack p (W.blk a) o = 0 := lack_ne
    have fx := And.intro hT <| And.intro hE <| And.intro hT1 <| And.intro hE1 <| And.intro hms <| And.intro hlk <| @bne_def
    refine k_run ?_
    clear fx
    intro K hK
    have fx := And.intro hT (And.intro hE hT1)
    refine x_callM hO (have om := hO1; OwnM.re om) (Nat.le_refl _) (Nat.le_refl _) (hF := fun hs => stop_fn _ _ F p W (Hm.lack p (W.blk a) o) hs) (h := ?_)
    rintro y H2 ⟨rfl, hO2⟩
    clear fx
    have hT2 := hO2.top
    simp only [mRow] at hT2
    have fx := And.intro hT <| And.intro hE <| And.intro hT1 <| And.intro hE1 <| hT2
    refine k_run ?_
    clear fx
    rw [hlw]
    refine e_ret [] .nil (by simp; rfl) ⟨by simp [hne], OwnM.fin (have om := hO2; OwnM.re om)⟩
  | some v =>
    rw [hg] at hlk
    have hlw : takeW p W a x = W.set l x none := by
      unfold takeW
      rw [hl, hg]
    have fx := And.intro hT <| And.intro hE <| And.intro hT1 <| And.intro hE1 <| And.intro hms <| And.intro hlk <| @bne_def
    refine k_run ?_
    clear fx
    intro K hK
    refine o_abs (fun st => st.tm 35 = .mp (.c (En i) 0 1) ∧ st.tm 36 = iv x ∧ st.hp (.c (En i) 0 1) = some (.map (mrows ms)) ∧ OwnM st.hp F p W) ⟨by simp [hT, hE], by simp, by simp [hms], (have om := hO1; OwnM.re om)⟩ ?_
    rintro st ⟨t35, t36, hms', hO2⟩
    have fx := And.intro t35 (And.intro t36 hms')
    refine x_delete (h := ?_)
    clear fx
    have fx :=  hT
    refine k_run ?_
    clear fx
    rw [hlw]
    refine e_ret [] .nil (by simp; rfl) ⟨by rw [set_same.2.2.2.2.2.2]; simp [h0], OwnM.fin (ownM_set hh hw ha hx hl hnm0 hO2 (hmo.del hx7) fun m hm => ?_)⟩
    rw [hi]
    simp
abbrev qsQc0 : Sch := .q 0 <| .q 1 <| .q 2 <| .q 3 <| .q 4 <| .q 5 <| .q 6 <| .q 7 <| .q 8 <| .q 9 <| .q 10 <| .q 11 <| .q 12 <| .l 13 [12, 11, 10, 9, 8, 7, 6, 5, 4, 3, 2, 1, 0] <| .l 14 [12] <| .l 15 [] <| .done
theorem tmod_natI {v : Int} (hv : 0 ≤ v) : ∃ k : Nat, v.tmod 1000 = k ∧ k < 1000 := by
  have h1 := Int.tmod_nonneg 1000 hv
  have h2 := Int.tmod_lt_of_pos v (show (0 : Int) < 1000 by omega)
  exact ⟨(v.tmod 1000).toNat, by omega, by omega⟩
theorem add_fn (gl) (H : Nm → Option AO) (F : Nat) (p : Prg) (W : Wld) (u v : Val) (h0 : W.en = 0) (hu : VOk W.funs.length W.classes.length u) (hv : VOk W.funs.length W.classes.length v) (hO : OwnM H F p W) :
    FnE Tryz.prog gl 198 DM [.pt Mn 0, Val.av u, Val.av v] H (fun _ y H' => y = .tup [Val.av (plusW W u v).2, bv (decide ((plusW W u v).1.en = 0))] ∧ OwnM H' F p (plusW W u v).1) noE := by
  have hT := hO.top
  simp only [mRow] at hT
  obtain ⟨u1, u2⟩ := u
  obtain ⟨v1, v2⟩ := v
  have hu2 := hu.num
  have hv2 := hv.num
  simp only at hu2 hv2
  have hwr : IntKind.i64.wrap (u2 + v2) = u2 + v2 := wrp (by omega) (by omega)
  obtain ⟨q, hq, hql⟩ := tmod_natI (v := u2 + v2) (by omega)
  have hwq : IntKind.i64.wrap (q : Int) = q := wrp (by omega) (by omega)
  refine FnE.of_sem Tryz.func198 rfl (by kernel_rfl) (rs := [.cell 6 117, .tmp 7]) rfl Tryz.ntmps198 (Nat.le_of_ble_eq_true rfl) (fun _ => DM_root) fun C w g root hroot => ?_
  by_cases h1 : u1 = 1
  · by_cases h2 : v1 = 1
    · subst h1
      subst h2
      have hlw : plusW W (1, u2) (1, v2) = (W, (1, (q : Int))) := by simp [plusW, hq]
      have fx := And.intro hT <| And.intro hwr <| And.intro hq <| And.intro hwq <| @bne_def
      refine k_run ?_
      clear fx
      rw [hlw]
      refine e_ret [] .nil (by simp; rfl) ⟨by simp [h0], OwnM.fin (have om := hO; OwnM.re om)⟩
    · subst h1
      have hb2 : (v1 == 1) = false := by simpa using h2
      have hlw : plusW W (1, u2) (v1, v2) = ({ W with en := 5 }, (0, 0)) := by simp [plusW, h2]
      have fx := And.intro hT <| And.intro hb2 <| @bne_def
      refine k_run ?_
      clear fx
      intro K hK
      have fx := hT
      refine x_callM hO (have om := hO; OwnM.re om) (Nat.le_refl _) (Nat.le_refl _) (hF := fun hs => stop_fn _ _ F p W 5 hs) (h := ?_)
      rintro y H2 ⟨rfl, hO2⟩
      clear fx
      have hT2 := hO2.top
      simp only [mRow] at hT2
      have fx := And.intro hT <| hT2
      refine k_run ?_
      clear fx
      rw [hlw]
      refine e_ret [] .nil (by simp; rfl) ⟨by simp, OwnM.fin (have om := hO2; OwnM.re om)⟩
  · have hb1 : (u1 == 1) = false := by simpa using h1
    have hlw : plusW W (u1, u2) (v1, v2) = ({ W with en := 5 }, (0, 0)) := by simp [plusW, h1]
    have fx := And.intro hT <| And.intro hb1 <| @bne_def
    refine k_run ?_
    clear fx
    intro K hK
    have fx := hT
    refine x_callM hO (have om := hO; OwnM.re om) (Nat.le_refl _) (Nat.le_refl _) (hF := fun hs => stop_fn _ _ F p W 5 hs) (h := ?_)
    rintro y H2 ⟨rfl, hO2⟩
    clear fx
    have hT2 := hO2.top
    simp only [mRow] at hT2
    have fx := And.intro hT <| hT2
    refine k_run ?_
    clear fx
    rw [hlw]
    refine e_ret [] .nil (by simp; rfl) ⟨by simp, OwnM.fin (have om := hO2; OwnM.re om)⟩
theorem attribute_fn (gl) (H : Nm → Option AO) (F : Nat) (p : Prg) (W : Wld) (v : Val) (x : Nat) (h0 : W.en = 0) (hw : WOk p W) (hv : VOk W.funs.length W.classes.length v) (hx : x < 8) (hO : OwnM H F p W) :
    FnE Tryz.prog gl 202 DM [.pt Mn 0, Val.av v, iv x] H (fun _ y H' => y = .tup [Val.av (attrW W v x).2, bv (decide ((attrW W v x).1.en = 0))] ∧ OwnM H' F p (attrW W v x).1) noE := by
  have hT := hO.top
  simp only [mRow] at hT
  obtain ⟨v1, v2⟩ := v
  refine FnE.of_sem Tryz.func202 rfl (by kernel_rfl) (rs := [.cell 6 117, .tmp 7]) rfl Tryz.ntmps202 (Nat.le_of_ble_eq_true rfl) (fun _ => DM_root) fun C w g root hroot => ?_
  by_cases h1 : v1 = 3
  · subst h1
    have hv2 := hv.num
    have hv3 := hv.cls rfl
    simp only at hv2 hv3
    obtain ⟨i, rfl⟩ : ∃ i : Nat, v2 = i := ⟨v2.toNat, by omega⟩
    have hil : i < W.classes.length := by omega
    obtain ⟨c, hc⟩ : ∃ c, W.classes[i]? = some c := ⟨_, gE hil⟩
    have hC := hO.clss
    obtain ⟨ms, hms, hmo⟩ := hO.cls i c hc
    have hcl := (hw.cls c (List.mem_of_getElem? hc)).1
    obtain ⟨s, hs⟩ : ∃ s, c[x]? = some s := ⟨_, gE (by omega)⟩
    have hlk : lk (x : Int) ms = s := by
      rw [hmo.at (by omega)]
      simp [hs]
    cases s with
    | some u =>
      have hlw : attrW W (3, (i : Int)) x = (W, u) := by simp [attrW, hc, hs]
      have fx := And.intro hT <| And.intro hC <| And.intro hms <| And.intro hil <| And.intro hlk <| @bne_def
      refine k_run ?_
      repeat ((first | refine wSc (id := 3) qsQc0 mixed ?_); refine k_rund ?_; refine k_run ?_)
      clear fx
      rw [hlw]
      refine e_ret [] .nil (by simp; rfl) ⟨by simp [h0], OwnM.fin (have om := hO; OwnM.re om)⟩
    | none =>
      have hlw : attrW W (3, (i : Int)) x = ({ W with en := 7 }, (0, 0)) := by simp [attrW, hc, hs]
      have fx := And.intro hT <| And.intro hC <| And.intro hms <| And.intro hil <| And.intro hlk <| @bne_def
      refine k_run ?_
      repeat ((first | refine wSc (id := 3) qsQc0 mixed ?_); refine k_rund ?_; refine k_run ?_)
      clear fx
      intro K hK
      have fx := hT
      refine x_callM hO (have om := hO; OwnM.re om) (Nat.le_refl _) (Nat.le_refl _) (hF := fun hs => stop_fn _ _ F p W 7 hs) (h := ?_)
      rintro y H2 ⟨rfl, hO2⟩
      clear fx
      have hT2 := hO2.top
      simp only [mRow] at hT2
      have fx := And.intro hT <| hT2
      refine k_run ?_
      repeat ((first | refine wSc (id := 3) qsQc0 mixed ?_); refine k_rund ?_; refine k_run ?_)
      clear fx
      rw [hlw]
      refine e_ret [] .nil (by simp; rfl) ⟨by simp, OwnM.fin (have om := hO2; OwnM.re om)⟩
  · have hb1 : (v1 == 3) = false := by simpa using h1
    have hlw : attrW W (v1, v2) x = ({ W with en := 5 }, (0, 0)) := by simp [attrW, h1]
    have fx := And.intro hT <| And.intro hb1 <| @bne_def
    refine k_run ?_
    repeat ((first | refine wSc (id := 3) qsQc0 mixed ?_); refine k_rund ?_; refine k_run ?_)
    clear fx
    intro K hK
    have fx := hT
    refine x_callM hO (have om := hO; OwnM.re om) (Nat.le_refl _) (Nat.le_refl _) (hF := fun hs => stop_fn _ _ F p W 5 hs) (h := ?_)
    rintro y H2 ⟨rfl, hO2⟩
    clear fx
    have hT2 := hO2.top
    simp only [mRow] at hT2
    have fx := And.intro hT <| hT2
    refine k_run ?_
    repeat ((first | refine wSc (id := 3) qsQc0 mixed ?_); refine k_rund ?_; refine k_run ?_)
    clear fx
    rw [hlw]
    refine e_ret [] .nil (by simp; rfl) ⟨by simp, OwnM.fin (have om := hO2; OwnM.re om)⟩
theorem readAll_fn (gl) (H : Nm → Option AO) (F : Nat) (p : Prg) (W : Wld) (a : Nat) (s : Stm) (hP : ShapeP p) (hw : WOk p W) (ha : a < W.acts.length) (h0 : W.en = 0) (hkd : 0 ≤ s.kind ∧ s.kind ≤ 11) (hrd : ∀ x ∈ s.reads, 0 ≤ x ∧ x ≤ 7) (hO : OwnM H F p W) :
    FnE Tryz.prog gl 153 DM [.pt Mn 0, ptE a, s.av] H (fun r y H' => OwnM H' F p (loadsW p W a s.reads).1 ∧ (((loadsW p W a s.reads).1.en = 0 ∧ y = .tup [.hs r 2 0 (loadsW p W a s.reads).2.length, bv true] ∧ H' r = some (.row 2 (vrows (loadsW p W a s.reads).2))) ∨ ((loadsW p W a s.reads).1.en ≠ 0 ∧ y = .tup [.hs r 2 0 0, bv false]))) noE := by
  have hT := hO.top
  simp only [mRow] at hT
  obtain ⟨c, hc⟩ : ∃ c, W.acts[a]? = some c := ⟨_, gE ha⟩
  have hE := hO.env a c hc
  have hrl := Stm.reads_len s
  refine FnE.of_sem Tryz.func153 rfl (by kernel_rfl) (rs := [.tmp 6, .tmp 7]) rfl Tryz.ntmps153 (Nat.le_of_ble_eq_true rfl) (fun _ => DM_root) fun C w g root hroot => ?_
  have hr0 := hroot root (Nm.under_self _)
  have fx := fx0
  have c1 := formOf_fn gl s
  refine k_run ?_
  clear fx c1
  intro K hK
  have fx := fx0
  refine x_invh (hF := reads_inv _ (by kernel_rfl) s hkd) (h := ?_)
  clear fx
  have fx := fx0
  refine k_run ?_
  clear fx
  refine w_loop (fun n st => ∃ (i : Nat) (V : Wld) (vs : List Val), n = s.reads.length - i ∧ i ≤ s.reads.length ∧ vs.length = i ∧ loadsW p W a s.reads = ((loadsW p V a (s.reads.drop i)).1, vs ++ (loadsW p V a (s.reads.drop i)).2) ∧ WOk p V ∧ V.en = 0 ∧ a < V.acts.length ∧ W.acts.length ≤ V.acts.length ∧ W.funs.length ≤ V.funs.length ∧ st.tm 0 = .pt Mn 0 ∧ st.tm 1 = ptE a ∧ st.tm 15 = .hs (.s 15) 1 0 s.reads.length ∧ st.hp (.s 15) = some (.row 1 (irows s.reads)) ∧ st.tm 16 = iv s.reads.length ∧ st.tm 17 = iv i ∧ st.tm 8 = .hs (.s 8) 2 0 vs.length ∧ st.hp (.s 8) = some (.row 2 (vrows vs)) ∧ OwnM st.hp F p V) s.reads.length ?_ ?_
  · exact ⟨0, W, [], by omega, by omega, rfl, by simp, hw, h0, ha, Nat.le_refl _, Nat.le_refl _, by simp, by simp, by simp, by simp, by simp, by simp, by simp, by simp, (have om := hO; OwnM.re om)⟩
  rintro n st - - ⟨i, V, vs, rfl, hi, hvl, hres, hV, hen, haV, hl1, hl2, t0, t1, t15, hp15, t16, t17, t8, hp8, hO1⟩
  have hT1 := hO1.top
  simp only [mRow] at hT1
  obtain ⟨d, hd⟩ : ∃ d, V.acts[a]? = some d := ⟨_, gE haV⟩
  have hE1 := hO1.env a d hd
  by_cases hil : i < s.reads.length
  · obtain ⟨x, hx⟩ : ∃ x, s.reads[i]? = some x := ⟨_, gE hil⟩
    obtain ⟨_, hxE⟩ := gS hx
    obtain ⟨hx0, hx7⟩ := hrd x (List.mem_of_getElem? hx)
    obtain ⟨X, rfl⟩ : ∃ X : Nat, x = X := ⟨x.toNat, by omega⟩
    have hdr : s.reads.drop i = (X : Int) :: s.reads.drop (i + 1) := by rw [List.drop_eq_getElem_cons hil, hxE]
    have hstep : loadsW p V a (s.reads.drop i) = ((loadsW p (loadW p V a X).1 a (s.reads.drop (i + 1))).1, (loadW p V a X).2 :: (loadsW p (loadW p V a X).1 a (s.reads.drop (i + 1))).2) := by
      rw [hdr]
      simp only [loadsW]
      rw [if_neg (by rw [hen]; decide)]
    obtain ⟨hA, _, _⟩ := loadW_ok (a := a) (x := (X : Int)) hV
    have hl3 : vs.length ≤ 2 := by omega
    have hrf := readM_fn gl (F := F) (p := p) (W := V) (a := a) (x := X)
    generalize hq : loadW p V a X = q at hstep hA hrf
    obtain ⟨V', v⟩ := q
    simp only at hstep hA hrf
    have fx := And.intro t0 <| And.intro t1 <| And.intro t15 <| And.intro hp15 <| And.intro t16 <| And.intro t17 <| And.intro t8 <| And.intro hp8 <| And.intro hil <| And.intro hx <| hxE
    refine k_run ?_
    clear fx
    intro K hK
    have fx := And.intro t0 (And.intro t1 hT1)
    refine x_callM hO (have om := hO1; OwnM.re om) hl1 hl2 (hF := fun hs => hrf _ hP hV haV (by omega) hen hs) (h := ?_)
    rintro y H2 ⟨rfl, hO2⟩
    clear fx
    have hT2 := hO2.top
    simp only [mRow] at hT2
    by_cases hen2 : V'.en = 0
    · obtain ⟨v1, v2⟩ := v
      have fx := And.intro t0 <| And.intro t1 <| And.intro t15 <| And.intro hp15 <| And.intro t16 <| And.intro t17 <| And.intro t8 <| And.intro hp8 <| And.intro hT1 <| And.intro hE1 <| And.intro hT2 <| And.intro hen2 <| hl3
      refine k_run ?_
      clear fx
      refine ⟨s.reads.length - (i + 1), by omega, i + 1, V', vs ++ [(v1, v2)], rfl, by omega, by simp [hvl], ?_, hA.ok, hen2, Nat.lt_of_lt_of_le haV hA.grow.lacts, Nat.le_trans hl1 hA.grow.lacts, Nat.le_trans hl2 hA.grow.lfuns, by simp [t0, hT1], by simp [t1, hE1], by simp [t15], by simp [hp15], by simp [t16], by simp [t17]; exact wrp (by omega) (by omega), by simp, by simp [vrows], ⟨by simp [hO2.top, mRow, hen2], ⟨by simp [hO2.scs.top, hen2], fun j k hj hk => by simp [hO2.scs.sc j k hj hk, hen2]⟩, by simp [hO2.out, hen2], by simp [hO2.trc, hen2], hO2.run.imp fun l hl => ⟨hl.1, by simp [hl.2, hen2]⟩, by simp [hO2.funs, hen2], fun k g hg => by simp [hO2.bx k g hg, hen2], by simp [hO2.clss, hen2], fun k c hc => (hO2.cls k c hc).imp fun ms hm => ⟨by simp [hm.1, hen2], hm.2⟩, fun i a ha => by simp [hO2.env i a ha, hen2], fun i hi => (hO2.nms i hi).imp fun ms hm => ⟨by simp [hm.1, hen2], hm.2⟩, fun k i j hk hn => if e : k = 1 ∧ i = 0 ∧ j = 0 then .inl e else hO2.only k i j hk (by simpa [hk, e] using hn)⟩⟩
      rw [hres, hstep]
      simp
    · have hend : (loadsW p W a s.reads).1 = V' := by
        rw [hres, hstep]
        cases hl : s.reads.drop (i + 1) with
        | nil => rfl
        | cons y l => simp only [loadsW]; rw [if_pos hen2]
      obtain ⟨v1, v2⟩ := v
      have fx := And.intro t0 <| And.intro t1 <| And.intro t15 <| And.intro hp15 <| And.intro t16 <| And.intro t17 <| And.intro t8 <| And.intro hp8 <| And.intro hT1 <| And.intro hE1 <| And.intro hT2 <| And.intro hen2 <| hl3
      refine k_run ?_
      clear fx
      refine e_ret [(.s 6, root)] (.one rfl) (by simp; rfl) ⟨by rw [hend]; exact OwnM.fin (have om := hO2; OwnM.re om), .inr ⟨by rw [hend]; exact hen2, by simp⟩⟩
  · have hge : i = s.reads.length := by omega
    have hend : loadsW p W a s.reads = (V, vs) := by
      rw [hres, hge]
      simp [loadsW]
    rw [hend]
    have fx := And.intro t0 <| And.intro t1 <| And.intro t15 <| And.intro hp15 <| And.intro t16 <| And.intro t17 <| And.intro t8 <| And.intro hp8 <| hil
    refine k_run ?_
    clear fx
    refine e_ret [(.s 6, root)] (.one rfl) (by simp; rfl) ⟨OwnM.fin (have om := hO1; OwnM.re om), .inl ⟨hen, by simp, by simp [hp8, hr0]⟩⟩
end Go.Proofs.YtcbkblboonkfhaaGreat
end
