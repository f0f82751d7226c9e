/-
  Own texts, joined by merge.py: Hf, Hg.
-/
import Derived.Test.YtopgafhjmbfaoaaBI

section
/-
  The program's function that makes blocks with their names: what it returns.
-/
set_option maxRecDepth 100000
set_option maxHeartbeats 1000000
set_option linter.unusedSimpArgs false
namespace Go.Proofs.Ytopgafhjmbfaoaa
open Go Go.Hm Go.Proofs

theorem scopesOf_fn (gl) (p : Prg) (hs : Sml p) (hh : Heads p) (hn : ∀ k ∈ p, NmOk k) : FnOk Try.prog gl 32 [pav p] (fun r y H' => y = .hs r 1 0 p.length ∧ OwnS H' r p p.length) := by
  have hpl := hs.len
  refine FnOk.of_sem Try.func32 rfl (by kernel_rfl) (rs := [.tmp 2]) rfl Try.ntmps32 (Nat.le_of_ble_eq_true rfl) fun C w g root => ?_
  all_goals have fx := fx0
  repeat' (first
   | refine w_seq ?_ | refine w_block ?_ | refine w_skip ?_ | refine w_reg fun K hK => ?_
   | ((with_reducible refine s_end hK ?_); clear hK K)
   | (with_reducible first | refine then_normal ?_ | refine in_normal ?_ | refine then_exit ?_ | refine in_exit ?_ | refine then_ret ?_ | refine in_ret ?_ | refine s_nil ?_ | refine in_other (by decide) ?_)
   | refine w_exit ?_
   | refine w_ret ?_
   | (with_reducible first | refine s_none ?_ | refine x_assign (h := ?_) | refine x_box (h := ?_) | refine x_alloc (h := ?_) | refine x_store0 (h := ?_) | refine x_store (h := ?_) | refine x_make (h := ?_))
   | (with_reducible refine x_q (h := ?_))
   | refine x_condt (h1 := ?_) | refine x_condf (h1 := ?_)
   | (refine w_sch (id := 5) (.q 0 <| .q 1 <| .q 2 <| .q 3 <| .q 5 <| .q 7 <| .q 9 <| .l 4 [9, 7, 5, 2, 1, 0] <| .l 6 [9, 7, 2, 1, 0] <| .l 8 [9, 2, 1, 0] <| .l 10 [2, 1, 0] <| .q 11 <| .l 12 [2, 1, 0] <| .l 13 [] <| .done) mixed (by kernel_rfl) (by kernel_rfl) fun K hK => ?_)
   | ((with_reducible refine a_end hK ?_); clear hK K)
   | ((with_reducible refine a_id ?_); first | refine xa_q (h := ?_) | refine xa_qt (h := ?_) | refine xa_qf (h := ?_))
   | ((with_reducible refine a_id ?_); refine xa_gq (h1 := fun ht => ?_) (h2 := fun ht => ?_))
   | refine a_l rfl ?_ | refine a_l2 ?_ ?_ | (with_reducible refine And.intro ?_ ?_) | exact st_nil | refine xa_st (h2 := ?_)
   | fail)
  all_goals try clear fx
  refine w_loop (fun n st => ∃ i : Nat, n = p.length - i ∧ i ≤ p.length ∧ st.tm 1 = .pt (.s 1) 0 ∧ st.hp (.s 1) = some (.row 1 [[ksl p]]) ∧ st.tm 3 = .hs (.s 3) 1 0 p.length ∧ st.tm 14 = ksl p ∧ st.tm 15 = iv p.length ∧ st.tm 16 = iv i ∧ OwnS st.hp (.s 3) p i) p.length ?_ ?_
  · refine ⟨0, by simp, by simp, by simp, by simp, by simp, by simp, by simp, by simp, ⟨?_, fun j k hj => by omega⟩⟩
    rw [← sRows_zero]
    simp [nilP]
  rintro n st - - ⟨i, rfl, hi, h1, hp1, h3, h14, h15, h16, ⟨ho1, ho2⟩⟩
  all_goals have fx := And.intro h14 <| And.intro h15 <| h16
  repeat' (first
   | refine w_seq ?_ | refine w_block ?_ | refine w_skip ?_ | refine w_reg fun K hK => ?_
   | ((with_reducible refine s_end hK ?_); clear hK K)
   | (with_reducible first | refine then_normal ?_ | refine in_normal ?_ | refine then_exit ?_ | refine in_exit ?_ | refine then_ret ?_ | refine in_ret ?_ | refine s_nil ?_ | refine in_other (by decide) ?_)
   | refine w_exit ?_
   | refine w_ret ?_
   | (with_reducible first | refine s_none ?_ | refine x_assign (h := ?_) | refine x_box (h := ?_) | refine x_alloc (h := ?_) | refine x_store0 (h := ?_) | refine x_store (h := ?_) | refine x_make (h := ?_))
   | (with_reducible refine x_q (h := ?_))
   | refine x_condt (h1 := ?_) | refine x_condf (h1 := ?_)
   | (refine w_sch (id := 5) (.q 0 <| .q 1 <| .q 2 <| .q 3 <| .q 5 <| .q 7 <| .q 9 <| .l 4 [9, 7, 5, 2, 1, 0] <| .l 6 [9, 7, 2, 1, 0] <| .l 8 [9, 2, 1, 0] <| .l 10 [2, 1, 0] <| .q 11 <| .l 12 [2, 1, 0] <| .l 13 [] <| .done) mixed (by kernel_rfl) (by kernel_rfl) fun K hK => ?_)
   | ((with_reducible refine a_end hK ?_); clear hK K)
   | ((with_reducible refine a_id ?_); first | refine xa_q (h := ?_) | refine xa_qt (h := ?_) | refine xa_qf (h := ?_))
   | ((with_reducible refine a_id ?_); refine xa_gq (h1 := fun ht => ?_) (h2 := fun ht => ?_))
   | refine a_l rfl ?_ | refine a_l2 ?_ ?_ | (with_reducible refine And.intro ?_ ?_) | exact st_nil | refine xa_st (h2 := ?_)
   | fail)
  all_goals try clear fx
  refine w_if (by simp []; first | done | rfl | exact (Bool.not_not _).symm) (fun ht => ?_) (fun hf => ?_)
  · have hlt : i < p.length := by simpa using ht
    obtain ⟨k, hk⟩ : ∃ k, p[i]? = some k := ⟨_, List.getElem?_eq_getElem hlt⟩
    have hkm := List.mem_of_getElem? hk
    obtain ⟨hkp, hkb⟩ := hs.bsm hk
    clear ht
    all_goals have fx := And.intro h14 <| And.intro h15 <| And.intro h16 <| hk
    repeat' (first
     | refine w_seq ?_ | refine w_block ?_ | refine w_skip ?_ | refine w_reg fun K hK => ?_
     | ((with_reducible refine s_end hK ?_); clear hK K)
     | (with_reducible first | refine then_normal ?_ | refine in_normal ?_ | refine then_exit ?_ | refine in_exit ?_ | refine then_ret ?_ | refine in_ret ?_ | refine s_nil ?_ | refine in_other (by decide) ?_)
     | refine w_exit ?_
     | refine w_ret ?_
     | (with_reducible first | refine s_none ?_ | refine x_assign (h := ?_) | refine x_box (h := ?_) | refine x_alloc (h := ?_) | refine x_store0 (h := ?_) | refine x_store (h := ?_) | refine x_make (h := ?_))
     | ((with_reducible refine o_id 76 rfl ?_); refine x_call (hF := readSet_fn _ k (hn k hkm) (hs.bsm hk)) (h := ?_))
     | ((with_reducible refine o_id 77 rfl ?_); refine x_call (hF := boundSet_fn _ k (hn k hkm) (hs.bsm hk)) (h := ?_))
     | ((with_reducible refine o_id 78 rfl ?_); refine x_call (hF := declaredSet_fn _ k _ (hn k hkm) (hs.bsm hk)) (h := ?_))
     | (with_reducible refine x_q (h := ?_))
     | refine x_condt (h1 := ?_) | refine x_condf (h1 := ?_)
     | (refine w_sch (id := 5) (.q 0 <| .q 1 <| .q 2 <| .q 3 <| .q 5 <| .q 7 <| .q 9 <| .l 4 [9, 7, 5, 2, 1, 0] <| .l 6 [9, 7, 2, 1, 0] <| .l 8 [9, 2, 1, 0] <| .l 10 [2, 1, 0] <| .q 11 <| .l 12 [2, 1, 0] <| .l 13 [] <| .done) mixed (by kernel_rfl) (by kernel_rfl) fun K hK => ?_)
     | ((with_reducible refine a_end hK ?_); clear hK K)
     | ((with_reducible refine a_id ?_); first | refine xa_q (h := ?_) | refine xa_qt (h := ?_) | refine xa_qf (h := ?_))
     | ((with_reducible refine a_id ?_); refine xa_gq (h1 := fun ht => ?_) (h2 := fun ht => ?_))
     | refine a_l rfl ?_ | refine a_l2 ?_ ?_ | (with_reducible refine And.intro ?_ ?_) | exact st_nil | refine xa_st (h2 := ?_)
     | fail)
    all_goals try clear fx
    refine w_loop (fun n st => ∃ j : Nat, n = k.params.length - j ∧ j ≤ k.params.length ∧ st.tm 1 = .pt (.s 1) 0 ∧ st.hp (.s 1) = some (.row 1 [[ksl p]]) ∧ st.tm 3 = .hs (.s 3) 1 0 p.length ∧ st.tm 14 = ksl p ∧ st.tm 15 = iv p.length ∧ st.tm 16 = iv i ∧ OwnS st.hp (.s 3) p i ∧ st.tm 4 = iv i ∧ st.tm 5 = .pt (.s 5) 0 ∧ st.hp (.s 5) = some (.row 4 [k.cells]) ∧ st.tm 6 = .pt (.s 6) 0 ∧ st.hp (.s 6) = some (.row 43 [scopeRow i k nilP (k.params.take j)]) ∧ st.tm 35 = isl k.params ∧ st.tm 36 = iv k.params.length ∧ st.tm 37 = iv j) k.params.length ?_ ?_
    · refine ⟨0, by simp, by simp, by simp [h1], by simp [hp1], by simp [h3], by simp [h14], by simp [h15], by simp [h16], ⟨?_, fun j q hj hq => ?_⟩, by simp, by simp, by simp, by simp, ?_, by simp, by simp, by simp⟩
      · simp [ho1]
      · simp [ho2 j q hj hq]
      · simp [scopeRow, nilP]
        rfl
    clear h1 hp1 h3 h14 h15 h16 ho1 ho2
    rintro n st - - ⟨j, rfl, hj, h1, hp1, h3, h14, h15, h16, ⟨ho1, ho2⟩, h4, h5, hp5, h6, hp6, h35, h36, h37⟩
    all_goals have fx := And.intro h35 <| And.intro h36 <| h37
    repeat' (first
     | refine w_seq ?_ | refine w_block ?_ | refine w_skip ?_ | refine w_reg fun K hK => ?_
     | ((with_reducible refine s_end hK ?_); clear hK K)
     | (with_reducible first | refine then_normal ?_ | refine in_normal ?_ | refine then_exit ?_ | refine in_exit ?_ | refine then_ret ?_ | refine in_ret ?_ | refine s_nil ?_ | refine in_other (by decide) ?_)
     | refine w_exit ?_
     | refine w_ret ?_
     | (with_reducible first | refine s_none ?_ | refine x_assign (h := ?_) | refine x_box (h := ?_) | refine x_alloc (h := ?_) | refine x_store0 (h := ?_) | refine x_store (h := ?_) | refine x_make (h := ?_))
     | (with_reducible refine x_q (h := ?_))
     | refine x_condt (h1 := ?_) | refine x_condf (h1 := ?_)
     | (refine w_sch (id := 5) (.q 0 <| .q 1 <| .q 2 <| .q 3 <| .q 5 <| .q 7 <| .q 9 <| .l 4 [9, 7, 5, 2, 1, 0] <| .l 6 [9, 7, 2, 1, 0] <| .l 8 [9, 2, 1, 0] <| .l 10 [2, 1, 0] <| .q 11 <| .l 12 [2, 1, 0] <| .l 13 [] <| .done) mixed (by kernel_rfl) (by kernel_rfl) fun K hK => ?_)
     | ((with_reducible refine a_end hK ?_); clear hK K)
     | ((with_reducible refine a_id ?_); first | refine xa_q (h := ?_) | refine xa_qt (h := ?_) | refine xa_qf (h := ?_))
     | ((with_reducible refine a_id ?_); refine xa_gq (h1 := fun ht => ?_) (h2 := fun ht => ?_))
     | refine a_l rfl ?_ | refine a_l2 ?_ ?_ | (with_reducible refine And.intro ?_ ?_) | exact st_nil | refine xa_st (h2 := ?_)
     | fail)
    all_goals try clear fx
    refine w_if (by simp []; first | done | rfl | exact (Bool.not_not _).symm) (fun ht => ?_) (fun hf => ?_)
    · have hlj : j < k.params.length := by simpa using ht
      obtain ⟨y, hy⟩ : ∃ y, k.params[j]? = some y := ⟨_, List.getElem?_eq_getElem hlj⟩
      have hto := (hn k hkm).params y (List.mem_of_getElem? hy)
      obtain ⟨x, rfl⟩ : ∃ x : Nat, y = x := ⟨y.toNat, by omega⟩
      have hx8 : (x : Int) < 8 := by omega
      clear ht
      all_goals have fx := And.intro h35 <| And.intro h36 <| And.intro h37 <| And.intro hy <| And.intro h6 <| And.intro hp6 <| hx8
      repeat' (first
       | refine w_seq ?_ | refine w_block ?_ | refine w_skip ?_ | refine w_reg fun K hK => ?_
       | ((with_reducible refine s_end hK ?_); clear hK K)
       | (with_reducible first | refine then_normal ?_ | refine in_normal ?_ | refine then_exit ?_ | refine in_exit ?_ | refine then_ret ?_ | refine in_ret ?_ | refine s_nil ?_ | refine in_other (by decide) ?_)
       | refine w_exit ?_
       | refine w_ret ?_
       | (with_reducible first | refine s_none ?_ | refine x_assign (h := ?_) | refine x_box (h := ?_) | refine x_alloc (h := ?_) | refine x_store0 (h := ?_) | refine x_store (h := ?_) | refine x_make (h := ?_))
       | (with_reducible refine x_q (h := ?_))
       | refine x_condt (h1 := ?_) | refine x_condf (h1 := ?_)
       | (refine w_sch (id := 5) (.q 0 <| .q 1 <| .q 2 <| .q 3 <| .q 5 <| .q 7 <| .q 9 <| .l 4 [9, 7, 5, 2, 1, 0] <| .l 6 [9, 7, 2, 1, 0] <| .l 8 [9, 2, 1, 0] <| .l 10 [2, 1, 0] <| .q 11 <| .l 12 [2, 1, 0] <| .l 13 [] <| .done) mixed (by kernel_rfl) (by kernel_rfl) fun K hK => ?_)
       | ((with_reducible refine a_end hK ?_); clear hK K)
       | ((with_reducible refine a_id ?_); first | refine xa_q (h := ?_) | refine xa_qt (h := ?_) | refine xa_qf (h := ?_))
       | ((with_reducible refine a_id ?_); refine xa_gq (h1 := fun ht => ?_) (h2 := fun ht => ?_))
       | refine a_l rfl ?_ | refine a_l2 ?_ ?_ | (with_reducible refine And.intro ?_ ?_) | exact st_nil | refine xa_st (h2 := ?_)
       | fail)
      all_goals try clear fx
      refine ⟨k.params.length - (j + 1), by omega, j + 1, by simp, by omega, by simp [h1], by simp [hp1], by simp [h3], by simp [h14], by simp [h15], by simp [h16], ⟨?_, fun j q hj hq => ?_⟩, by simp [h4], by simp [h5], by simp [hp5], by simp [h6], ?_, by simp [h35], by simp [h36], by simp; exact wrp (by omega) (by omega)⟩
      · simp [ho1]
      · simp [ho2 j q hj hq]
      · rw [List.take_add_one, hy]
        simp [← scopeRow_addP (y := (x : Int)) rfl (by omega : x < 8)]
    · have hge : j = k.params.length := by
        have : ¬ j < k.params.length := by simpa using hf
        omega
      subst hge
      rw [List.take_length] at hp6
      clear hf hj
      obtain ⟨hq1, hq2, hq3⟩ := hh i k hk
      all_goals have fx :=  h4
      repeat' (first
       | refine w_seq ?_ | refine w_block ?_ | refine w_skip ?_ | refine w_reg fun K hK => ?_
       | ((with_reducible refine s_end hK ?_); clear hK K)
       | (with_reducible first | refine then_normal ?_ | refine in_normal ?_ | refine then_exit ?_ | refine in_exit ?_ | refine then_ret ?_ | refine in_ret ?_ | refine s_nil ?_ | refine in_other (by decide) ?_)
       | refine w_exit ?_
       | refine w_ret ?_
       | (with_reducible first | refine s_none ?_ | refine x_assign (h := ?_) | refine x_box (h := ?_) | refine x_alloc (h := ?_) | refine x_store0 (h := ?_) | refine x_store (h := ?_) | refine x_make (h := ?_))
       | (with_reducible refine x_q (h := ?_))
       | refine x_condt (h1 := ?_) | refine x_condf (h1 := ?_)
       | (refine w_sch (id := 5) (.q 0 <| .q 1 <| .q 2 <| .q 3 <| .q 5 <| .q 7 <| .q 9 <| .l 4 [9, 7, 5, 2, 1, 0] <| .l 6 [9, 7, 2, 1, 0] <| .l 8 [9, 2, 1, 0] <| .l 10 [2, 1, 0] <| .q 11 <| .l 12 [2, 1, 0] <| .l 13 [] <| .done) mixed (by kernel_rfl) (by kernel_rfl) fun K hK => ?_)
       | ((with_reducible refine a_end hK ?_); clear hK K)
       | ((with_reducible refine a_id ?_); first | refine xa_q (h := ?_) | refine xa_qt (h := ?_) | refine xa_qf (h := ?_))
       | ((with_reducible refine a_id ?_); refine xa_gq (h1 := fun ht => ?_) (h2 := fun ht => ?_))
       | refine a_l rfl ?_ | refine a_l2 ?_ ?_ | (with_reducible refine And.intro ?_ ?_) | exact st_nil | refine xa_st (h2 := ?_)
       | fail)
      all_goals try clear fx
      refine w_if (by simp []; first | done | rfl | exact (Bool.not_not _).symm) (fun ht => ?_) (fun hf => ?_)
      · have hi0 : 0 < i := by simpa using ht
        obtain ⟨q, hq⟩ : ∃ q : Nat, k.parent = q := ⟨k.parent.toNat, by omega⟩
        have hqi : q < i := by omega
        have hqp : q < p.length := by omega
        have hsg := sRows_get (n := .s 3) (i := i) hqp
        rw [if_pos hqi] at hsg
        obtain ⟨_, hse⟩ := List.getElem?_eq_some_iff.1 hsg
        all_goals have fx := And.intro h3 <| And.intro ho1 <| And.intro h4 <| And.intro h5 <| And.intro hp5 <| And.intro h6 <| And.intro hp6 <| And.intro hq <| And.intro hsg <| And.intro hse <| And.intro hlt <| And.intro hqp <| And.intro hqi <| h16
        repeat' (first
         | refine w_seq ?_ | refine w_block ?_ | refine w_skip ?_ | refine w_reg fun K hK => ?_
         | ((with_reducible refine s_end hK ?_); clear hK K)
         | (with_reducible first | refine then_normal ?_ | refine in_normal ?_ | refine then_exit ?_ | refine in_exit ?_ | refine then_ret ?_ | refine in_ret ?_ | refine s_nil ?_ | refine in_other (by decide) ?_)
         | refine w_exit ?_
         | refine w_ret ?_
         | (with_reducible first | refine s_none ?_ | refine x_assign (h := ?_) | refine x_box (h := ?_) | refine x_alloc (h := ?_) | refine x_store0 (h := ?_) | refine x_store (h := ?_) | refine x_make (h := ?_))
         | (with_reducible refine x_q (h := ?_))
         | refine x_condt (h1 := ?_) | refine x_condf (h1 := ?_)
         | (refine w_sch (id := 5) (.q 0 <| .q 1 <| .q 2 <| .q 3 <| .q 5 <| .q 7 <| .q 9 <| .l 4 [9, 7, 5, 2, 1, 0] <| .l 6 [9, 7, 2, 1, 0] <| .l 8 [9, 2, 1, 0] <| .l 10 [2, 1, 0] <| .q 11 <| .l 12 [2, 1, 0] <| .l 13 [] <| .done) mixed (by kernel_rfl) (by kernel_rfl) fun K hK => ?_)
         | ((with_reducible refine a_end hK ?_); clear hK K)
         | ((with_reducible refine a_id ?_); first | refine xa_q (h := ?_) | refine xa_qt (h := ?_) | refine xa_qf (h := ?_))
         | ((with_reducible refine a_id ?_); refine xa_gq (h1 := fun ht => ?_) (h2 := fun ht => ?_))
         | refine a_l rfl ?_ | refine a_l2 ?_ ?_ | (with_reducible refine And.intro ?_ ?_) | exact st_nil | refine xa_st (h2 := ?_)
         | fail)
        all_goals try clear fx
        refine ⟨p.length - (i + 1), by omega, i + 1, rfl, by omega, by simp [h1], by simp [hp1], by simp [h3], by simp [h14], by simp [h15], by simp [h16]; exact wrp (by omega) (by omega), ⟨?_, fun j r hj hr => ?_⟩⟩
        · simp [ho1, sRows_set]
        · rcases Nat.lt_succ_iff_lt_or_eq.1 hj with hlj | rfl
          · have hne : ¬ j = i := by omega
            have hrp := (hh j r hr).2.1
            have ho := outP_mvc (n := .s 3) (a := 6) (i := i) (q := r.parent) (by simp) (by simp) (by omega)
            simp [ho2 j r hlj hr, hne, ho]
          · rw [hk] at hr
            obtain rfl := Option.some.inj hr
            have hne : ¬ q = j := by omega
            have hso := scopeRow_setO (i := j) (k := k) (o := nilP) (o' := .pt (.c (.s 3) q 0) 0) (ps := k.params)
            simp [hq, outP_nat, hp6, hne, hso]
      · have hi0 : i = 0 := by
          have : ¬ 0 < i := by simpa using hf
          omega
        all_goals have fx := And.intro h3 <| And.intro ho1 <| And.intro h4 <| And.intro h6 <| And.intro hp6 <| And.intro hlt <| h16
        repeat' (first
         | refine w_seq ?_ | refine w_block ?_ | refine w_skip ?_ | refine w_reg fun K hK => ?_
         | ((with_reducible refine s_end hK ?_); clear hK K)
         | (with_reducible first | refine then_normal ?_ | refine in_normal ?_ | refine then_exit ?_ | refine in_exit ?_ | refine then_ret ?_ | refine in_ret ?_ | refine s_nil ?_ | refine in_other (by decide) ?_)
         | refine w_exit ?_
         | refine w_ret ?_
         | (with_reducible first | refine s_none ?_ | refine x_assign (h := ?_) | refine x_box (h := ?_) | refine x_alloc (h := ?_) | refine x_store0 (h := ?_) | refine x_store (h := ?_) | refine x_make (h := ?_))
         | (with_reducible refine x_q (h := ?_))
         | refine x_condt (h1 := ?_) | refine x_condf (h1 := ?_)
         | (refine w_sch (id := 5) (.q 0 <| .q 1 <| .q 2 <| .q 3 <| .q 5 <| .q 7 <| .q 9 <| .l 4 [9, 7, 5, 2, 1, 0] <| .l 6 [9, 7, 2, 1, 0] <| .l 8 [9, 2, 1, 0] <| .l 10 [2, 1, 0] <| .q 11 <| .l 12 [2, 1, 0] <| .l 13 [] <| .done) mixed (by kernel_rfl) (by kernel_rfl) fun K hK => ?_)
         | ((with_reducible refine a_end hK ?_); clear hK K)
         | ((with_reducible refine a_id ?_); first | refine xa_q (h := ?_) | refine xa_qt (h := ?_) | refine xa_qf (h := ?_))
         | ((with_reducible refine a_id ?_); refine xa_gq (h1 := fun ht => ?_) (h2 := fun ht => ?_))
         | refine a_l rfl ?_ | refine a_l2 ?_ ?_ | (with_reducible refine And.intro ?_ ?_) | exact st_nil | refine xa_st (h2 := ?_)
         | fail)
        all_goals try clear fx
        refine ⟨p.length - (i + 1), by omega, i + 1, rfl, by omega, by simp [h1], by simp [hp1], by simp [h3], by simp [h14], by simp [h15], by simp [h16]; exact wrp (by omega) (by omega), ⟨?_, fun j r hj hr => ?_⟩⟩
        · simp [ho1, sRows_set]
        · obtain rfl : j = i := by omega
          rw [hk] at hr
          obtain rfl := Option.some.inj hr
          rw [outP_neg (by omega)]
          simp [hp6]
  · have hge : i = p.length := by
      have : ¬ i < p.length := by simpa using hf
      omega
    subst hge
    all_goals have fx :=  h3
    repeat' (first
     | refine w_seq ?_ | refine w_block ?_ | refine w_skip ?_ | refine w_reg fun K hK => ?_
     | ((with_reducible refine s_end hK ?_); clear hK K)
     | (with_reducible first | refine then_normal ?_ | refine in_normal ?_ | refine then_exit ?_ | refine in_exit ?_ | refine then_ret ?_ | refine in_ret ?_ | refine s_nil ?_ | refine in_other (by decide) ?_)
     | refine w_exit ?_
     | refine w_ret ?_
     | (with_reducible first | refine s_none ?_ | refine x_assign (h := ?_) | refine x_box (h := ?_) | refine x_alloc (h := ?_) | refine x_store0 (h := ?_) | refine x_store (h := ?_) | refine x_make (h := ?_))
     | (with_reducible refine x_q (h := ?_))
     | refine x_condt (h1 := ?_) | refine x_condf (h1 := ?_)
     | (refine w_sch (id := 5) (.q 0 <| .q 1 <| .q 2 <| .q 3 <| .q 5 <| .q 7 <| .q 9 <| .l 4 [9, 7, 5, 2, 1, 0] <| .l 6 [9, 7, 2, 1, 0] <| .l 8 [9, 2, 1, 0] <| .l 10 [2, 1, 0] <| .q 11 <| .l 12 [2, 1, 0] <| .l 13 [] <| .done) mixed (by kernel_rfl) (by kernel_rfl) fun K hK => ?_)
     | ((with_reducible refine a_end hK ?_); clear hK K)
     | ((with_reducible refine a_id ?_); first | refine xa_q (h := ?_) | refine xa_qt (h := ?_) | refine xa_qf (h := ?_))
     | ((with_reducible refine a_id ?_); refine xa_gq (h1 := fun ht => ?_) (h2 := fun ht => ?_))
     | refine a_l rfl ?_ | refine a_l2 ?_ ?_ | (with_reducible refine And.intro ?_ ?_) | exact st_nil | refine xa_st (h2 := ?_)
     | fail)
    all_goals try clear fx
    refine e_ret [(.s 2, root)] (.one rfl) (by simp; rfl) ⟨by simp, ⟨?_, fun j r hj hr => ?_⟩⟩
    · simp [ho1, sRows_tr (n := .s 2) (m := root) (f := finf noD [(.s 2, root)]) (by simp)]
    · simp [ho2 j r hj hr, outP_tr (n := .s 2) (m := root) (f := finf noD [(.s 2, root)]) (by simp)]
end Go.Proofs.Ytopgafhjmbfaoaa
end

section
/-
  The program's functions that read blocks with their names: what they return.
-/
set_option maxRecDepth 100000
set_option maxHeartbeats 1000000
set_option linter.unusedSimpArgs false
namespace Go.Proofs.Ytopgafhjmbfaoaa
open Go Go.Hm Go.Proofs

theorem declares_fn (gl) (i : Nat) (k : Blk) (o : AV) (ps : List Int) (x : Nat) (hx : x < 8) : FnOk Try.prog gl 79 [.el (scopeRow i k o ps) 0, iv x] (fun _ y _ => y = bv (decide ((x : Int) ∈ k.dc 9) || decide ((x : Int) ∈ k.dc 10))) := by
  have h8 : (x : Int) < 8 := by omega
  have hg := scopeRow_g (i := i) (k := k) (o := o) (ps := ps) hx
  have hn := scopeRow_n (i := i) (k := k) (o := o) (ps := ps) hx
  refine FnOk.of_sem Try.func79 rfl (by kernel_rfl) (rs := [.tmp 4]) rfl Try.ntmps79 (Nat.le_of_ble_eq_true rfl) fun C w g root => ?_
  all_goals have fx := And.intro h8 <| And.intro hg <| hn
  repeat' (first
   | refine w_seq ?_ | refine w_reg fun K hK => ?_
   | ((with_reducible refine s_end hK ?_); clear hK K)
   | (with_reducible first | refine then_normal ?_ | refine then_ret ?_)
   | refine w_ret ?_
   | (with_reducible refine s_none ?_)
   | ((with_reducible refine g_id ?_); refine x_guard (h := ?_))
   | (with_reducible first | refine gx_tt ?_ | refine gx_ff ?_ | refine x_tf (h := ?_) | refine x_ft (h := ?_) | refine x_u (h := ?_) | refine x_assign (h := ?_))
   | (with_reducible refine x_q (h := ?_))
   | (with_reducible refine gx_s (fun ht => ?_) (fun ht => ?_))
   | fail)
  all_goals try clear fx
  all_goals refine e_ret [] .nil (by simp; rfl) ?_
  all_goals simp_all

theorem scope_isLocal_fn (gl) (i : Nat) (k : Blk) (o : AV) (ps : List Int) (x : Nat) (hx : x < 8) : FnOk Try.prog gl 91 [.el (scopeRow i k o ps) 0, iv x] (fun _ y _ => y = bv (k.kind != 0 && decide ((x : Int) ∈ k.bd) && !(decide ((x : Int) ∈ k.dc 9) || decide ((x : Int) ∈ k.dc 10)))) := by
  have h8 : (x : Int) < 8 := by omega
  have hb := scopeRow_b (i := i) (k := k) (o := o) (ps := ps) hx
  refine FnOk.of_sem Try.func91 rfl (by kernel_rfl) (rs := [.tmp 4]) rfl Try.ntmps91 (Nat.le_of_ble_eq_true rfl) fun C w g root => ?_
  all_goals have fx := And.intro h8 <| hb
  repeat' (first
   | refine w_seq ?_ | refine w_reg fun K hK => ?_
   | ((with_reducible refine s_end hK ?_); clear hK K)
   | (with_reducible first | refine then_normal ?_ | refine then_ret ?_)
   | refine w_ret ?_
   | (with_reducible refine s_none ?_)
   | ((with_reducible refine g_id ?_); refine x_guard (h := ?_))
   | (with_reducible first | refine gx_tt ?_ | refine gx_ff ?_ | refine x_tf (h := ?_) | refine x_ft (h := ?_) | refine x_u (h := ?_) | refine x_assign (h := ?_))
   | ((with_reducible refine o_id 79 rfl ?_); refine x_call (hF := declares_fn _ _ _ _ _ _ hx) (h := ?_))
   | (with_reducible refine x_q (h := ?_))
   | (with_reducible refine gx_s (fun ht => ?_) (fun ht => ?_))
   | fail)
  all_goals try clear fx
  all_goals refine e_ret [] .nil (by simp; rfl) ?_
  all_goals simp_all

theorem uses_fn (gl) (i : Nat) (k : Blk) (o : AV) (ps : List Int) (x : Nat) (hx : x < 8) : FnOk Try.prog gl 51 [.el (scopeRow i k o ps) 0, iv x] (fun _ y _ => y = bv (decide ((x : Int) ∈ k.rd) || decide ((x : Int) ∈ k.bd) || (decide ((x : Int) ∈ k.dc 9) || decide ((x : Int) ∈ k.dc 10)))) := by
  have h8 : (x : Int) < 8 := by omega
  have hb := scopeRow_b (i := i) (k := k) (o := o) (ps := ps) hx
  have hr := scopeRow_r (i := i) (k := k) (o := o) (ps := ps) hx
  refine FnOk.of_sem Try.func51 rfl (by kernel_rfl) (rs := [.tmp 4]) rfl Try.ntmps51 (Nat.le_of_ble_eq_true rfl) fun C w g root => ?_
  all_goals have fx := And.intro h8 <| And.intro hb <| hr
  repeat' (first
   | refine w_seq ?_ | refine w_reg fun K hK => ?_
   | ((with_reducible refine s_end hK ?_); clear hK K)
   | (with_reducible first | refine then_normal ?_ | refine then_ret ?_)
   | refine w_ret ?_
   | (with_reducible refine s_none ?_)
   | ((with_reducible refine g_id ?_); refine x_guard (h := ?_))
   | (with_reducible first | refine gx_tt ?_ | refine gx_ff ?_ | refine x_tf (h := ?_) | refine x_ft (h := ?_) | refine x_u (h := ?_) | refine x_assign (h := ?_))
   | ((with_reducible refine o_id 79 rfl ?_); refine x_call (hF := declares_fn _ _ _ _ _ _ hx) (h := ?_))
   | (with_reducible refine x_q (h := ?_))
   | (with_reducible refine gx_s (fun ht => ?_) (fun ht => ?_))
   | fail)
  all_goals try clear fx
  all_goals refine e_ret [] .nil (by simp; rfl) ?_
  all_goals simp_all

end Go.Proofs.Ytopgafhjmbfaoaa
end
