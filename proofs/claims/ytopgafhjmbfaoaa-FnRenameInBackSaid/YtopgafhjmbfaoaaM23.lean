/-
  Own texts, joined by mkclaim.py: Ta, Tb, Gp.
-/
import Derived.Test.YtopgafhjmbfaoaaM20
import Derived.Test.YtopgafhjmbfaoaaM10
import Derived.Test.YtopgafhjmbfaoaaM22
import Derived.Test.YtopgafhjmbfaoaaM19

section
/-
  The laws' functions of equality and of lists; blocks inside.
-/
set_option maxRecDepth 100000
set_option maxHeartbeats 1000000
set_option linter.unusedSimpArgs false
namespace Go.Proofs.Ytopgafhjmbfaoaa
open Go Go.Hm Go.Proofs

theorem equalInts_fn (gl) (xs ys : List Int) (hx : xs.length ≤ 1048576) (hy : ys.length ≤ 1048576) : FnOk Try.prog gl 57 [isl xs, isl ys] (fun _ z _ => z = bv (decide (xs = ys))) := by
  refine FnOk.of_sem Try.func57 rfl (by kernel_rfl) (rs := [.tmp 4]) rfl Try.ntmps57 (Nat.le_of_ble_eq_true rfl) fun C w g root => ?_
  by_cases hl : xs.length = ys.length
  case neg =>
    have h1 : ((xs.length : Int) == ys.length) = false := by simp; omega
    all_goals have fx := And.intro h1 <| @bne_def
    repeat' (first
     | refine w_seq ?_ | refine w_reg fun K hK => ?_
     | ((with_reducible refine s_end hK ?_); clear hK K)
     | (with_reducible first | refine then_normal ?_ | refine then_ret ?_)
     | refine w_ret ?_
     | (with_reducible first | refine s_none ?_ | refine x_assign (h := ?_))
     | (with_reducible refine x_q (h := ?_))
     | refine x_condt (h1 := ?_)
     | fail)
    all_goals try clear fx
    refine e_ret [] .nil (by simp; rfl) ?_
    have : ¬ xs = ys := fun e => hl (by rw [e])
    simp [this]
  all_goals have fx := And.intro hl <| @bne_def
  repeat' (first
   | refine w_seq ?_ | refine w_block ?_ | refine w_skip ?_ | refine w_reg fun K hK => ?_
   | ((with_reducible refine s_end hK ?_); clear hK K)
   | (with_reducible first | refine then_normal ?_)
   | (with_reducible first | refine s_none ?_ | refine x_assign (h := ?_))
   | (with_reducible refine x_q (h := ?_))
   | refine x_condf (h1 := ?_)
   | fail)
  all_goals try clear fx
  refine w_loop (fun n st => ∃ i : Nat, n = xs.length - i ∧ i ≤ xs.length ∧ st.tm 0 = isl xs ∧ st.tm 1 = isl ys ∧ st.tm 5 = iv i ∧ xs.take i = ys.take i) xs.length ?_ ?_
  · exact ⟨0, by simp⟩
  rintro n st - - ⟨i, rfl, hi, h0, h1, h5, heq⟩
  all_goals have fx := And.intro h0 <| h5
  repeat' (first
   | refine w_seq ?_ | refine w_reg fun K hK => ?_
   | ((with_reducible refine s_end hK ?_); clear hK K)
   | (with_reducible first | refine then_normal ?_)
   | (with_reducible first | refine s_none ?_)
   | (with_reducible refine x_q (h := ?_))
   | fail)
  all_goals try clear fx
  refine w_if (by simp []; first | done | rfl | exact (Bool.not_not _).symm) (fun ht => ?_) (fun hf => ?_)
  · have hlt : i < xs.length := by simpa using ht
    obtain ⟨x, hxi⟩ : ∃ x, xs[i]? = some x := ⟨_, List.getElem?_eq_getElem (by omega)⟩
    obtain ⟨y, hyi⟩ : ∃ y, ys[i]? = some y := ⟨_, List.getElem?_eq_getElem (by omega)⟩
    clear ht
    all_goals have fx := And.intro h0 <| And.intro h1 <| And.intro h5 <| And.intro hxi <| And.intro hyi <| @bne_def
    repeat' (first
     | refine w_seq ?_ | refine w_block ?_ | refine w_skip ?_ | refine w_reg fun K hK => ?_
     | ((with_reducible refine s_end hK ?_); clear hK K)
     | (with_reducible first | refine then_normal ?_ | refine then_ret ?_ | refine in_ret ?_)
     | refine w_ret ?_
     | (with_reducible first | refine s_none ?_ | refine x_assign (h := ?_))
     | (with_reducible refine x_q (h := ?_))
     | (refine w_sch (id := 6) (.q 0 <| .q 1 <| .q 2 <| .q 3 <| .q 4 <| .q 5 <| .q 6 <| .q 7 <| .q 8 <| .done) mixed (by kernel_rfl) (by kernel_rfl) fun K hK => ?_)
     | ((with_reducible refine a_end hK ?_); clear hK K)
     | ((with_reducible refine a_id ?_); first | refine xa_q (h := ?_))
     | refine x_if (h1 := fun ht => ?_) (h2 := fun ht => ?_)
     | fail)
    all_goals try clear fx
    all_goals first
      | (refine e_ret [] .nil (by simp; rfl) ?_
         have hne : ¬ xs = ys := fun e => by rw [e, hyi] at hxi; obtain rfl := Option.some.inj hxi; simp at ht
         simp [hne])
      | (have hxy : x = y := by simpa using ht
         refine ⟨xs.length - (i + 1), by omega, i + 1, rfl, by omega, by simp [h0], by simp [h1], by simp; exact wrp (by omega) (by omega), ?_⟩
         rw [List.take_add_one, List.take_add_one, heq, hxi, hyi, hxy])
  · have hge : i = xs.length := by
      have : ¬ i < xs.length := by simpa using hf
      omega
    have : xs = ys := by rw [hge, List.take_length, hl, List.take_length] at heq; exact heq
    all_goals have fx := fx0
    repeat' (first
     | refine w_seq ?_ | refine w_reg fun K hK => ?_
     | ((with_reducible refine s_end hK ?_); clear hK K)
     | (with_reducible first | refine then_normal ?_)
     | refine w_exit ?_
     | refine w_ret ?_
     | (with_reducible first | refine s_none ?_ | refine x_assign (h := ?_))
     | fail)
    all_goals try clear fx
    refine e_ret [] .nil (by simp []; rfl) (by simp [this])

theorem equalStmts_fn (gl) (xs ys : List Stm) (hx : xs.length ≤ 1048576) (hy : ys.length ≤ 1048576) : FnOk Try.prog gl 58 [ssl xs, ssl ys] (fun _ z _ => z = bv (decide (xs = ys))) := by
  refine FnOk.of_sem Try.func58 rfl (by kernel_rfl) (rs := [.tmp 4]) rfl Try.ntmps58 (Nat.le_of_ble_eq_true rfl) fun C w g root => ?_
  by_cases hl : xs.length = ys.length
  case neg =>
    have h1 : ((xs.length : Int) == ys.length) = false := by simp; omega
    all_goals have fx := And.intro h1 <| @bne_def
    repeat' (first
     | refine w_seq ?_ | refine w_reg fun K hK => ?_
     | ((with_reducible refine s_end hK ?_); clear hK K)
     | (with_reducible first | refine then_normal ?_ | refine then_ret ?_)
     | refine w_ret ?_
     | (with_reducible first | refine s_none ?_ | refine x_assign (h := ?_))
     | (with_reducible refine x_q (h := ?_))
     | refine x_condt (h1 := ?_)
     | fail)
    all_goals try clear fx
    refine e_ret [] .nil (by simp; rfl) ?_
    have : ¬ xs = ys := fun e => hl (by rw [e])
    simp [this]
  all_goals have fx := And.intro hl <| @bne_def
  repeat' (first
   | refine w_seq ?_ | refine w_block ?_ | refine w_skip ?_ | refine w_reg fun K hK => ?_
   | ((with_reducible refine s_end hK ?_); clear hK K)
   | (with_reducible first | refine then_normal ?_)
   | (with_reducible first | refine s_none ?_ | refine x_assign (h := ?_))
   | (with_reducible refine x_q (h := ?_))
   | refine x_condf (h1 := ?_)
   | fail)
  all_goals try clear fx
  refine w_loop (fun n st => ∃ i : Nat, n = xs.length - i ∧ i ≤ xs.length ∧ st.tm 0 = ssl xs ∧ st.tm 1 = ssl ys ∧ st.tm 5 = iv i ∧ xs.take i = ys.take i) xs.length ?_ ?_
  · exact ⟨0, by simp⟩
  rintro n st - - ⟨i, rfl, hi, h0, h1, h5, heq⟩
  all_goals have fx := And.intro h0 <| h5
  repeat' (first
   | refine w_seq ?_ | refine w_reg fun K hK => ?_
   | ((with_reducible refine s_end hK ?_); clear hK K)
   | (with_reducible first | refine then_normal ?_)
   | (with_reducible first | refine s_none ?_)
   | (with_reducible refine x_q (h := ?_))
   | fail)
  all_goals try clear fx
  refine w_if (by simp []; first | done | rfl | exact (Bool.not_not _).symm) (fun ht => ?_) (fun hf => ?_)
  · have hlt : i < xs.length := by simpa using ht
    obtain ⟨x, hxi⟩ : ∃ x, xs[i]? = some x := ⟨_, List.getElem?_eq_getElem (by omega)⟩
    obtain ⟨y, hyi⟩ : ∃ y, ys[i]? = some y := ⟨_, List.getElem?_eq_getElem (by omega)⟩
    clear ht
    all_goals have fx := And.intro h0 <| And.intro h1 <| And.intro h5 <| And.intro hxi <| hyi
    repeat' (first
     | refine w_seq ?_ | refine w_block ?_ | refine w_skip ?_ | refine w_reg fun K hK => ?_
     | ((with_reducible refine s_end hK ?_); clear hK K)
     | (with_reducible first | refine then_normal ?_ | refine then_ret ?_ | refine in_ret ?_)
     | refine w_ret ?_
     | (with_reducible first | refine s_none ?_ | refine x_assign (h := ?_))
     | (with_reducible refine x_q (h := ?_))
     | (refine w_sch (id := 6) (.q 0 <| .q 1 <| .q 2 <| .q 3 <| .q 4 <| .q 5 <| .q 6 <| .q 7 <| .q 8 <| .done) mixed (by kernel_rfl) (by kernel_rfl) fun K hK => ?_)
     | ((with_reducible refine a_end hK ?_); clear hK K)
     | ((with_reducible refine a_id ?_); first | refine xa_q (h := ?_))
     | refine x_if (h1 := fun ht => ?_) (h2 := fun ht => ?_)
     | fail)
    all_goals try clear fx
    all_goals first
      | (refine e_ret [] .nil (by simp; rfl) ?_
         have hne : ¬ xs = ys := fun e => by rw [e, hyi] at hxi; obtain rfl := Option.some.inj hxi; simp at ht
         simp [hne])
      | (have hxy : x = y := by cases x; cases y; simpa using ht
         refine ⟨xs.length - (i + 1), by omega, i + 1, rfl, by omega, by simp [h0], by simp [h1], by simp; exact wrp (by omega) (by omega), ?_⟩
         rw [List.take_add_one, List.take_add_one, heq, hxi, hyi, hxy])
  · have hge : i = xs.length := by
      have : ¬ i < xs.length := by simpa using hf
      omega
    have : xs = ys := by rw [hge, List.take_length, hl, List.take_length] at heq; exact heq
    all_goals have fx := fx0
    repeat' (first
     | refine w_seq ?_ | refine w_reg fun K hK => ?_
     | ((with_reducible refine s_end hK ?_); clear hK K)
     | (with_reducible first | refine then_normal ?_)
     | refine w_exit ?_
     | refine w_ret ?_
     | (with_reducible first | refine s_none ?_ | refine x_assign (h := ?_))
     | fail)
    all_goals try clear fx
    refine e_ret [] .nil (by simp []; rfl) (by simp [this])

theorem equalProgram_fn (gl) (xs ys : Prg) (hx : Sml xs) (hy : Sml ys) : FnOk Try.prog gl 17 [pav xs, pav ys] (fun _ z _ => z = bv (decide (xs = ys))) := by
  have hxl := hx.len
  have hyl := hy.len
  refine FnOk.of_sem Try.func17 rfl (by kernel_rfl) (rs := [.tmp 4]) rfl Try.ntmps17 (Nat.le_of_ble_eq_true rfl) fun C w g root => ?_
  by_cases hl : xs.length = ys.length
  case neg =>
    have h1 : ((xs.length : Int) == ys.length) = false := by simp; omega
    all_goals have fx := And.intro h1 <| @bne_def
    repeat' (first
     | refine w_seq ?_ | refine w_reg fun K hK => ?_
     | ((with_reducible refine s_end hK ?_); clear hK K)
     | (with_reducible first | refine then_normal ?_ | refine then_ret ?_)
     | refine w_ret ?_
     | (with_reducible refine s_none ?_)
     | (with_reducible first | refine x_assign (h := ?_) | refine x_box (h := ?_))
     | (with_reducible refine x_q (h := ?_))
     | refine x_condt (h1 := ?_)
     | fail)
    all_goals try clear fx
    refine e_ret [] .nil (by simp; rfl) ?_
    have : ¬ xs = ys := fun e => hl (by rw [e])
    simp [this]
  all_goals have fx := And.intro hl <| @bne_def
  repeat' (first
   | refine w_seq ?_ | refine w_block ?_ | refine w_skip ?_ | refine w_reg fun K hK => ?_
   | ((with_reducible refine s_end hK ?_); clear hK K)
   | (with_reducible first | refine then_normal ?_)
   | (with_reducible refine s_none ?_)
   | (with_reducible first | refine x_assign (h := ?_) | refine x_box (h := ?_))
   | (with_reducible refine x_q (h := ?_))
   | refine x_condf (h1 := ?_)
   | fail)
  all_goals try clear fx
  refine w_loop (fun n st => ∃ i : Nat, n = xs.length - i ∧ i ≤ xs.length ∧ st.tm 2 = .pt (.s 2) 0 ∧ st.hp (.s 2) = some (.row 1 [[ksl xs]]) ∧ st.tm 3 = .pt (.s 3) 0 ∧ st.hp (.s 3) = some (.row 1 [[ksl ys]]) ∧ st.tm 5 = iv i ∧ xs.take i = ys.take i) xs.length ?_ ?_
  · exact ⟨0, by simp⟩
  rintro n st - - ⟨i, rfl, hi, h2, hp2, h3, hp3, h5, heq⟩
  all_goals have fx := And.intro h2 <| And.intro hp2 <| h5
  repeat' (first
   | refine w_seq ?_ | refine w_reg fun K hK => ?_
   | ((with_reducible refine s_end hK ?_); clear hK K)
   | (with_reducible first | refine then_normal ?_)
   | (with_reducible refine s_none ?_)
   | (with_reducible refine x_q (h := ?_))
   | fail)
  all_goals try clear fx
  refine w_if (by simp []; first | done | rfl | exact (Bool.not_not _).symm) (fun ht => ?_) (fun hf => ?_)
  · have hlt : i < xs.length := by simpa using ht
    obtain ⟨x, hxi⟩ : ∃ x, xs[i]? = some x := ⟨_, List.getElem?_eq_getElem (by omega)⟩
    obtain ⟨y, hyi⟩ : ∃ y, ys[i]? = some y := ⟨_, List.getElem?_eq_getElem (by omega)⟩
    obtain ⟨hxl', hxE⟩ := List.getElem?_eq_some_iff.1 hxi
    obtain ⟨hyl', hyE⟩ := List.getElem?_eq_some_iff.1 hyi
    have hne : ∀ (P : Prop), ¬ P → (x = y → P) → decide (xs = ys) = false := fun P hP h => decide_eq_false fun e => hP (h (by rw [e, hyi] at hxi; exact (Option.some.inj hxi).symm))
    have h1 := equalInts_fn gl x.params y.params (hx.bsm hxi).params (hy.bsm hyi).params
    have h2' := equalStmts_fn gl x.body y.body (hx.bsm hxi).body (hy.bsm hyi).body
    clear ht
    cases hk : (x.kind == y.kind)
    · skip
      all_goals have fx := And.intro h2 <| And.intro hp2 <| And.intro h3 <| And.intro hp3 <| And.intro h5 <| And.intro hxi <| And.intro hyi <| And.intro hxE <| And.intro hyE <| And.intro hxl' <| And.intro hyl' <| And.intro hk <| @bne_def
      repeat' (first
       | refine w_seq ?_ | refine w_block ?_ | refine w_skip ?_ | refine w_reg fun K hK => ?_
       | ((with_reducible refine s_end hK ?_); clear hK K)
       | (with_reducible first | refine then_normal ?_ | refine then_ret ?_ | refine in_ret ?_)
       | refine w_ret ?_
       | (with_reducible refine s_none ?_)
       | ((with_reducible refine g_id ?_); refine x_guard (h := ?_))
       | (with_reducible first | refine x_ft (h := ?_) | refine x_assign (h := ?_) | refine x_alloc (h := ?_) | refine x_store0 (h := ?_))
       | (with_reducible refine x_q (h := ?_))
       | refine x_condt (h1 := ?_)
       | fail)
      all_goals try clear fx
      refine e_ret [] .nil (by simp; rfl) ?_
      rw [hne (x.kind = y.kind) (by simpa using hk) (fun e => by rw [e])]
      rfl
    cases hpa : (x.parent == y.parent)
    · skip
      all_goals have fx := And.intro h2 <| And.intro hp2 <| And.intro h3 <| And.intro hp3 <| And.intro h5 <| And.intro hxi <| And.intro hyi <| And.intro hxE <| And.intro hyE <| And.intro hxl' <| And.intro hyl' <| And.intro hk <| And.intro hpa <| @bne_def
      repeat' (first
       | refine w_seq ?_ | refine w_block ?_ | refine w_skip ?_ | refine w_reg fun K hK => ?_
       | ((with_reducible refine s_end hK ?_); clear hK K)
       | (with_reducible first | refine then_normal ?_ | refine then_ret ?_ | refine in_ret ?_)
       | refine w_ret ?_
       | (with_reducible refine s_none ?_)
       | ((with_reducible refine g_id ?_); refine x_guard (h := ?_))
       | (with_reducible first | refine gx_ff ?_ | refine x_ft (h := ?_) | refine x_assign (h := ?_) | refine x_alloc (h := ?_) | refine x_store0 (h := ?_))
       | (with_reducible refine x_q (h := ?_))
       | refine x_condt (h1 := ?_)
       | fail)
      all_goals try clear fx
      refine e_ret [] .nil (by simp; rfl) ?_
      rw [hne (x.parent = y.parent) (by simpa using hpa) (fun e => by rw [e])]
      rfl
    cases hps : decide (x.params = y.params)
    · skip
      all_goals have fx := And.intro h2 <| And.intro hp2 <| And.intro h3 <| And.intro hp3 <| And.intro h5 <| And.intro hxi <| And.intro hyi <| And.intro hxE <| And.intro hyE <| And.intro hxl' <| And.intro hyl' <| And.intro hk <| And.intro hpa <| And.intro hps <| @bne_def
      repeat' (first
       | refine w_seq ?_ | refine w_block ?_ | refine w_skip ?_ | refine w_reg fun K hK => ?_
       | ((with_reducible refine s_end hK ?_); clear hK K)
       | (with_reducible first | refine then_normal ?_ | refine then_ret ?_ | refine in_ret ?_)
       | refine w_ret ?_
       | (with_reducible refine s_none ?_)
       | ((with_reducible refine g_id ?_); refine x_guard (h := ?_))
       | (with_reducible first | refine gx_ff ?_ | refine x_ft (h := ?_) | refine x_assign (h := ?_) | refine x_alloc (h := ?_) | refine x_store0 (h := ?_))
       | ((with_reducible refine o_id 57 rfl ?_); refine x_call (hF := h1) (h := ?_))
       | (with_reducible refine x_q (h := ?_))
       | refine x_condt (h1 := ?_)
       | fail)
      all_goals try clear fx
      refine e_ret [] .nil (by simp; rfl) ?_
      rw [hne (x.params = y.params) (by simpa using hps) (fun e => by rw [e])]
      rfl
    cases hbo : decide (x.body = y.body)
    · skip
      all_goals have fx := And.intro h2 <| And.intro hp2 <| And.intro h3 <| And.intro hp3 <| And.intro h5 <| And.intro hxi <| And.intro hyi <| And.intro hxE <| And.intro hyE <| And.intro hxl' <| And.intro hyl' <| And.intro hk <| And.intro hpa <| And.intro hps <| And.intro hbo <| @bne_def
      repeat' (first
       | refine w_seq ?_ | refine w_block ?_ | refine w_skip ?_ | refine w_reg fun K hK => ?_
       | ((with_reducible refine s_end hK ?_); clear hK K)
       | (with_reducible first | refine then_normal ?_ | refine then_ret ?_ | refine in_ret ?_)
       | refine w_ret ?_
       | (with_reducible refine s_none ?_)
       | ((with_reducible refine g_id ?_); refine x_guard (h := ?_))
       | (with_reducible first | refine gx_ff ?_ | refine x_assign (h := ?_) | refine x_alloc (h := ?_) | refine x_store0 (h := ?_))
       | ((with_reducible refine o_id 57 rfl ?_); refine x_call (hF := h1) (h := ?_))
       | ((with_reducible refine o_id 58 rfl ?_); refine x_call (hF := h2') (h := ?_))
       | (with_reducible refine x_q (h := ?_))
       | refine x_condt (h1 := ?_)
       | fail)
      all_goals try clear fx
      refine e_ret [] .nil (by simp; rfl) ?_
      rw [hne (x.body = y.body) (by simpa using hbo) (fun e => by rw [e])]
      rfl
    have hxy : x = y := by
      obtain ⟨a, b, c, d⟩ := x
      obtain ⟨a', b', c', d'⟩ := y
      simp at hk hpa hps hbo
      simp [hk, hpa, hps, hbo]
    all_goals have fx := And.intro h2 <| And.intro hp2 <| And.intro h3 <| And.intro hp3 <| And.intro h5 <| And.intro hxi <| And.intro hyi <| And.intro hxE <| And.intro hyE <| And.intro hxl' <| And.intro hyl' <| And.intro hk <| And.intro hpa <| And.intro hps <| And.intro hbo <| @bne_def
    repeat' (first
     | refine w_seq ?_ | refine w_block ?_ | refine w_skip ?_ | refine w_reg fun K hK => ?_
     | ((with_reducible refine s_end hK ?_); clear hK K)
     | (with_reducible first | refine then_normal ?_)
     | (with_reducible refine s_none ?_)
     | ((with_reducible refine g_id ?_); refine x_guard (h := ?_))
     | (with_reducible first | refine gx_ff ?_ | refine x_assign (h := ?_) | refine x_alloc (h := ?_) | refine x_store0 (h := ?_))
     | ((with_reducible refine o_id 57 rfl ?_); refine x_call (hF := h1) (h := ?_))
     | ((with_reducible refine o_id 58 rfl ?_); refine x_call (hF := h2') (h := ?_))
     | (with_reducible refine x_q (h := ?_))
     | refine x_condf (h1 := ?_)
     | fail)
    all_goals try clear fx
    refine ⟨xs.length - (i + 1), by omega, i + 1, rfl, by omega, by simp [h2], by simp [hp2], by simp [h3], by simp [hp3], by simp; exact wrp (by omega) (by omega), ?_⟩
    rw [List.take_add_one, List.take_add_one, heq, hxi, hyi, hxy]
  · have hge : i = xs.length := by
      have : ¬ i < xs.length := by simpa using hf
      omega
    have : xs = ys := by rw [hge, List.take_length, hl, List.take_length] at heq; exact heq
    all_goals have fx := fx0
    repeat' (first
     | refine w_seq ?_ | refine w_reg fun K hK => ?_
     | ((with_reducible refine s_end hK ?_); clear hK K)
     | (with_reducible first | refine then_normal ?_)
     | refine w_exit ?_
     | refine w_ret ?_
     | (with_reducible refine s_none ?_)
     | (with_reducible first | refine x_assign (h := ?_))
     | fail)
    all_goals try clear fx
    refine e_ret [] .nil (by simp []; rfl) (by simp [this])

theorem isIn_fn (gl) (xs : List Int) (x : Int) (hx : xs.length ≤ 1048576) : FnOk Try.prog gl 18 [isl xs, iv x] (fun _ z _ => z = bv (decide (x ∈ xs))) := by
  refine FnOk.of_sem Try.func18 rfl (by kernel_rfl) (rs := [.tmp 4]) rfl Try.ntmps18 (Nat.le_of_ble_eq_true rfl) fun C w g root => ?_
  all_goals have fx := fx0
  repeat' (first
   | refine w_seq ?_ | refine w_block ?_ | refine w_reg fun K hK => ?_
   | ((with_reducible refine s_end hK ?_); clear hK K)
   | (with_reducible first | refine s_none ?_ | refine x_assign (h := ?_))
   | fail)
  all_goals try clear fx
  refine w_loop (fun n st => ∃ i : Nat, n = xs.length - i ∧ i ≤ xs.length ∧ st.tm 0 = isl xs ∧ st.tm 1 = iv x ∧ st.tm 5 = iv i ∧ x ∉ xs.take i) xs.length ?_ ?_
  · exact ⟨0, by simp⟩
  rintro n st - - ⟨i, rfl, hi, h0, h1, h5, hno⟩
  all_goals have fx := And.intro h0 <| h5
  repeat' (first
   | refine w_seq ?_ | refine w_reg fun K hK => ?_
   | ((with_reducible refine s_end hK ?_); clear hK K)
   | (with_reducible first | refine then_normal ?_)
   | (with_reducible first | refine s_none ?_)
   | (with_reducible refine x_q (h := ?_))
   | fail)
  all_goals try clear fx
  refine w_if (by simp []; first | done | rfl | exact (Bool.not_not _).symm) (fun ht => ?_) (fun hf => ?_)
  · have hlt : i < xs.length := by simpa using ht
    obtain ⟨u, hu⟩ : ∃ u, xs[i]? = some u := ⟨_, List.getElem?_eq_getElem hlt⟩
    obtain ⟨_, huE⟩ := List.getElem?_eq_some_iff.1 hu
    clear ht
    cases hux : (u == x)
    · have hne : ¬ u = x := by simpa using hux
      all_goals have fx := And.intro h0 <| And.intro h1 <| And.intro h5 <| And.intro hu <| And.intro huE <| And.intro hlt <| hux
      repeat' (first
       | refine w_seq ?_ | refine w_block ?_ | refine w_skip ?_ | refine w_reg fun K hK => ?_
       | ((with_reducible refine s_end hK ?_); clear hK K)
       | (with_reducible first | refine then_normal ?_)
       | (with_reducible first | refine s_none ?_ | refine x_assign (h := ?_))
       | (with_reducible refine x_q (h := ?_))
       | refine x_condf (h1 := ?_)
       | fail)
      all_goals try clear fx
      refine ⟨xs.length - (i + 1), by omega, i + 1, rfl, by omega, by simp [h0], by simp [h1], by simp; exact wrp (by omega) (by omega), ?_⟩
      rw [List.take_add_one, hu]
      simp only [Option.toList_some, List.mem_append, List.mem_singleton, not_or]
      exact ⟨hno, fun e => hne e.symm⟩
    · have he : u = x := by simpa using hux
      have hm : x ∈ xs := he ▸ List.mem_of_getElem? hu
      all_goals have fx := And.intro h0 <| And.intro h1 <| And.intro h5 <| And.intro hu <| And.intro huE <| And.intro hlt <| hux
      repeat' (first
       | refine w_seq ?_ | refine w_block ?_ | refine w_skip ?_ | refine w_reg fun K hK => ?_
       | ((with_reducible refine s_end hK ?_); clear hK K)
       | (with_reducible first | refine then_normal ?_ | refine then_ret ?_ | refine in_ret ?_)
       | refine w_ret ?_
       | (with_reducible first | refine s_none ?_ | refine x_assign (h := ?_))
       | (with_reducible refine x_q (h := ?_))
       | refine x_condt (h1 := ?_)
       | fail)
      all_goals try clear fx
      refine e_ret [] .nil (by simp; rfl) ?_
      simp [hm]
  · have hge : i = xs.length := by
      have : ¬ i < xs.length := by simpa using hf
      omega
    rw [hge, List.take_length] at hno
    all_goals have fx := fx0
    repeat' (first
     | refine w_seq ?_ | refine w_reg fun K hK => ?_
     | ((with_reducible refine s_end hK ?_); clear hK K)
     | (with_reducible first | refine then_normal ?_)
     | refine w_exit ?_
     | refine w_ret ?_
     | (with_reducible first | refine s_none ?_ | refine x_assign (h := ?_))
     | fail)
    all_goals try clear fx
    refine e_ret [] .nil (by simp; rfl) ?_
    simp [hno]

theorem isInside_fn (gl) (p : Prg) (c b : Nat) (hs : Sml p) (hh : Heads p) (hc : c < p.length) : FnOk Try.prog gl 60 [pav p, iv c, iv b] (fun _ z _ => z = bv (inside p c b)) := by
  refine FnOk.of_sem Try.func60 rfl (by kernel_rfl) (rs := [.tmp 6]) rfl Try.ntmps60 (Nat.le_of_ble_eq_true rfl) fun C w g root => ?_
  all_goals have fx := fx0
  repeat' (first
   | refine w_seq ?_ | refine w_block ?_ | refine w_reg fun K hK => ?_
   | ((with_reducible refine s_end hK ?_); clear hK K)
   | (with_reducible first | refine s_none ?_ | refine x_assign (h := ?_) | refine x_box (h := ?_))
   | fail)
  all_goals try clear fx
  refine w_loop (fun n st => ∃ j : Int, n = (j + 1).toNat ∧ -1 ≤ j ∧ j < p.length ∧ inside p j b = inside p c b ∧ st.tm 1 = iv j ∧ st.tm 2 = iv b ∧ st.tm 3 = .pt (.s 3) 0 ∧ st.hp (.s 3) = some (.row 1 [[ksl p]])) (c + 1) ?_ ?_
  · exact ⟨c, by omega, by omega, by omega, rfl, by simp⟩
  rintro n st - - ⟨j, rfl, hj1, hj2, ho, h1, h2, h3, hp3⟩
  all_goals have fx := And.intro h1 <| And.intro h2 <| And.intro h3 <| hp3
  repeat' (first
   | refine w_seq ?_ | refine w_reg fun K hK => ?_
   | ((with_reducible refine s_end hK ?_); clear hK K)
   | (with_reducible first | refine then_normal ?_)
   | (with_reducible first | refine s_none ?_)
   | (with_reducible refine x_q (h := ?_))
   | fail)
  all_goals try clear fx
  refine w_if (by simp []; first | done | rfl | exact (Bool.not_not _).symm) (fun ht => ?_) (fun hf => ?_)
  · have hj0 : (b : Int) < j := by simpa using ht
    obtain ⟨j, rfl⟩ : ∃ i : Nat, j = i := ⟨j.toNat, by omega⟩
    obtain ⟨q, hq⟩ : ∃ q, p[j]? = some q := ⟨_, List.getElem?_eq_getElem (by omega)⟩
    obtain ⟨hq1, hq2, _⟩ := hh j q hq
    all_goals have fx := And.intro h1 <| And.intro h2 <| And.intro h3 <| And.intro hp3 <| hq
    repeat' (first
     | refine w_block ?_ | refine w_skip ?_ | refine w_reg fun K hK => ?_
     | ((with_reducible refine s_end hK ?_); clear hK K)
     | (with_reducible first | refine then_normal ?_ | refine in_normal ?_)
     | (with_reducible first | refine s_none ?_ | refine x_assign (h := ?_))
     | (with_reducible refine x_q (h := ?_))
     | fail)
    all_goals try clear fx
    refine ⟨(q.parent + 1).toNat, by omega, q.parent, rfl, hq1, by omega, ?_, by simp [h2, h3, hp3]⟩
    rw [← ho, inside_step hh (by omega) hq hj0]
  · have hj : j ≤ b := by simpa using hf
    all_goals have fx := And.intro h1 <| h2
    repeat' (first
     | refine w_seq ?_ | refine w_reg fun K hK => ?_
     | ((with_reducible refine s_end hK ?_); clear hK K)
     | (with_reducible first | refine then_normal ?_)
     | refine w_exit ?_
     | refine w_ret ?_
     | (with_reducible first | refine s_none ?_ | refine x_assign (h := ?_))
     | (with_reducible refine x_q (h := ?_))
     | fail)
    all_goals try clear fx
    rw [inside_end hj] at ho
    refine e_ret [] .nil (by simp; rfl) ?_
    rw [← ho]
    rfl

/-- the blocks inside of a block, ahead of n -/
def insTo (p : Prg) (b : Int) : Nat → List Int
  | 0 => []
  | n + 1 => if inside p n b = true then insTo p b n ++ [(n : Int)] else insTo p b n
theorem insTo_len {p : Prg} {b : Int} : ∀ n : Nat, (insTo p b n).length ≤ n
  | 0 => by simp [insTo]
  | n + 1 => by
    have := insTo_len (p := p) (b := b) n
    simp only [insTo]
    split <;> simp <;> omega
theorem mem_insTo {p : Prg} {b : Int} {c : Nat} : ∀ {n : Nat}, (c : Int) ∈ insTo p b n ↔ c < n ∧ inside p c b = true
  | 0 => by simp [insTo]
  | n + 1 => by
    simp only [insTo]
    split
    · rename_i h
      simp only [List.mem_append, mem_insTo (n := n), List.mem_singleton]
      constructor
      · rintro (h' | h')
        · exact ⟨by omega, h'.2⟩
        · obtain rfl : c = n := by omega
          exact ⟨by omega, h⟩
      · rintro ⟨h1, h2⟩
        by_cases e : c = n
        · exact .inr (by omega)
        · exact .inl ⟨by omega, h2⟩
    · rename_i h
      rw [mem_insTo (n := n)]
      constructor
      · rintro ⟨h1, h2⟩; exact ⟨by omega, h2⟩
      · rintro ⟨h1, h2⟩
        by_cases e : c = n
        · subst e; exact absurd h2 h
        · exact ⟨by omega, h2⟩
theorem InsideOf_fn (gl) (p : Prg) (b : Nat) (hs : Sml p) (hp : ShapeP p) (hsh : shapeOk p = true) (hb : b < p.length) : FnOk Try.prog gl 19 [pav p, iv b] (fun r z H' => z = .hs r 1 0 (insTo p b p.length).length ∧ H' r = some (.row 1 (irows (insTo p b p.length)))) := by
  have hl7 := hp.len
  refine FnOk.of_sem Try.func19 rfl (by kernel_rfl) (rs := [.tmp 4]) rfl Try.ntmps19 (Nat.le_of_ble_eq_true rfl) fun C w g root => ?_
  all_goals have fx := And.intro hsh <| hb
  repeat' (first
   | refine w_seq ?_ | refine w_block ?_ | refine w_skip ?_ | refine w_reg fun K hK => ?_
   | ((with_reducible refine s_end hK ?_); clear hK K)
   | (with_reducible first | refine then_normal ?_)
   | (with_reducible refine s_none ?_)
   | ((with_reducible refine g_id ?_); refine x_guard (h := ?_))
   | (with_reducible first | refine gx_ff ?_ | refine x_assign (h := ?_) | refine x_box (h := ?_))
   | ((with_reducible refine o_id 59 rfl ?_); refine x_call (hF := impl_ValidShape_fn _ p hs) (h := ?_))
   | ((with_reducible refine o_id 48 rfl ?_); refine x_call (hF := impl_isBlock_fn _ p b) (h := ?_))
   | (with_reducible refine x_q (h := ?_))
   | refine x_condf (h1 := ?_)
   | fail)
  all_goals try clear fx
  refine w_loop (fun n st => ∃ i : Nat, n = p.length - i ∧ i ≤ p.length ∧ st.tm 1 = iv b ∧ st.tm 2 = .pt (.s 2) 0 ∧ st.hp (.s 2) = some (.row 1 [[ksl p]]) ∧ st.tm 18 = iv p.length ∧ st.tm 19 = iv i ∧ st.tm 5 = .hs (.s 5) 1 0 (insTo p b i).length ∧ st.hp (.s 5) = some (.row 1 (irows (insTo p b i)))) p.length ?_ ?_
  · exact ⟨0, by omega, by omega, by simp, by simp, by simp, by simp, by simp, by simp [insTo], by simp [insTo]⟩
  rintro n st - - ⟨i, rfl, hi, h1, h2, hp2, h18, h19, h5, hp5⟩
  all_goals have fx := And.intro h18 <| h19
  repeat' (first
   | refine w_seq ?_ | refine w_reg fun K hK => ?_
   | ((with_reducible refine s_end hK ?_); clear hK K)
   | (with_reducible refine s_none ?_)
   | (with_reducible refine x_q (h := ?_))
   | fail)
  all_goals try clear fx
  refine w_if (by simp []; first | done | rfl | exact (Bool.not_not _).symm) (fun ht => ?_) (fun hf => ?_)
  · have hlt : i < p.length := by simpa using ht
    have hil := insTo_len (p := p) (b := (b : Int)) i
    clear ht
    cases hin : inside p i b
    · have he : insTo p b (i + 1) = insTo p b i := by simp [insTo, hin]
      all_goals have fx := And.intro h1 <| And.intro h2 <| And.intro hp2 <| And.intro h19 <| hin
      repeat' (first
       | refine w_seq ?_ | refine w_block ?_ | refine w_skip ?_ | refine w_reg fun K hK => ?_
       | ((with_reducible refine s_end hK ?_); clear hK K)
       | (with_reducible first | refine then_normal ?_)
       | (with_reducible refine s_none ?_)
       | (with_reducible first | refine x_assign (h := ?_))
       | ((with_reducible refine o_id 60 rfl ?_); refine x_call (hF := isInside_fn _ p i b hs hp.heads hlt) (h := ?_))
       | (with_reducible refine x_q (h := ?_))
       | refine x_condf (h1 := ?_)
       | fail)
      all_goals try clear fx
      exact ⟨p.length - (i + 1), by omega, i + 1, rfl, by omega, by simp [h1], by simp [h2], by simp [hp2], by simp [h18], by simp; exact wrp (by omega) (by omega), by simp [he, h5], by simp [he, hp5]⟩
    · have he : insTo p b (i + 1) = insTo p b i ++ [(i : Int)] := by simp [insTo, hin]
      generalize hL : insTo p b i = L at h5 hp5 he hil
      all_goals have fx := And.intro h1 <| And.intro h2 <| And.intro hp2 <| And.intro h19 <| And.intro hin <| And.intro h5 <| hp5
      repeat' (first
       | refine w_seq ?_ | refine w_block ?_ | refine w_skip ?_ | refine w_reg fun K hK => ?_
       | ((with_reducible refine s_end hK ?_); clear hK K)
       | (with_reducible first | refine then_normal ?_)
       | (with_reducible refine s_none ?_)
       | (with_reducible first | refine x_assign (h := ?_) | refine x_append (T := 41) (h := ?_) | refine x_build (h := ?_))
       | ((with_reducible refine o_id 60 rfl ?_); refine x_call (hF := isInside_fn _ p i b hs hp.heads hlt) (h := ?_))
       | (with_reducible refine x_q (h := ?_))
       | refine x_condt (h1 := ?_)
       | fail)
      all_goals try clear fx
      refine ⟨p.length - (i + 1), by omega, i + 1, rfl, by omega, by simp [h1], by simp [h2], by simp [hp2], by simp [h18], by simp; exact wrp (by omega) (by omega), by simp [he], ?_⟩
      rw [he]
      simp [hp5, irows]
  · have hge : i = p.length := by
      have : ¬ i < p.length := by simpa using hf
      omega
    subst hge
    all_goals have fx := And.intro h5 <| hp5
    repeat' (first
     | refine w_seq ?_ | refine w_reg fun K hK => ?_
     | ((with_reducible refine s_end hK ?_); clear hK K)
     | (with_reducible first | refine then_normal ?_)
     | refine w_exit ?_
     | refine w_ret ?_
     | (with_reducible refine s_none ?_)
     | (with_reducible first | refine x_assign (h := ?_))
     | (with_reducible refine x_q (h := ?_))
     | fail)
    all_goals try clear fx
    exact e_list (t := 4) (by first | (simp [hp5]; done) | (simp [hp5]; rfl)) (by first | (simp [hp5]; done) | (simp [hp5]; rfl)) (by simp)
end Go.Proofs.Ytopgafhjmbfaoaa
end

section
/-
  The program's names that a block uses, as a list.
-/
set_option maxRecDepth 100000
set_option maxHeartbeats 1000000
set_option linter.unusedSimpArgs false
namespace Go.Proofs.Ytopgafhjmbfaoaa
open Go Go.Hm Go.Proofs

theorem sortedTo_congr {l l' : List Int} (h : ∀ x : Int, 0 ≤ x → x ≤ 7 → (x ∈ l ↔ x ∈ l')) : ∀ n : Nat, n ≤ 8 → sortedTo l n = sortedTo l' n
  | 0, _ => rfl
  | n + 1, hn => by
    simp only [sortedTo]
    rw [sortedTo_congr h n (by omega)]
    have := h n (by omega) (by omega)
    by_cases e : (n : Int) ∈ l
    · rw [if_pos e, if_pos (this.1 e)]
    · rw [if_neg e, if_neg (fun e' => e (this.2 e'))]
theorem sorted_congr {l l' : List Int} (h : ∀ x : Int, 0 ≤ x → x ≤ 7 → (x ∈ l ↔ x ∈ l')) : sorted l = sorted l' := sortedTo_congr h 8 (Nat.le_refl _)
theorem bset_same {l : List Int} {x : Nat} (h : x < 8) (hx : (x : Int) ∉ l) : (bset l).take x ++ bv false :: (bset l).drop (x + 1) = bset l := by
  have hl : x < (bset l).length := by simp; omega
  have hset := List.set_eq_take_append_cons_drop (l := bset l) (i := x) (a := bv false)
  rw [if_pos hl] at hset
  rw [← hset]
  apply List.ext_getElem?
  intro i
  rw [List.getElem?_set]
  by_cases e : x = i
  · subst e
    rw [if_pos rfl, if_pos hl, bset_get h]
    simp [hx]
  · rw [if_neg e]

theorem list_fn (gl) (l : List Int) : FnOk Try.prog gl 61 [.agg (bset l)] (fun r z H' => z = .hs r 1 0 (sorted l).length ∧ H' r = some (.row 1 (irows (sorted l)))) := by
  refine FnOk.of_sem Try.func61 rfl (by kernel_rfl) (rs := [.tmp 2]) rfl Try.ntmps61 (Nat.le_of_ble_eq_true rfl) fun C w g root => ?_
  all_goals have fx := fx0
  repeat' (first
   | refine w_seq ?_ | refine w_block ?_ | refine w_reg fun K hK => ?_
   | ((with_reducible refine s_end hK ?_); clear hK K)
   | (with_reducible first | refine s_none ?_ | refine x_assign (h := ?_) | refine x_box (h := ?_))
   | (with_reducible refine x_q (h := ?_))
   | fail)
  all_goals try clear fx
  refine w_loop (fun n st => ∃ x : Nat, n = 8 - x ∧ x ≤ 8 ∧ st.tm 6 = .agg (bset l) ∧ st.tm 7 = iv x ∧ st.tm 3 = .hs (.s 3) 1 0 (sortedTo l x).length ∧ st.hp (.s 3) = some (.row 1 (irows (sortedTo l x))) ∧ (sortedTo l x).length ≤ x) 8 ?_ ?_
  · exact ⟨0, by omega, by omega, by simp, by simp, by simp [sortedTo], by simp [sortedTo], by simp [sortedTo]⟩
  rintro n st - - ⟨x, rfl, hx, h6, h7, h3, hp3, hle⟩
  all_goals have fx :=  h7
  repeat' (first
   | refine w_seq ?_ | refine w_reg fun K hK => ?_
   | ((with_reducible refine s_end hK ?_); clear hK K)
   | (with_reducible first | refine s_none ?_)
   | (with_reducible refine x_q (h := ?_))
   | fail)
  all_goals try clear fx
  refine w_if (by simp []; first | done | rfl | exact (Bool.not_not _).symm) (fun ht => ?_) (fun hf => ?_)
  · have hx8' : (x : Int) < 8 := by simpa using ht
    have hx8 : x < 8 := by omega
    have hbg := bset_get (l := l) hx8
    obtain ⟨hbl, hbE⟩ := List.getElem?_eq_some_iff.1 hbg
    clear ht
    by_cases hm : (x : Int) ∈ l
    · have he : sortedTo l (x + 1) = sortedTo l x ++ [(x : Int)] := by simp [sortedTo, hm]
      generalize hL : sortedTo l x = L at h3 hp3 he hle
      all_goals have fx := And.intro h6 <| And.intro h7 <| And.intro hbg <| And.intro hbE <| And.intro hx8 <| And.intro hx8' <| And.intro hm <| And.intro h3 <| hp3
      repeat' (first
       | refine w_seq ?_ | refine w_block ?_ | refine w_skip ?_ | refine w_reg fun K hK => ?_
       | ((with_reducible refine s_end hK ?_); clear hK K)
       | (with_reducible first | refine then_normal ?_)
       | (with_reducible first | refine s_none ?_ | refine x_assign (h := ?_) | refine x_append (T := 41) (h := ?_) | refine x_build (h := ?_))
       | (with_reducible refine x_q (h := ?_))
       | refine x_condt (h1 := ?_)
       | fail)
      all_goals try clear fx
      refine ⟨8 - (x + 1), by omega, x + 1, rfl, by omega, by simp [h6], by simp; exact wrp (by omega) (by omega), by simp [he], ?_, by simp [he]; omega⟩
      rw [he]
      simp [hp3, irows]
    · have he : sortedTo l (x + 1) = sortedTo l x := by simp [sortedTo, hm]
      all_goals have fx := And.intro h6 <| And.intro h7 <| And.intro hbg <| And.intro hbE <| And.intro hx8 <| And.intro hx8' <| hm
      repeat' (first
       | refine w_seq ?_ | refine w_block ?_ | refine w_skip ?_ | refine w_reg fun K hK => ?_
       | ((with_reducible refine s_end hK ?_); clear hK K)
       | (with_reducible first | refine then_normal ?_)
       | (with_reducible first | refine s_none ?_ | refine x_assign (h := ?_))
       | (with_reducible refine x_q (h := ?_))
       | refine x_condf (h1 := ?_)
       | fail)
      all_goals try clear fx
      exact ⟨8 - (x + 1), by omega, x + 1, rfl, by omega, by simp [h6], by simp; exact wrp (by omega) (by omega), by simp [he, h3], by simp [he, hp3], by rw [he]; omega⟩
  · have hge : x = 8 := by
      have : ¬ (x : Int) < 8 := by simpa using hf
      omega
    subst hge
    all_goals have fx := And.intro h3 <| hp3
    repeat' (first
     | refine w_seq ?_ | refine w_reg fun K hK => ?_
     | ((with_reducible refine s_end hK ?_); clear hK K)
     | (with_reducible first | refine then_normal ?_)
     | refine w_exit ?_
     | refine w_ret ?_
     | (with_reducible first | refine s_none ?_ | refine x_assign (h := ?_))
     | (with_reducible refine x_q (h := ?_))
     | fail)
    all_goals try clear fx
    exact e_list (t := 2) (by first | (simp [hp3]; done) | (simp [hp3]; rfl)) (by first | (simp [hp3]; done) | (simp [hp3]; rfl)) (by simp)

theorem UsedIn_fn (gl) (p : Prg) (b : Nat) (k : Blk) (hk : p[b]? = some k) (hs : Sml p) (hv : progOk p = true) : FnOk Try.prog gl 20 [pav p, iv b] (fun r z H' => z = .hs r 1 0 k.us.length ∧ H' r = some (.row 1 (irows k.us))) := by
  have hsh : shapeOk p = true := by
    simp only [progOk, Bool.and_eq_true] at hv
    exact hv.1
  have hp := ShapeP.of hs hsh
  have hh := hp.heads
  have hl7 := hp.len
  obtain ⟨hbl, _⟩ := List.getElem?_eq_some_iff.1 hk
  have hsg := sRows_at (n := .s 18) hbl
  obtain ⟨_, hse⟩ := List.getElem?_eq_some_iff.1 hsg
  have hus : sorted (sortedTo k.us 8) = k.us := by
    have h1 : sorted (sortedTo k.us 8) = sorted (k.rd ++ k.bd ++ k.dc 9 ++ k.dc 10) := sorted_congr fun x h1 h2 => by
      rw [mem_sortedTo, Blk.us, Go.Hm.mem_sorted]
      exact ⟨fun h => h.1.1, fun h => ⟨⟨h, h1, h2⟩, h1, by omega⟩⟩
    rw [h1, Blk.us]
  refine FnOk.of_sem Try.func20 rfl (by kernel_rfl) (rs := [.tmp 4]) rfl Try.ntmps20 (Nat.le_of_ble_eq_true rfl) fun C w g root => ?_
  all_goals have fx := And.intro hv <| hbl
  repeat' (first
   | refine w_seq ?_ | refine w_skip ?_ | refine w_reg fun K hK => ?_
   | ((with_reducible refine s_end hK ?_); clear hK K)
   | (with_reducible first | refine then_normal ?_)
   | (with_reducible refine s_none ?_)
   | ((with_reducible refine g_id ?_); refine x_guard (h := ?_))
   | (with_reducible first | refine gx_ff ?_ | refine x_assign (h := ?_) | refine x_box (h := ?_) | refine x_alloc (h := ?_))
   | ((with_reducible refine o_id 30 rfl ?_); refine x_call (hF := impl_ValidProgram_fn _ p hs) (h := ?_))
   | ((with_reducible refine o_id 48 rfl ?_); refine x_call (hF := impl_isBlock_fn _ p b) (h := ?_))
   | ((with_reducible refine o_id 32 rfl ?_); refine x_callg (hF := scopesOf_fn _ p hs hh hp.names) (h := ?_))
   | (with_reducible refine x_q (h := ?_))
   | refine x_condf (h1 := ?_)
   | fail)
  all_goals try clear fx
  rintro z H' ⟨rfl, hO⟩
  obtain ⟨hc1, hc2⟩ := hO.hcln
  refine ⟨by simp, ?_⟩
  all_goals have fx := And.intro hc1 <| And.intro hsg <| And.intro hse <| hbl
  repeat' (first
   | refine w_seq ?_ | refine w_block ?_ | refine w_reg fun K hK => ?_
   | ((with_reducible refine s_end hK ?_); clear hK K)
   | (with_reducible refine s_none ?_)
   | (with_reducible first | refine x_assign (h := ?_))
   | (with_reducible refine x_q (h := ?_))
   | fail)
  all_goals try clear fx
  refine w_loop (fun n st => ∃ x : Nat, n = 8 - x ∧ x ≤ 8 ∧ st.tm 5 = .pt (.s 5) 0 ∧ st.hp (.s 5) = some (.row 8 [bset (sortedTo k.us x)]) ∧ st.tm 6 = .pt (.c (.s 18) b 0) 0 ∧ OwnS st.hp (.s 18) p p.length ∧ st.tm 22 = iv x) 8 ?_ ?_
  · exact ⟨0, by omega, by omega, by simp, by simp; rfl, by simp, ⟨by simp [hc1], fun j k hj hk => by simp [hc2 j k hj hk]⟩, by simp⟩
  clear hc1 hc2 hO
  rintro n st - - ⟨x, rfl, hx, h5, hp5, h6, ⟨hc1, hc2⟩, h22⟩
  all_goals have fx :=  h22
  repeat' (first
   | refine w_seq ?_ | refine w_reg fun K hK => ?_
   | ((with_reducible refine s_end hK ?_); clear hK K)
   | (with_reducible refine s_none ?_)
   | (with_reducible refine x_q (h := ?_))
   | fail)
  all_goals try clear fx
  refine w_if (by simp []; first | done | rfl | exact (Bool.not_not _).symm) (fun ht => ?_) (fun hf => ?_)
  · have hx8' : (x : Int) < 8 := by simpa using ht
    have hx8 : x < 8 := by omega
    clear ht
    by_cases hm : (x : Int) ∈ k.us
    · have he : sortedTo k.us (x + 1) = sortedTo k.us x ++ [(x : Int)] := by simp [sortedTo, hm]
      all_goals have fx := And.intro h5 <| And.intro hp5 <| And.intro h6 <| And.intro h22 <| And.intro hx8 <| And.intro hx8' <| hm
      repeat' (first
       | refine w_seq ?_ | refine w_block ?_ | refine w_skip ?_ | refine w_reg fun K hK => ?_
       | ((with_reducible refine s_end hK ?_); clear hK K)
       | (with_reducible first | refine then_normal ?_)
       | (with_reducible refine s_none ?_)
       | (with_reducible first | refine x_assign (h := ?_) | refine x_store0 (h := ?_))
       | ((with_reducible refine o_id 51 rfl ?_); refine x_call (hB := (by first | ((repeat' (first | exact .nil | refine .cons ?_ ?_ | exact .refl _ | exact bw_ints (by simp [fx]; first | done | rfl) (by first | (simp [fx]; done) | (simp [fx]; omega) | omega) | exact bw_list (by simp [fx]; first | done | rfl) (by first | (simp [fx]; done) | (simp [fx]; omega) | omega) (by first | (simp; done) | fail) | exact bw_sc (n := .s 18) (p := p) (k := k) ⟨by simp [hc1], fun j k hj hk => by simp [hc2 j k hj hk]⟩ hh hk)); done) | fail)) (hF := uses_fn' _ p b k x hx8) (h := ?_))
       | (with_reducible refine x_q (h := ?_))
       | fail)
      all_goals try clear fx
      refine ⟨8 - (x + 1), by omega, x + 1, rfl, by omega, by simp [h5], ?_, by simp [h6], ⟨by simp [hc1], fun j k hj hk => by simp [hc2 j k hj hk]⟩, by simp; exact wrp (by omega) (by omega)⟩
      rw [he]
      simp [← bset_add (l := sortedTo k.us x) (y := (x : Int)) rfl hx8]
    · have he : sortedTo k.us (x + 1) = sortedTo k.us x := by simp [sortedTo, hm]
      have hno : (x : Int) ∉ sortedTo k.us x := fun h => by
        rw [mem_sortedTo] at h
        omega
      all_goals have fx := And.intro h5 <| And.intro hp5 <| And.intro h6 <| And.intro h22 <| And.intro hx8 <| And.intro hx8' <| hm
      repeat' (first
       | refine w_seq ?_ | refine w_block ?_ | refine w_skip ?_ | refine w_reg fun K hK => ?_
       | ((with_reducible refine s_end hK ?_); clear hK K)
       | (with_reducible first | refine then_normal ?_)
       | (with_reducible refine s_none ?_)
       | (with_reducible first | refine x_assign (h := ?_) | refine x_store0 (h := ?_))
       | ((with_reducible refine o_id 51 rfl ?_); refine x_call (hB := (by first | ((repeat' (first | exact .nil | refine .cons ?_ ?_ | exact .refl _ | exact bw_ints (by simp [fx]; first | done | rfl) (by first | (simp [fx]; done) | (simp [fx]; omega) | omega) | exact bw_list (by simp [fx]; first | done | rfl) (by first | (simp [fx]; done) | (simp [fx]; omega) | omega) (by first | (simp; done) | fail) | exact bw_sc (n := .s 18) (p := p) (k := k) ⟨by simp [hc1], fun j k hj hk => by simp [hc2 j k hj hk]⟩ hh hk)); done) | fail)) (hF := uses_fn' _ p b k x hx8) (h := ?_))
       | (with_reducible refine x_q (h := ?_))
       | fail)
      all_goals try clear fx
      refine ⟨8 - (x + 1), by omega, x + 1, rfl, by omega, by simp [h5], ?_, by simp [h6], ⟨by simp [hc1], fun j k hj hk => by simp [hc2 j k hj hk]⟩, by simp; exact wrp (by omega) (by omega)⟩
      rw [he]
      simp [bset_same hx8 hno]
  · have hge : x = 8 := by
      have : ¬ (x : Int) < 8 := by simpa using hf
      omega
    subst hge
    all_goals have fx := And.intro h5 <| hp5
    repeat' (first
     | refine w_seq ?_ | refine w_reg fun K hK => ?_
     | ((with_reducible refine s_end hK ?_); clear hK K)
     | (with_reducible first | refine then_normal ?_)
     | refine w_exit ?_
     | refine w_ret ?_
     | (with_reducible refine s_none ?_)
     | (with_reducible first | refine x_assign (h := ?_))
     | ((with_reducible refine o_id 61 rfl ?_); refine x_callh (hF := list_fn _ (sortedTo k.us 8)) (h := ?_))
     | (with_reducible refine x_q (h := ?_))
     | fail)
    all_goals try clear fx
    rw [hus]
    exact e_list (t := 4) (by first | (simp []; done) | (simp []; rfl)) (by first | (simp []; done) | (simp []; rfl)) (by simp)
end Go.Proofs.Ytopgafhjmbfaoaa
end

section
/-
  The reference's list of the blocks that use a function's name: what it is.
-/
set_option maxRecDepth 100000
set_option maxHeartbeats 1000000
set_option linter.unusedSimpArgs false
namespace Go.Proofs.Ytopgafhjmbfaoaa
open Go Go.Hm Go.Proofs

theorem touched_fn (gl) (p : Prg) (b : Nat) (x : Int) (hs : Sml p) (hh : Heads p) : FnOk Try.prog gl 45 [pav p, iv b, iv x] (fun r y H' => y = .hs r 1 0 (touched p b x).length ∧ H' r = some (.row 1 (irows (touched p b x)))) := by
  have hpl := hs.len
  refine FnOk.of_sem Try.func45 rfl (by kernel_rfl) (rs := [.tmp 6]) rfl Try.ntmps45 (Nat.le_of_ble_eq_true rfl) fun C w g root => ?_
  all_goals have fx := fx0
  repeat' (first
   | refine w_seq ?_ | refine w_block ?_ | refine w_reg fun K hK => ?_
   | ((with_reducible refine s_end hK ?_); clear hK K)
   | (with_reducible refine s_none ?_)
   | (with_reducible first | refine x_assign (h := ?_) | refine x_box (h := ?_) | refine x_build (h := ?_))
   | fail)
  all_goals try clear fx
  refine w_loop (fun n st => ∃ i : Nat, n = p.length - i ∧ i ≤ p.length ∧ st.tm 1 = iv b ∧ st.tm 2 = iv x ∧ st.tm 3 = .pt (.s 3) 0 ∧ st.hp (.s 3) = some (.row 1 [[ksl p]]) ∧ st.tm 8 = iv i ∧ st.tm 7 = .hs (.s 7) 1 0 (touchTo p b x i).length ∧ st.hp (.s 7) = some (.row 1 (irows (touchTo p b x i)))) p.length ?_ ?_
  · exact ⟨0, by simp [touchTo]⟩
  rintro n st - - ⟨i, rfl, hi, h1, h2, h3, hp3, h8, h7, hp7⟩
  have htl := touchTo_len (p := p) (b := b) (x := x) i
  all_goals have fx := And.intro h1 <| And.intro h2 <| And.intro h3 <| And.intro hp3 <| And.intro h8 <| And.intro h7 <| hp7
  repeat' (first
   | refine w_seq ?_ | refine w_reg fun K hK => ?_
   | ((with_reducible refine s_end hK ?_); clear hK K)
   | (with_reducible first | refine then_normal ?_)
   | (with_reducible refine s_none ?_)
   | (with_reducible refine x_q (h := ?_))
   | fail)
  all_goals try clear fx
  refine w_if (by simp []; first | done | rfl | exact (Bool.not_not _).symm) (fun ht => ?_) (fun hf => ?_)
  · have hlt : i < p.length := by simpa using ht
    obtain ⟨k, hk⟩ : ∃ k, p[i]? = some k := ⟨_, List.getElem?_eq_getElem hlt⟩
    cases hm : decide (x ∈ k.us)
    · skip
      all_goals have fx := And.intro h1 <| And.intro h2 <| And.intro h3 <| And.intro hp3 <| And.intro h8 <| And.intro h7 <| And.intro hp7 <| And.intro hk <| hm
      repeat' (first
       | refine w_seq ?_ | refine w_block ?_ | refine w_skip ?_ | refine w_reg fun K hK => ?_
       | ((with_reducible refine s_end hK ?_); clear hK K)
       | (with_reducible first | refine then_normal ?_)
       | (with_reducible refine s_none ?_)
       | ((with_reducible refine g_id ?_); refine x_guard (h := ?_))
       | (with_reducible first | refine x_tf (h := ?_) | refine x_assign (h := ?_))
       | ((with_reducible refine o_id 44 rfl ?_); refine x_callh (hF := used_fn _ p i k hk (hs.bsm hk)) (h := ?_))
       | ((with_reducible refine o_id 43 rfl ?_); refine x_call (hF := has_fn _ _ _ (Nat.le_trans (Blk.us_len _) (by decide))) (h := ?_))
       | (with_reducible refine x_q (h := ?_))
       | refine x_condf (h1 := ?_)
       | fail)
      all_goals try clear fx
      have hn : touches p b x i = false := by simp [touches, hk, hm]
      refine ⟨p.length - (i + 1), by omega, i + 1, rfl, by omega, ?_⟩
      simp [h1, h2, h3, hp3, h7, hp7, touchTo, hn]
      exact wrp (by omega) (by omega)
    · cases ho : (owner p i x == (b : Int))
      · skip
        all_goals have fx := And.intro h1 <| And.intro h2 <| And.intro h3 <| And.intro hp3 <| And.intro h8 <| And.intro h7 <| And.intro hp7 <| And.intro hk <| And.intro hm <| ho
        repeat' (first
         | refine w_seq ?_ | refine w_block ?_ | refine w_skip ?_ | refine w_reg fun K hK => ?_
         | ((with_reducible refine s_end hK ?_); clear hK K)
         | (with_reducible first | refine then_normal ?_)
         | (with_reducible refine s_none ?_)
         | ((with_reducible refine g_id ?_); refine x_guard (h := ?_))
         | (with_reducible first | refine gx_tt ?_ | refine x_assign (h := ?_))
         | ((with_reducible refine o_id 44 rfl ?_); refine x_callh (hF := used_fn _ p i k hk (hs.bsm hk)) (h := ?_))
         | ((with_reducible refine o_id 43 rfl ?_); refine x_call (hF := has_fn _ _ _ (Nat.le_trans (Blk.us_len _) (by decide))) (h := ?_))
         | ((with_reducible refine o_id 72 rfl ?_); refine x_call (hF := owner_fn _ p i k x hk hs hh) (h := ?_))
         | (with_reducible refine x_q (h := ?_))
         | refine x_condf (h1 := ?_)
         | fail)
        all_goals try clear fx
        have ho' : ¬ owner p i x = (b : Int) := by simpa using ho
        have hn : touches p b x i = false := by simp [touches, hk, ho']
        refine ⟨p.length - (i + 1), by omega, i + 1, rfl, by omega, ?_⟩
        simp [h1, h2, h3, hp3, h7, hp7, touchTo, hn]
        exact wrp (by omega) (by omega)
      · skip
        all_goals have fx := And.intro h1 <| And.intro h2 <| And.intro h3 <| And.intro hp3 <| And.intro h8 <| And.intro h7 <| And.intro hp7 <| And.intro hk <| And.intro hm <| ho
        repeat' (first
         | refine w_seq ?_ | refine w_block ?_ | refine w_skip ?_ | refine w_reg fun K hK => ?_
         | ((with_reducible refine s_end hK ?_); clear hK K)
         | (with_reducible first | refine then_normal ?_)
         | (with_reducible refine s_none ?_)
         | ((with_reducible refine g_id ?_); refine x_guard (h := ?_))
         | (with_reducible first | refine gx_tt ?_ | refine x_assign (h := ?_) | refine x_append (T := 41) (h := ?_) | refine x_build (h := ?_))
         | ((with_reducible refine o_id 44 rfl ?_); refine x_callh (hF := used_fn _ p i k hk (hs.bsm hk)) (h := ?_))
         | ((with_reducible refine o_id 43 rfl ?_); refine x_call (hF := has_fn _ _ _ (Nat.le_trans (Blk.us_len _) (by decide))) (h := ?_))
         | ((with_reducible refine o_id 72 rfl ?_); refine x_call (hF := owner_fn _ p i k x hk hs hh) (h := ?_))
         | (with_reducible refine x_q (h := ?_))
         | refine x_condt (h1 := ?_)
         | fail)
        all_goals try clear fx
        have ho' : owner p i x = (b : Int) := by simpa using ho
        have hm' : x ∈ k.us := by simpa using hm
        have hn : touches p b x i = true := by simp [touches, hk, ho', hm']
        refine ⟨p.length - (i + 1), by omega, i + 1, rfl, by omega, ?_⟩
        simp [h1, h2, h3, hp3, h7, hp7, touchTo, hn]
        exact wrp (by omega) (by omega)
  · have hge : i = p.length := by
      have : ¬ i < p.length := by simpa using hf
      omega
    subst hge
    all_goals have fx := And.intro h1 <| And.intro h2 <| And.intro h3 <| And.intro hp3 <| And.intro h8 <| And.intro h7 <| hp7
    repeat' (first
     | refine w_seq ?_ | refine w_reg fun K hK => ?_
     | ((with_reducible refine s_end hK ?_); clear hK K)
     | (with_reducible first | refine then_normal ?_)
     | refine w_exit ?_
     | refine w_ret ?_
     | (with_reducible refine s_none ?_)
     | (with_reducible first | refine x_assign (h := ?_))
     | (with_reducible refine x_q (h := ?_))
     | fail)
    all_goals try clear fx
    exact e_list (t := 6) (by first | (simp [hp7, touched]; done) | (simp [hp7, touched]; rfl)) (by first | (simp [hp7, touched]; done) | (simp [hp7, touched]; rfl)) (by simp)
end Go.Proofs.Ytopgafhjmbfaoaa
end
