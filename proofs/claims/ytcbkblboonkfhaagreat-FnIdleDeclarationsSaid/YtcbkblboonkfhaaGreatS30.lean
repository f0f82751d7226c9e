/-
  Own texts, joined by mkclaim.py: Ta, Sm, Vs, Hn, Hl, Vb.
-/
import Derived.Test.YtcbkblboonkfhaaGreatS25
import Derived.Test.YtcbkblboonkfhaaGreatS12
import Derived.Test.YtcbkblboonkfhaaGreatS13
import Derived.Test.YtcbkblboonkfhaaGreatS16
import Derived.Test.YtcbkblboonkfhaaGreatS29
import Derived.Test.YtcbkblboonkfhaaGreatS17
import Derived.Test.YtcbkblboonkfhaaGreatS26
import Derived.Test.YtcbkblboonkfhaaGreatS11
set_option linter.unusedSimpArgs false
set_option linter.unusedVariables false
set_option maxRecDepth 100000
set_option maxHeartbeats 4000000

section
namespace Go.Proofs.YtcbkblboonkfhaaGreat
open Go Go.Hm Go.Proofs
abbrev qsTa0 : Sch := .q 0 <| .q 1 <| .q 2 <| .q 3 <| .q 4 <| .q 5 <| .q 6 <| .q 7 <| .q 8 <| .done
theorem equalInts_fn (gl) (xs ys : List Int) (hx : xs.length ≤ 1048576) (hy : ys.length ≤ 1048576) : FnOk Tryz.prog gl 69 [isl xs, isl ys] (fun _ z _ => z = bv (decide (xs = ys))) := by
  refine FnOk.of_sem Tryz.func69 rfl (by kernel_rfl) (rs := [.tmp 4]) rfl Tryz.ntmps69 (Nat.le_of_ble_eq_true rfl) fun C w g root => ?_
  by_cases hl : xs.length = ys.length
  case neg =>
    have h1 : ((xs.length : Int) == ys.length) = false := by simp; omega
    have fx := And.intro h1 <| @bne_def
    refine k_run ?_
    repeat ((first | refine wSc (id := 6) qsTa0 mixed ?_); refine k_rund ?_; refine k_run ?_)
    clear fx
    refine e_ret [] .nil (by simp; rfl) ?_
    have : ¬ xs = ys := fun e => hl (by rw [e])
    simp [this]
  have fx := And.intro hl <| @bne_def
  refine k_run ?_
  repeat ((first | refine wSc (id := 6) qsTa0 mixed ?_); refine k_rund ?_; refine k_run ?_)
  clear fx
  refine w_loop (fun n st => ∃ i : Nat, n = xs.length - i ∧ i ≤ xs.length ∧ st.tm 0 = isl xs ∧ st.tm 1 = isl ys ∧ st.tm 5 = iv i ∧ xs.take i = ys.take i) xs.length ?_ ?_
  · exact ⟨0, by simp⟩
  rintro n st - - ⟨i, rfl, hi, h0, h1, h5, heq⟩
  have fx := And.intro h0 <| h5
  refine k_run ?_
  repeat ((first | refine wSc (id := 6) qsTa0 mixed ?_); refine k_rund ?_; refine k_run ?_)
  clear fx
  refine w_if (by simp []; first | done | rfl | exact (Bool.not_not _).symm) (fun ht => ?_) (fun hf => ?_)
  · have hlt : i < xs.length := by simpa using ht
    obtain ⟨x, hxi⟩ : ∃ x, xs[i]? = some x := ⟨_, gE (by omega)⟩
    obtain ⟨y, hyi⟩ : ∃ y, ys[i]? = some y := ⟨_, gE (by omega)⟩
    clear ht
    all_goals have fx := And.intro h0 <| And.intro h1 <| And.intro h5 <| And.intro hxi <| And.intro hyi <| @bne_def
    repeat' (first
     | refine w_seq ?_ | refine w_block ?_ | refine w_skip ?_ | refine w_reg fun K hK => ?_
     | ((with_reducible refine s_end hK ?_); clear hK K)
     | (with_reducible first | refine then_normal ?_ | refine in_normal ?_ | refine then_exit ?_ | refine in_exit ?_ | refine then_ret ?_ | refine in_ret ?_ | refine s_nil ?_ | refine in_other (by decide) ?_)
     | refine w_exit ?_
     | refine w_ret ?_
     | (with_reducible first | refine s_none ?_ | refine x_assign (h := ?_))
     | (with_reducible refine x_q (h := ?_))
     | refine x_condt (h1 := ?_) | refine x_condf (h1 := ?_)
     | (refine wSc (id := 6) qsTa0 mixed fun K hK => ?_)
     | ((with_reducible refine a_end hK ?_); clear hK K)
     | ((with_reducible refine a_id ?_); first | refine xa_q (h := ?_) | refine xa_qt (h := ?_) | refine xa_qf (h := ?_) | refine xa_qu (h := ?_))
     | ((with_reducible refine a_id ?_); refine xa_gq (h1 := fun ht => ?_) (h2 := fun ht => ?_))
     | refine a_l rfl ?_ | refine a_l2 ?_ ?_ | (with_reducible refine And.intro ?_ ?_) | exact st_nil | refine xa_st (h2 := ?_)
     | refine x_if (h1 := fun ht => ?_) (h2 := fun ht => ?_)
     | fail)
    all_goals try clear fx
    all_goals first
      | (refine e_ret [] .nil (by simp; rfl) ?_
         have hne : ¬ xs = ys := fun e => by rw [e, hyi] at hxi; obtain rfl := Option.some.inj hxi; simp at ht
         simp [hne])
      | (have hxy : x = y := by simpa using ht
         refine ⟨xs.length - (i + 1), by omega, i + 1, rfl, by omega, by simp [h0], by simp [h1], by simp; exact wrp (by omega) (by omega), ?_⟩
         rw [List.take_add_one, List.take_add_one, heq, hxi, hyi, hxy])
  · have hge : i = xs.length := by
      have : ¬ i < xs.length := by simpa using hf
      omega
    have : xs = ys := by rw [hge, List.take_length, hl, List.take_length] at heq; exact heq
    have fx := fx0
    refine k_run ?_
    repeat ((first | refine wSc (id := 6) qsTa0 mixed ?_); refine k_rund ?_; refine k_run ?_)
    clear fx
    refine e_ret [] .nil (by simp []; rfl) (by simp [this])
theorem equalStmts_fn (gl) (xs ys : List Stm) (hx : xs.length ≤ 1048576) (hy : ys.length ≤ 1048576) : FnOk Tryz.prog gl 75 [ssl xs, ssl ys] (fun _ z _ => z = bv (decide (xs = ys))) := by
  refine FnOk.of_sem Tryz.func75 rfl (by kernel_rfl) (rs := [.tmp 4]) rfl Tryz.ntmps75 (Nat.le_of_ble_eq_true rfl) fun C w g root => ?_
  by_cases hl : xs.length = ys.length
  case neg =>
    have h1 : ((xs.length : Int) == ys.length) = false := by simp; omega
    have fx := And.intro h1 <| @bne_def
    refine k_run ?_
    repeat ((first | refine wSc (id := 6) qsTa0 mixed ?_); refine k_rund ?_; refine k_run ?_)
    clear fx
    refine e_ret [] .nil (by simp; rfl) ?_
    have : ¬ xs = ys := fun e => hl (by rw [e])
    simp [this]
  have fx := And.intro hl <| @bne_def
  refine k_run ?_
  repeat ((first | refine wSc (id := 6) qsTa0 mixed ?_); refine k_rund ?_; refine k_run ?_)
  clear fx
  refine w_loop (fun n st => ∃ i : Nat, n = xs.length - i ∧ i ≤ xs.length ∧ st.tm 0 = ssl xs ∧ st.tm 1 = ssl ys ∧ st.tm 5 = iv i ∧ xs.take i = ys.take i) xs.length ?_ ?_
  · exact ⟨0, by simp⟩
  rintro n st - - ⟨i, rfl, hi, h0, h1, h5, heq⟩
  have fx := And.intro h0 <| h5
  refine k_run ?_
  repeat ((first | refine wSc (id := 6) qsTa0 mixed ?_); refine k_rund ?_; refine k_run ?_)
  clear fx
  refine w_if (by simp []; first | done | rfl | exact (Bool.not_not _).symm) (fun ht => ?_) (fun hf => ?_)
  · have hlt : i < xs.length := by simpa using ht
    obtain ⟨x, hxi⟩ : ∃ x, xs[i]? = some x := ⟨_, gE (by omega)⟩
    obtain ⟨y, hyi⟩ : ∃ y, ys[i]? = some y := ⟨_, gE (by omega)⟩
    clear ht
    all_goals have fx := And.intro h0 <| And.intro h1 <| And.intro h5 <| And.intro hxi <| hyi
    repeat' (first
     | refine w_seq ?_ | refine w_block ?_ | refine w_skip ?_ | refine w_reg fun K hK => ?_
     | ((with_reducible refine s_end hK ?_); clear hK K)
     | (with_reducible first | refine then_normal ?_ | refine in_normal ?_ | refine then_exit ?_ | refine in_exit ?_ | refine then_ret ?_ | refine in_ret ?_ | refine s_nil ?_ | refine in_other (by decide) ?_)
     | refine w_exit ?_
     | refine w_ret ?_
     | (with_reducible first | refine s_none ?_ | refine x_assign (h := ?_))
     | ((with_reducible refine o_id 184 rfl ?_); refine x_call (hF := eqStmt_fn _ x y) (h := ?_))
     | (with_reducible refine x_q (h := ?_))
     | refine x_condt (h1 := ?_) | refine x_condf (h1 := ?_)
     | (refine wSc (id := 6) qsTa0 mixed fun K hK => ?_)
     | ((with_reducible refine a_end hK ?_); clear hK K)
     | ((with_reducible refine a_id ?_); first | refine xa_q (h := ?_) | refine xa_qt (h := ?_) | refine xa_qf (h := ?_) | refine xa_qu (h := ?_))
     | ((with_reducible refine a_id ?_); refine xa_gq (h1 := fun ht => ?_) (h2 := fun ht => ?_))
     | refine a_l rfl ?_ | refine a_l2 ?_ ?_ | (with_reducible refine And.intro ?_ ?_) | exact st_nil | refine xa_st (h2 := ?_)
     | refine x_if (h1 := fun ht => ?_) (h2 := fun ht => ?_)
     | fail)
    all_goals try clear fx
    all_goals first
      | (refine e_ret [] .nil (by simp; rfl) ?_
         have hne : ¬ xs = ys := fun e => by rw [e, hyi] at hxi; obtain rfl := Option.some.inj hxi; simp at ht
         simp [hne])
      | (have hxy : x = y := by cases x; cases y; simpa using ht
         refine ⟨xs.length - (i + 1), by omega, i + 1, rfl, by omega, by simp [h0], by simp [h1], by simp; exact wrp (by omega) (by omega), ?_⟩
         rw [List.take_add_one, List.take_add_one, heq, hxi, hyi, hxy])
  · have hge : i = xs.length := by
      have : ¬ i < xs.length := by simpa using hf
      omega
    have : xs = ys := by rw [hge, List.take_length, hl, List.take_length] at heq; exact heq
    have fx := fx0
    refine k_run ?_
    repeat ((first | refine wSc (id := 6) qsTa0 mixed ?_); refine k_rund ?_; refine k_run ?_)
    clear fx
    refine e_ret [] .nil (by simp []; rfl) (by simp [this])
theorem equalProgram_fn (gl) (xs ys : Prg) (hx : Sml xs) (hy : Sml ys) : FnOk Tryz.prog gl 25 [pav xs, pav ys] (fun _ z _ => z = bv (decide (xs = ys))) := by
  have hxl := hx.len
  have hyl := hy.len
  refine FnOk.of_sem Tryz.func25 rfl (by kernel_rfl) (rs := [.tmp 4]) rfl Tryz.ntmps25 (Nat.le_of_ble_eq_true rfl) fun C w g root => ?_
  by_cases hl : xs.length = ys.length
  case neg =>
    have h1 : ((xs.length : Int) == ys.length) = false := by simp; omega
    have fx := And.intro h1 <| @bne_def
    refine k_run ?_
    clear fx
    refine e_ret [] .nil (by simp; rfl) ?_
    have : ¬ xs = ys := fun e => hl (by rw [e])
    simp [this]
  have fx := And.intro hl <| @bne_def
  refine k_run ?_
  clear fx
  refine w_loop (fun n st => ∃ i : Nat, n = xs.length - i ∧ i ≤ xs.length ∧ st.tm 2 = .pt (.s 2) 0 ∧ st.hp (.s 2) = some (.row 1 [[ksl xs]]) ∧ st.tm 3 = .pt (.s 3) 0 ∧ st.hp (.s 3) = some (.row 1 [[ksl ys]]) ∧ st.tm 5 = iv i ∧ xs.take i = ys.take i) xs.length ?_ ?_
  · exact ⟨0, by simp⟩
  rintro n st - - ⟨i, rfl, hi, h2, hp2, h3, hp3, h5, heq⟩
  have fx := And.intro h2 <| And.intro hp2 <| h5
  refine k_run ?_
  clear fx
  refine w_if (by simp []; first | done | rfl | exact (Bool.not_not _).symm) (fun ht => ?_) (fun hf => ?_)
  · have hlt : i < xs.length := by simpa using ht
    obtain ⟨x, hxi⟩ : ∃ x, xs[i]? = some x := ⟨_, gE (by omega)⟩
    obtain ⟨y, hyi⟩ : ∃ y, ys[i]? = some y := ⟨_, gE (by omega)⟩
    obtain ⟨hxl', hxE⟩ := gS hxi
    obtain ⟨hyl', hyE⟩ := gS hyi
    have hne : ∀ (P : Prop), ¬ P → (x = y → P) → decide (xs = ys) = false := fun P hP h => decide_eq_false fun e => hP (h (by rw [e, hyi] at hxi; exact (Option.some.inj hxi).symm))
    have h1 := equalInts_fn gl x.params y.params (hx.bsm hxi).params (hy.bsm hyi).params
    have h2' := equalStmts_fn gl x.body y.body (hx.bsm hxi).body (hy.bsm hyi).body
    clear ht
    cases hk : (x.kind == y.kind)
    · skip
      have fx := And.intro h2 <| And.intro hp2 <| And.intro h3 <| And.intro hp3 <| And.intro h5 <| And.intro hxi <| And.intro hyi <| And.intro hxE <| And.intro hyE <| And.intro hxl' <| And.intro hyl' <| And.intro hk <| @bne_def
      refine k_run ?_
      clear fx
      refine e_ret [] .nil (by simp; rfl) ?_
      rw [hne (x.kind = y.kind) (by simpa using hk) (fun e => by rw [e])]
      rfl
    cases hpa : (x.parent == y.parent)
    · skip
      have fx := And.intro h2 <| And.intro hp2 <| And.intro h3 <| And.intro hp3 <| And.intro h5 <| And.intro hxi <| And.intro hyi <| And.intro hxE <| And.intro hyE <| And.intro hxl' <| And.intro hyl' <| And.intro hk <| And.intro hpa <| @bne_def
      refine k_run ?_
      clear fx
      refine e_ret [] .nil (by simp; rfl) ?_
      rw [hne (x.parent = y.parent) (by simpa using hpa) (fun e => by rw [e])]
      rfl
    cases hps : decide (x.params = y.params)
    · skip
      have fx := And.intro h2 <| And.intro hp2 <| And.intro h3 <| And.intro hp3 <| And.intro h5 <| And.intro hxi <| And.intro hyi <| And.intro hxE <| And.intro hyE <| And.intro hxl' <| And.intro hyl' <| And.intro hk <| And.intro hpa <| And.intro hps <| @bne_def
      have c1 := h1
      refine k_run ?_
      clear fx c1
      refine e_ret [] .nil (by simp; rfl) ?_
      rw [hne (x.params = y.params) (by simpa using hps) (fun e => by rw [e])]
      rfl
    cases hbo : decide (x.body = y.body)
    · skip
      have fx := And.intro h2 <| And.intro hp2 <| And.intro h3 <| And.intro hp3 <| And.intro h5 <| And.intro hxi <| And.intro hyi <| And.intro hxE <| And.intro hyE <| And.intro hxl' <| And.intro hyl' <| And.intro hk <| And.intro hpa <| And.intro hps <| And.intro hbo <| @bne_def
      have c1 := h1
      have c2 := h2'
      refine k_run ?_
      clear fx c1 c2
      refine e_ret [] .nil (by simp; rfl) ?_
      rw [hne (x.body = y.body) (by simpa using hbo) (fun e => by rw [e])]
      rfl
    have hxy : x = y := by
      obtain ⟨a, b, c, d⟩ := x
      obtain ⟨a', b', c', d'⟩ := y
      simp at hk hpa hps hbo
      simp [hk, hpa, hps, hbo]
    have fx := And.intro h2 <| And.intro hp2 <| And.intro h3 <| And.intro hp3 <| And.intro h5 <| And.intro hxi <| And.intro hyi <| And.intro hxE <| And.intro hyE <| And.intro hxl' <| And.intro hyl' <| And.intro hk <| And.intro hpa <| And.intro hps <| And.intro hbo <| @bne_def
    have c1 := h1
    have c2 := h2'
    refine k_run ?_
    clear fx c1 c2
    refine ⟨xs.length - (i + 1), by omega, i + 1, rfl, by omega, by simp [h2], by simp [hp2], by simp [h3], by simp [hp3], by simp; exact wrp (by omega) (by omega), ?_⟩
    rw [List.take_add_one, List.take_add_one, heq, hxi, hyi, hxy]
  · have hge : i = xs.length := by
      have : ¬ i < xs.length := by simpa using hf
      omega
    have : xs = ys := by rw [hge, List.take_length, hl, List.take_length] at heq; exact heq
    have fx := fx0
    refine k_run ?_
    clear fx
    refine e_ret [] .nil (by simp []; rfl) (by simp [this])
theorem isIn_fn (gl) (xs : List Int) (x : Int) (hx : xs.length ≤ 1048576) : FnOk Tryz.prog gl 33 [isl xs, iv x] (fun _ z _ => z = bv (decide (x ∈ xs))) := by
  refine FnOk.of_sem Tryz.func33 rfl (by kernel_rfl) (rs := [.tmp 4]) rfl Tryz.ntmps33 (Nat.le_of_ble_eq_true rfl) fun C w g root => ?_
  have fx := fx0
  refine k_run ?_
  clear fx
  refine w_loop (fun n st => ∃ i : Nat, n = xs.length - i ∧ i ≤ xs.length ∧ st.tm 0 = isl xs ∧ st.tm 1 = iv x ∧ st.tm 5 = iv i ∧ x ∉ xs.take i) xs.length ?_ ?_
  · exact ⟨0, by simp⟩
  rintro n st - - ⟨i, rfl, hi, h0, h1, h5, hno⟩
  have fx := And.intro h0 <| h5
  refine k_run ?_
  clear fx
  refine w_if (by simp []; first | done | rfl | exact (Bool.not_not _).symm) (fun ht => ?_) (fun hf => ?_)
  · have hlt : i < xs.length := by simpa using ht
    obtain ⟨u, hu⟩ : ∃ u, xs[i]? = some u := ⟨_, gE hlt⟩
    obtain ⟨_, huE⟩ := gS hu
    clear ht
    cases hux : (u == x)
    · have hne : ¬ u = x := by simpa using hux
      have fx := And.intro h0 <| And.intro h1 <| And.intro h5 <| And.intro hu <| And.intro huE <| And.intro hlt <| hux
      refine k_run ?_
      clear fx
      refine ⟨xs.length - (i + 1), by omega, i + 1, rfl, by omega, by simp [h0], by simp [h1], by simp; exact wrp (by omega) (by omega), ?_⟩
      rw [List.take_add_one, hu]
      simp only [Option.toList_some, List.mem_append, List.mem_singleton, not_or]
      exact ⟨hno, fun e => hne e.symm⟩
    · have he : u = x := by simpa using hux
      have hm : x ∈ xs := he ▸ List.mem_of_getElem? hu
      have fx := And.intro h0 <| And.intro h1 <| And.intro h5 <| And.intro hu <| And.intro huE <| And.intro hlt <| hux
      refine k_run ?_
      clear fx
      refine e_ret [] .nil (by simp; rfl) ?_
      simp [hm]
  · have hge : i = xs.length := by
      have : ¬ i < xs.length := by simpa using hf
      omega
    rw [hge, List.take_length] at hno
    have fx := fx0
    refine k_run ?_
    clear fx
    refine e_ret [] .nil (by simp; rfl) ?_
    simp [hno]
end Go.Proofs.YtcbkblboonkfhaaGreat
end
section
namespace Go.Proofs.YtcbkblboonkfhaaGreat
open Go Go.Hm Go.Proofs
attribute [local simp] slcAV rowsIn
theorem begins_fn (gl) (xs ys : List Int) (h : ys <+: xs) (hx : xs.length ≤ 1048576) : FnOk Tryz.prog gl 68 [isl xs, isl ys] (fun _ z _ => z = bv true) := by
  have hl := h.length_le
  have hl2 : ¬ xs.length < ys.length := by omega
  have ht := pre_take h
  have hq := equalInts_fn gl ys ys (by omega) (by omega)
  simp only [decide_true] at hq
  refine FnOk.of_sem Tryz.func68 rfl (by kernel_rfl) (rs := [.tmp 4]) rfl Tryz.ntmps68 (Nat.le_of_ble_eq_true rfl) fun C w g root => ?_
  have fx := And.intro hl <| And.intro hl2 <| ht
  have c1 := hq
  refine k_run ?_
  clear fx c1
  refine e_ret [] .nil (by simp; rfl) (by simp)
end Go.Proofs.YtcbkblboonkfhaaGreat
end
section
namespace Go.Proofs.YtcbkblboonkfhaaGreat
open Go Go.Hm Go.Proofs
abbrev qsVs0 : Sch := .q 0 <| .q 1 <| .q 2 <| .q 3 <| .q 4 <| .q 5 <| .q 6 <| .q 7 <| .l 8 [6, 5, 4, 2, 1, 0] <| .q 9 <| .done
attribute [local simp] slcAV rowsIn
theorem beginsD_fn (gl) (xs ys : List Int) (hx : xs.length ≤ 1048576) (hy : ys.length ≤ 1048576) : FnOk Tryz.prog gl 68 [isl xs, isl ys] (fun _ z _ => z = bv (decide (ys <+: xs))) := by
  by_cases hp : ys <+: xs
  · have h := begins_fn gl xs ys hp hx
    rw [show decide (ys <+: xs) = true by simp [hp]]
    exact h
  rw [show decide (ys <+: xs) = false by simp [hp]]
  refine FnOk.of_sem Tryz.func68 rfl (by kernel_rfl) (rs := [.tmp 4]) rfl Tryz.ntmps68 (Nat.le_of_ble_eq_true rfl) fun C w g root => ?_
  by_cases hl : ys.length ≤ xs.length
  · have hl2 : ¬ xs.length < ys.length := by omega
    have hne : ¬ xs.take ys.length = ys := fun e => hp (e ▸ List.take_prefix _ _)
    have hzl : (xs.take ys.length).length ≤ 1048576 := by simp; omega
    obtain ⟨zs, hz⟩ : ∃ zs, xs.take ys.length = zs := ⟨_, rfl⟩
    rw [hz] at hne hzl
    have hq := equalInts_fn gl zs ys hzl hy
    rw [show decide (zs = ys) = false by simp [hne]] at hq
    have fx := And.intro hl <| And.intro hl2 <| hz
    have c1 := hq
    refine k_run ?_
    clear fx c1
    refine e_ret [] .nil (by simp; rfl) (by simp)
  · have hl2 : xs.length < ys.length := by omega
    have fx := And.intro hl <| hl2
    refine k_run ?_
    clear fx
    refine e_ret [] .nil (by simp; rfl) (by simp)
theorem equalLists_fn (gl) (xs ys : List (List Int)) (hx : xs.length ≤ 1048576) (hy : ys.length ≤ 1048576) (hrx : ∀ r ∈ xs, r.length ≤ 1048576) (hry : ∀ r ∈ ys, r.length ≤ 1048576) : FnOk Tryz.prog gl 21 [tsl xs, tsl ys] (fun _ z _ => z = bv (decide (xs = ys))) := by
  refine FnOk.of_sem Tryz.func21 rfl (by kernel_rfl) (rs := [.tmp 4]) rfl Tryz.ntmps21 (Nat.le_of_ble_eq_true rfl) fun C w g root => ?_
  by_cases hl : xs.length = ys.length
  case neg =>
    have h1 : ((xs.length : Int) == ys.length) = false := by simp; omega
    have fx := And.intro h1 <| @bne_def
    refine k_run ?_
    repeat ((first | refine wSc (id := 6) qsVs0 mixed ?_); refine k_rund ?_; refine k_run ?_)
    clear fx
    refine e_ret [] .nil (by simp; rfl) ?_
    have : ¬ xs = ys := fun e => hl (by rw [e])
    simp [this]
  have fx := And.intro hl <| @bne_def
  refine k_run ?_
  repeat ((first | refine wSc (id := 6) qsVs0 mixed ?_); refine k_rund ?_; refine k_run ?_)
  clear fx
  refine w_loop (fun n st => ∃ i : Nat, n = xs.length - i ∧ i ≤ xs.length ∧ st.tm 0 = tsl xs ∧ st.tm 1 = tsl ys ∧ st.tm 5 = iv i ∧ xs.take i = ys.take i) xs.length ⟨0, by simp⟩ ?_
  rintro n st - - ⟨i, rfl, hi, h0, h1, h5, heq⟩
  by_cases hil : i < xs.length
  · obtain ⟨x, hxi⟩ : ∃ x, xs[i]? = some x := ⟨_, gE hil⟩
    obtain ⟨y, hyi⟩ : ∃ y, ys[i]? = some y := ⟨_, gE (by omega)⟩
    obtain ⟨hxl', hxE⟩ := gS hxi
    obtain ⟨hyl', hyE⟩ := gS hyi
    have hq := equalInts_fn gl x y (hrx x (List.mem_of_getElem? hxi)) (hry y (List.mem_of_getElem? hyi))
    cases hxy : decide (x = y)
    · rw [hxy] at hq
      have fx := And.intro h0 <| And.intro h1 <| And.intro h5 <| And.intro hil <| And.intro hxi <| And.intro hyi <| And.intro hxE <| And.intro hyE <| And.intro hxl' <| hyl'
      have c1 := hq
      refine k_run ?_
      repeat ((first | refine wSc (id := 6) qsVs0 mixed ?_); refine k_rund ?_; refine k_run ?_)
      clear fx c1
      refine e_ret [] .nil (by simp; rfl) ?_
      have hne : ¬ xs = ys := ne_of_get hxi hyi (by simpa using hxy)
      simp [hne]
    · rw [hxy] at hq
      have hxy' : x = y := by simpa using hxy
      have fx := And.intro h0 <| And.intro h1 <| And.intro h5 <| And.intro hil <| And.intro hxi <| And.intro hyi <| And.intro hxE <| And.intro hyE <| And.intro hxl' <| hyl'
      have c1 := hq
      refine k_run ?_
      repeat ((first | refine wSc (id := 6) qsVs0 mixed ?_); refine k_rund ?_; refine k_run ?_)
      clear fx c1
      exact ⟨xs.length - (i + 1), by omega, i + 1, rfl, by omega, by simp [h0], by simp [h1], by simp; exact wrp (by omega) (by omega), take_next heq hxi (hxy' ▸ hyi)⟩
  · have hge : i = xs.length := by omega
    have : xs = ys := by rw [hge, List.take_length, hl, List.take_length] at heq; exact heq
    have fx := And.intro h0 <| And.intro h1 <| And.intro h5 <| hil
    refine k_run ?_
    repeat ((first | refine wSc (id := 6) qsVs0 mixed ?_); refine k_rund ?_; refine k_run ?_)
    clear fx
    refine e_ret [] .nil (by simp []; rfl) (by simp [this])
theorem sameRun_fn (gl) (p q : Prg) (hp : Sml p) (hq : Sml q) (h1 : progOk p = true) (h2 : progOk q = true) (hs : SameR (meantW p 150) (meantW q 150)) : FnOk Tryz.prog gl 18 [pav p, pav q] (fun _ z _ => z = bv true) := by
  have hv1 : fuelOk p 150 = true := by simp [fuelOk, h1]
  have hv2 : fuelOk q 150 = true := by simp [fuelOk, h2]
  have hG1 : resG p 150 = resW (meantW p 150) := by simp [resG, hv1]
  have hG2 : resG q 150 = resW (meantW q 150) := by simp [resG, hv2]
  obtain ⟨l1, l2⟩ := resG_len (f := 150) hp
  obtain ⟨l3, l4⟩ := resG_len (f := 150) hq
  have ia := impl_RunMeaning_fn gl p 150 hp
  have ib := impl_RunMeaning_fn gl q 150 hq
  have b1 := beginsD_fn gl (resG p 150).out (resG q 150).out (by omega) (by omega)
  have b2 := beginsD_fn gl (resG q 150).out (resG p 150).out (by omega) (by omega)
  have f1 : (resG q 150).out <+: (resG p 150).out ∨ (resG p 150).out <+: (resG q 150).out := by
    rw [hG1, hG2]
    exact hs.fuel.symm
  have f2 : (resG p 150).en ≠ 1 → (resG q 150).en ≠ 1 → (resG p 150).out = (resG q 150).out ∧ (resG p 150).en = (resG q 150).en ∧ (resG p 150).gl = (resG q 150).gl := by
    rw [hG1, hG2]
    intro e1 e2
    have n1 : (meantW p 150).en ≠ 1 := fun e => e1 (by simp [resW, e])
    have n2 : (meantW q 150).en ≠ 1 := fun e => e2 (by simp [resW, e])
    obtain ⟨h1, h2, h3⟩ := hs.done n1 n2
    simp [resW, h1, h2, h3]
  have q1 := equalInts_fn gl (resG p 150).out (resG p 150).out (by omega) (by omega)
  have q2 := equalInts_fn gl (resG p 150).gl (resG p 150).gl (by omega) (by omega)
  simp only [decide_true] at q1 q2
  clear hG1 hG2 hv1 hv2 hs
  generalize resG p 150 = R at *
  generalize resG q 150 = S at *
  refine FnOk.of_sem Tryz.func18 rfl (by kernel_rfl) (rs := [.tmp 4]) rfl Tryz.ntmps18 (Nat.le_of_ble_eq_true rfl) fun C w g root => ?_
  have fx := fx0
  have e1 := ia
  refine k_run ?_
  clear fx e1
  rintro K hK y H2 ⟨rfl, hR⟩
  obtain ⟨r1, r2⟩ := hR.hcln
  refine ⟨by simp, ?_⟩
  have fx := And.intro r1 <| r2
  have e1 := ib
  refine k_run ?_
  clear fx e1
  rintro K hK y H3 ⟨rfl, hS⟩
  obtain ⟨s1, s2⟩ := hS.hcln
  refine ⟨by simp, ?_⟩
  by_cases e1 : R.en = 1 ∨ S.en = 1
  · have main : decide (S.out <+: R.out) = true ∨ decide (S.out <+: R.out) = false ∧ decide (R.out <+: S.out) = true := by
      by_cases h : S.out <+: R.out
      · exact .inl (by simp [h])
      · exact .inr ⟨by simp [h], by simp [f1.resolve_left h]⟩
    rcases main with hb | ⟨hb, hb'⟩
    · rw [hb] at b1
      by_cases e2 : R.en = 1
      · have e2' : (R.en == 1) = true := by simpa using e2
        have fx := And.intro r1 <| And.intro r2 <| And.intro s1 <| And.intro s2 <| e2'
        have c1 := b1
        refine k_run ?_
        clear fx c1
        refine e_ret [] .nil (by simp; rfl) (by simp)
      · have e2' : (R.en == 1) = false := by simpa using e2
        have e3' : (S.en == 1) = true := by simpa using e1.resolve_left e2
        have fx := And.intro r1 <| And.intro r2 <| And.intro s1 <| And.intro s2 <| And.intro e2' <| e3'
        have c1 := b1
        refine k_run ?_
        clear fx c1
        refine e_ret [] .nil (by simp; rfl) (by simp)
    · rw [hb] at b1
      rw [hb'] at b2
      by_cases e2 : R.en = 1
      · have e2' : (R.en == 1) = true := by simpa using e2
        have fx := And.intro r1 <| And.intro r2 <| And.intro s1 <| And.intro s2 <| e2'
        have c1 := b1
        have c2 := b2
        refine k_run ?_
        clear fx c1 c2
        refine e_ret [] .nil (by simp; rfl) (by simp)
      · have e2' : (R.en == 1) = false := by simpa using e2
        have e3' : (S.en == 1) = true := by simpa using e1.resolve_left e2
        have fx := And.intro r1 <| And.intro r2 <| And.intro s1 <| And.intro s2 <| And.intro e2' <| e3'
        have c1 := b1
        have c2 := b2
        refine k_run ?_
        clear fx c1 c2
        refine e_ret [] .nil (by simp; rfl) (by simp)
  · obtain ⟨n1, n2⟩ := not_or.1 e1
    obtain ⟨g1, g2, g3⟩ := f2 n1 n2
    have e2' : (R.en == 1) = false := by simpa using n1
    have e3' : (S.en == 1) = false := by simpa using n2
    obtain ⟨so, se, sl, sg⟩ := S
    simp only at g1 g2 g3
    subst g1 g2 g3
    have e4' : (R.en == R.en) = true := by simp
    have fx := And.intro r1 <| And.intro r2 <| And.intro s1 <| And.intro s2 <| And.intro e2' <| And.intro e3' <| e4'
    have c1 := q1
    have c2 := q2
    refine k_run ?_
    clear fx c1 c2
    refine e_ret [] .nil (by simp; rfl) (by simp)
end Go.Proofs.YtcbkblboonkfhaaGreat
end
section
namespace Go.Proofs.YtcbkblboonkfhaaGreat
open Go Go.Hm Go.Proofs
abbrev qsHn0 : Sch := .q 0 <| .q 1 <| .q 2 <| .q 3 <| .q 4 <| .q 5 <| .q 6 <| .q 7 <| .q 8 <| .q 10 <| .q 11 <| .l 9 [11, 10, 7, 6, 5, 4, 3, 2, 1, 0] <| .l 12 [10, 7, 6, 5, 4, 3, 2, 1, 0] <| .q 13 <| .q 14 <| .l 15 [] <| .done
theorem copyOf_fn (gl) (p : Prg) (hs : Sml p) : FnOk Tryz.prog gl 72 [pav p] (fun r y H' => y = .agg [.hs r 4 0 p.length] ∧ OwnP H' r p) := by
  have hpl := hs.len
  refine FnOk.of_sem Tryz.func72 rfl (by kernel_rfl) (rs := [.cell 2 29]) rfl Tryz.ntmps72 (Nat.le_of_ble_eq_true rfl) fun C w g root => ?_
  have fx := fx0
  refine k_run ?_
  repeat ((first | refine wSc (id := 5) qsHn0 mixed ?_); refine k_rund ?_; refine k_run ?_)
  clear fx
  refine w_loop (fun n st => ∃ i : Nat, n = p.length - i ∧ i ≤ p.length ∧ st.tm 1 = .pt (.s 1) 0 ∧ st.hp (.s 1) = some (.row 1 [[ksl p]]) ∧ st.tm 2 = .pt (.s 2) 0 ∧ st.hp (.s 2) = some (.row 1 [[.hs (.c (.s 2) 0 0) 4 0 0]]) ∧ st.hp (.c (.s 2) 0 0) = some (.row 4 []) ∧ st.tm 3 = .pt (.s 3) 0 ∧ st.hp (.s 3) = some (.row 1 [[.hs (.c (.s 3) 0 0) 4 0 p.length]]) ∧ st.tm 12 = ksl p ∧ st.tm 13 = iv p.length ∧ st.tm 14 = iv i ∧ CopP st.hp (.c (.s 3) 0 0) p i) p.length ?_ ?_
  · refine ⟨0, by simp, by simp, by simp, by simp, by simp, by simp, by simp, by simp, by simp, by simp, by simp, by simp, ⟨?_, fun j k hj => by omega, fun j k hj => by omega⟩⟩
    rw [← cRows_zero]
    simp [zblk, nilS]
  rintro n st - - ⟨i, rfl, hi, h1, hp1, h2, hp2, hp2', h3, hp3, h12, h13, h14, ⟨ho1, ho2, ho3⟩⟩
  have fx := And.intro h12 <| And.intro h13 <| h14
  refine k_run ?_
  repeat ((first | refine wSc (id := 5) qsHn0 mixed ?_); refine k_rund ?_; refine k_run ?_)
  clear fx
  refine w_if (by simp []; first | done | rfl | exact (Bool.not_not _).symm) (fun ht => ?_) (fun hf => ?_)
  · have hlt : i < p.length := by simpa using ht
    obtain ⟨k, hk⟩ : ∃ k, p[i]? = some k := ⟨_, gE hlt⟩
    obtain ⟨hkp, hkb⟩ := hs.bsm hk
    have hcg := cRows_get (n := .c (.s 3) 0 0) (i := i) hk
    rw [if_neg (by omega)] at hcg
    obtain ⟨_, hke⟩ := gS hk
    obtain ⟨_, hcge⟩ := gS hcg
    clear ht
    have fx := And.intro h12 <| And.intro h13 <| And.intro h14 <| And.intro h3 <| And.intro hp3 <| And.intro ho1 <| And.intro hk <| And.intro hke <| And.intro hcg <| And.intro hcge <| hlt
    refine k_run ?_
    repeat ((first | refine wSc (id := 5) qsHn0 mixed ?_); refine k_rund ?_; refine k_run ?_)
    clear fx
    all_goals
      refine ⟨p.length - (i + 1), by omega, i + 1, rfl, by omega, by simp [h1], by simp [hp1], by simp [h2], by simp [hp2], by simp [hp2'], by simp [h3], by simp [hp3], by simp [h12], by simp [h13], by simp; exact wrp (by omega) (by omega), ⟨?_, fun j r hj hr => ?_, fun j r hj hr => ?_⟩⟩
      · rw [← cRows_set (n := .c (.s 3) 0 0) (d := 28) (e := 31) hk (by simp) (by simp) (by decide) (by simp) (by simp)]
        simp [ho1]
      · rcases Nat.lt_succ_iff_lt_or_eq.1 hj with hlj | rfl
        · have hne : ¬ j = i := by omega
          simp [ho2 j r hlj hr, hne]
        · rw [hk] at hr
          obtain rfl := Option.some.inj hr
          simp
      · rcases Nat.lt_succ_iff_lt_or_eq.1 hj with hlj | rfl
        · have hne : ¬ j = i := by omega
          simp [ho3 j r hlj hr, hne]
        · rw [hk] at hr
          obtain rfl := Option.some.inj hr
          simp
  · have hge : i = p.length := by
      have : ¬ i < p.length := by simpa using hf
      omega
    subst hge
    rw [cRows_all] at ho1
    have fx := And.intro h2 <| And.intro hp2 <| And.intro hp2' <| And.intro h3 <| hp3
    refine k_run ?_
    repeat ((first | refine wSc (id := 5) qsHn0 mixed ?_); refine k_rund ?_; refine k_run ?_)
    clear fx
    refine e_ret [(.c (.s 3) 0 0, root)] (.one rfl) (by simp [h2]; rfl) ⟨by simp, ⟨?_, fun j r hj => ?_, fun j r hj => ?_⟩⟩
    · simp [ho1, pRows_tr (n := .c (.s 3) 0 0) (m := root) (f := finf noD [(.c (.s 3) 0 0, root)]) (p := p) (by simp)]
    · simp [ho2 j r (gS hj).1 hj]
    · simp [ho3 j r (gS hj).1 hj]
abbrev qsHl0 : Sch := .q 0 <| .q 1 <| .q 2 <| .q 3 <| .q 4 <| .q 5 <| .q 6 <| .q 7 <| .q 8 <| .done
theorem slicesEqual_fn (gl) (xs ys : List Int) (hx : xs.length ≤ 1048576) (hy : ys.length ≤ 1048576) : FnOk Tryz.prog gl 116 [isl xs, isl ys] (fun _ z _ => z = bv (decide (xs = ys))) := by
  refine FnOk.of_sem Tryz.func116 rfl (by kernel_rfl) (rs := [.tmp 4]) rfl Tryz.ntmps116 (Nat.le_of_ble_eq_true rfl) fun C w g root => ?_
  by_cases hl : xs.length = ys.length
  case neg =>
    have h1 : ((xs.length : Int) == ys.length) = false := by simp; omega
    have fx := And.intro h1 <| @bne_def
    refine k_run ?_
    repeat ((first | refine wSc (id := 6) qsHl0 mixed ?_); refine k_rund ?_; refine k_run ?_)
    clear fx
    refine e_ret [] .nil (by simp; rfl) ?_
    have : ¬ xs = ys := fun e => hl (by rw [e])
    simp [this]
  have fx := And.intro hl <| @bne_def
  refine k_run ?_
  repeat ((first | refine wSc (id := 6) qsHl0 mixed ?_); refine k_rund ?_; refine k_run ?_)
  clear fx
  refine w_loop (fun n st => ∃ i : Nat, n = xs.length - i ∧ i ≤ xs.length ∧ st.tm 0 = isl xs ∧ st.tm 1 = isl ys ∧ st.tm 12 = iv ys.length ∧ st.tm 13 = iv i ∧ xs.take i = ys.take i) xs.length ?_ ?_
  · exact ⟨0, by simp⟩
  rintro n st - - ⟨i, rfl, hi, h0, h1, h12, h13, heq⟩
  have fx := And.intro h12 <| h13
  refine k_run ?_
  repeat ((first | refine wSc (id := 6) qsHl0 mixed ?_); refine k_rund ?_; refine k_run ?_)
  clear fx
  refine w_if (by simp []; first | done | rfl | exact (Bool.not_not _).symm) (fun ht => ?_) (fun hf => ?_)
  · have hlt : i < ys.length := by simpa using ht
    obtain ⟨x, hxi⟩ : ∃ x, xs[i]? = some x := ⟨_, gE (by omega)⟩
    obtain ⟨y, hyi⟩ : ∃ y, ys[i]? = some y := ⟨_, gE hlt⟩
    clear ht
    all_goals have fx := And.intro h0 <| And.intro h1 <| And.intro h12 <| And.intro h13 <| And.intro hxi <| And.intro hyi <| @bne_def
    repeat' (first
     | refine w_seq ?_ | refine w_block ?_ | refine w_skip ?_ | refine w_reg fun K hK => ?_
     | ((with_reducible refine s_end hK ?_); clear hK K)
     | (with_reducible first | refine then_normal ?_ | refine in_normal ?_ | refine then_exit ?_ | refine in_exit ?_ | refine then_ret ?_ | refine in_ret ?_ | refine s_nil ?_ | refine in_other (by decide) ?_)
     | refine w_exit ?_
     | refine w_ret ?_
     | (with_reducible first | refine s_none ?_ | refine x_assign (h := ?_))
     | (with_reducible refine x_q (h := ?_))
     | refine x_condt (h1 := ?_) | refine x_condf (h1 := ?_)
     | (refine wSc (id := 6) qsHl0 mixed fun K hK => ?_)
     | ((with_reducible refine a_end hK ?_); clear hK K)
     | ((with_reducible refine a_id ?_); first | refine xa_q (h := ?_) | refine xa_qt (h := ?_) | refine xa_qf (h := ?_) | refine xa_qu (h := ?_))
     | ((with_reducible refine a_id ?_); refine xa_gq (h1 := fun ht => ?_) (h2 := fun ht => ?_))
     | refine a_l rfl ?_ | refine a_l2 ?_ ?_ | (with_reducible refine And.intro ?_ ?_) | exact st_nil | refine xa_st (h2 := ?_)
     | refine x_if (h1 := fun ht => ?_) (h2 := fun ht => ?_)
     | fail)
    all_goals try clear fx
    all_goals first
      | (refine e_ret [] .nil (by simp; rfl) ?_
         have hne : ¬ xs = ys := fun e => by rw [e, hyi] at hxi; obtain rfl := Option.some.inj hxi; simp at ht
         simp [hne])
      | (have hxy : x = y := by simpa using ht
         refine ⟨xs.length - (i + 1), by omega, i + 1, rfl, by omega, by simp [h0], by simp [h1], by simp [h12], by simp; exact wrp (by omega) (by omega), ?_⟩
         rw [List.take_add_one, List.take_add_one, heq, hxi, hyi, hxy])
  · have hge : i = ys.length := by
      have : ¬ i < ys.length := by simpa using hf
      omega
    have : xs = ys := by rw [hge, List.take_length, ← hl, List.take_length] at heq; exact heq
    have fx := fx0
    refine k_run ?_
    repeat ((first | refine wSc (id := 6) qsHl0 mixed ?_); refine k_rund ?_; refine k_run ?_)
    clear fx
    refine e_ret [] .nil (by simp []; rfl) (by simp [this])
theorem gridEqual_fn (gl) (a b : List (List Int)) (ha : a.length ≤ 1048576) (hb : b.length ≤ 1048576) (hra : ∀ r ∈ a, r.length ≤ 1048576) (hrb : ∀ r ∈ b, r.length ≤ 1048576) : FnOk Tryz.prog gl 64 [tsl a, tsl b] (fun _ z _ => z = bv (decide (a = b))) := by
  refine FnOk.of_sem Tryz.func64 rfl (by kernel_rfl) (rs := [.tmp 4]) rfl Tryz.ntmps64 (Nat.le_of_ble_eq_true rfl) fun C w g root => ?_
  by_cases hl : a.length = b.length
  case neg =>
    have h1 : ((a.length : Int) == b.length) = false := by simp; omega
    have fx := And.intro h1 <| @bne_def
    refine k_run ?_
    clear fx
    refine e_ret [] .nil (by simp; rfl) ?_
    have : ¬ a = b := fun e => hl (by rw [e])
    simp [this]
  have fx := And.intro hl <| @bne_def
  refine k_run ?_
  clear fx
  refine w_loop (fun n st => ∃ i : Nat, n = a.length - i ∧ i ≤ a.length ∧ st.tm 1 = tsl b ∧ st.tm 12 = tsl a ∧ st.tm 13 = iv b.length ∧ st.tm 14 = iv i ∧ a.take i = b.take i) a.length ?_ ?_
  · exact ⟨0, by simp⟩
  rintro n st - - ⟨i, rfl, hi, h1, h12, h13, h14, heq⟩
  have fx := And.intro h13 <| h14
  refine k_run ?_
  clear fx
  refine w_if (by simp []; first | done | rfl | exact (Bool.not_not _).symm) (fun ht => ?_) (fun hf => ?_)
  · have hlt : i < b.length := by simpa using ht
    obtain ⟨x, hxi⟩ : ∃ x, a[i]? = some x := ⟨_, gE (by omega)⟩
    obtain ⟨y, hyi⟩ : ∃ y, b[i]? = some y := ⟨_, gE hlt⟩
    clear ht
    all_goals have fx := And.intro h1 <| And.intro h12 <| And.intro h13 <| And.intro h14 <| And.intro hxi <| hyi
    repeat' (first
     | refine w_seq ?_ | refine w_block ?_ | refine w_skip ?_ | refine w_reg fun K hK => ?_
     | ((with_reducible refine s_end hK ?_); clear hK K)
     | (with_reducible first | refine then_normal ?_ | refine in_normal ?_ | refine then_exit ?_ | refine in_exit ?_ | refine then_ret ?_ | refine in_ret ?_ | refine in_other (by decide) ?_)
     | refine w_exit ?_
     | refine w_ret ?_
     | (with_reducible first | refine s_none ?_ | refine x_assign (h := ?_))
     | ((with_reducible refine o_id 116 rfl ?_); refine x_call (hF := slicesEqual_fn _ x y (hra x (List.mem_of_getElem? hxi)) (hrb y (List.mem_of_getElem? hyi))) (h := ?_))
     | (with_reducible refine x_q (h := ?_))
     | refine x_condt (h1 := ?_) | refine x_condf (h1 := ?_)
     | refine x_if (h1 := fun ht => ?_) (h2 := fun ht => ?_)
     | fail)
    all_goals try clear fx
    · refine e_ret [] .nil (by simp; rfl) ?_
      have hne : ¬ a = b := fun e => by rw [e, hyi] at hxi; obtain rfl := Option.some.inj hxi; simp at ht
      simp [hne]
    · have hxy : x = y := by simpa using ht
      refine ⟨a.length - (i + 1), by omega, i + 1, rfl, by omega, by simp [h1], by simp [h12], by simp [h13], by simp; exact wrp (by omega) (by omega), ?_⟩
      rw [List.take_add_one, List.take_add_one, heq, hxi, hyi, hxy]
  · have hge : i = b.length := by
      have : ¬ i < b.length := by simpa using hf
      omega
    have : a = b := by rw [hge, List.take_length, ← hl, List.take_length] at heq; exact heq
    have fx := fx0
    refine k_run ?_
    clear fx
    refine e_ret [] .nil (by simp []; rfl) (by simp [this])
theorem impl_ownersOf_fn (gl) (p : Prg) (hp : ShapeP p) : FnOk Tryz.prog gl 63 [pav p] (fun r y H' => y = .hs r 1 0 p.length ∧ IsTab H' r (ownersOf p)) := by
  have hl7 := hp.len
  have hh := hp.heads
  refine FnOk.of_sem Tryz.func63 rfl (by kernel_rfl) (rs := [.tmp 2]) rfl Tryz.ntmps63 (Nat.le_of_ble_eq_true rfl) fun C w g root => ?_
  have fx := fx0
  have e1 := scopesOf_fn gl p hp.sml hh hp.names
  refine k_run ?_
  clear fx e1
  first | rintro K hK y H' ⟨rfl, hO⟩ | rintro y H' ⟨rfl, hO⟩
  obtain ⟨ho1, ho2⟩ := hO.hcln
  refine ⟨by simp, ?_⟩
  have fx := fx0
  refine k_run ?_
  clear fx
  refine w_loop (fun n st => ∃ i : Nat, n = p.length - i ∧ i ≤ p.length ∧ st.tm 9 = .hs (.s 9) 1 0 p.length ∧ OwnS st.hp (.s 9) p p.length ∧ st.tm 10 = iv p.length ∧ st.tm 11 = iv i ∧ ∃ T : List (List Int), T = (List.range i).map (ownersAt p) ∧ T.length = i ∧ st.tm 3 = .hs (.s 3) 1 0 T.length ∧ IsTab st.hp (.s 3) T) p.length ?_ ?_
  · exact ⟨0, by simp, by simp, by simp, ⟨by simp [ho1], fun j k hj hk => by simp [ho2 j k hj hk]⟩, by simp, by simp, [], by simp, by simp, by simp, ⟨by simp, by simp⟩⟩
  clear ho1 ho2 hO
  rintro n st - - ⟨i, rfl, hi, h9, ⟨ho1, ho2⟩, h10, h11, T, hT, hTl, h3, ⟨ht1, ht2⟩⟩
  have fx := And.intro h10 <| h11
  refine k_run ?_
  clear fx
  refine w_if (by simp []; first | done | rfl | exact (Bool.not_not _).symm) (fun ht => ?_) (fun hf => ?_)
  · have hlt : i < p.length := by simpa using ht
    obtain ⟨k, hk⟩ : ∃ k, p[i]? = some k := ⟨_, gE hlt⟩
    have hsg := sRows_at (n := .s 9) hlt
    obtain ⟨_, hse⟩ := gS hsg
    clear ht
    have fx := And.intro h9 <| And.intro ho1 <| And.intro h10 <| And.intro h11 <| And.intro hsg <| And.intro hse <| hlt
    refine k_run ?_
    clear fx
    refine w_loop (fun n st => ∃ x : Nat, n = 8 - x ∧ x ≤ 8 ∧ st.tm 9 = .hs (.s 9) 1 0 p.length ∧ OwnS st.hp (.s 9) p p.length ∧ st.tm 10 = iv p.length ∧ st.tm 11 = iv i ∧ st.tm 3 = .hs (.s 3) 1 0 T.length ∧ IsTab st.hp (.s 3) T ∧ st.tm 5 = .pt (.c (.s 9) i 0) 0 ∧ st.tm 6 = .hs (.s 6) 1 0 8 ∧ st.hp (.s 6) = some (.row 1 (irows (rowTo (ownersRow p i k) x))) ∧ st.tm 17 = iv 8 ∧ st.tm 18 = iv x) 8 ?_ ?_
    · refine ⟨0, by simp, by simp, by simp [h9], ⟨by simp [ho1], fun j k hj hk => by simp [ho2 j k hj hk]⟩, by simp [h10], by simp [h11], by simp [h3], ⟨by simp [ht1], fun j r hj => by simp [ht2 j r hj]⟩, by simp, by simp, ?_, by simp, by simp⟩
      rw [rowTo_zero]
      simp [irows]
    clear h9 ho1 ho2 h10 h11 h3 ht1 ht2
    rintro n st - - ⟨x, rfl, hx, h9, ⟨ho1, ho2⟩, h10, h11, h3, ⟨ht1, ht2⟩, h5, h6, hp6, h17, h18⟩
    have fx := And.intro h17 <| h18
    refine k_run ?_
    clear fx
    refine w_if (by simp []; first | done | rfl | exact (Bool.not_not _).symm) (fun ht => ?_) (fun hf => ?_)
    · have h8 : (x : Int) < 8 := by simpa using ht
      have hx8 : x < 8 := by omega
      have hr := scopeRow_r (i := i) (k := k) (o := outP (.s 9) k.parent) (ps := k.params) hx8
      have hb := scopeRow_b (i := i) (k := k) (o := outP (.s 9) k.parent) (ps := k.params) hx8
      have hos := ho2 i k hlt hk
      have hrl := rowTo_len (O := ownersRow p i k) ownersRow_len (x := x) hx
      have hset := rowTo_set (O := ownersRow p i k) ownersRow_len hx8 (ownersRow_get (p := p) (b := i) hx8)
      have hget := ownersRow_get (p := p) (b := i) (k := k) hx8
      clear ht
      all_goals have fx := And.intro h6 <| And.intro hp6 <| And.intro h18 <| And.intro h5 <| And.intro hos <| And.intro hr <| And.intro hb <| And.intro h8 <| And.intro hx8 <| hrl
      repeat' (first
       | refine w_seq ?_ | refine w_block ?_ | refine w_skip ?_ | refine w_reg fun K hK => ?_
       | ((with_reducible refine s_end hK ?_); clear hK K)
       | (with_reducible first | refine then_normal ?_ | refine in_normal ?_ | refine then_exit ?_ | refine in_exit ?_ | refine then_ret ?_ | refine in_ret ?_ | refine in_other (by decide) ?_)
       | refine w_exit ?_
       | refine w_ret ?_
       | (with_reducible refine s_none ?_)
       | ((with_reducible refine g_id ?_); refine x_guard (h := ?_))
       | (with_reducible first | refine gx_tt ?_ | refine gx_ff ?_ | refine x_tf (h := ?_) | refine x_ft (h := ?_) | refine x_u (h := ?_) | refine x_assign (h := ?_) | refine x_box (h := ?_) | refine x_store0 (h := ?_) | refine x_append0 (T := 96) (h := ?_) | refine x_appendC (T := 96) (h := ?_) | refine x_make (h := ?_) | refine x_build (h := ?_))
       | ((with_reducible refine o_id 86 rfl ?_); refine x_call (hB := (by first | ((repeat' (first | exact .nil | refine .cons ?_ ?_ | exact .refl _ | exact bw_ints (by simp [fx]; first | done | rfl) (by first | (simp [fx]; done) | (simp [fx]; omega) | omega) | exact bw_list (by simp [fx]; first | done | rfl) (by first | (simp [fx]; done) | (simp [fx]; omega) | omega) (by first | (simp; done) | fail) | exact bw_sc (n := .s 9) (p := p) (k := k) ⟨by simp [ho1], fun j k hj hk => by simp [ho2 j k hj hk]⟩ hh hk)); done) | fail)) (hF := scope_owner_fn _ p hp i k hk x hx8) (h := ?_))
       | (with_reducible refine x_q (h := ?_))
       | (with_reducible refine gx_s (fun ht => ?_) (fun ht => ?_))
       | refine x_condt (h1 := ?_) | refine x_condf (h1 := ?_)
       | refine x_if (h1 := fun ht => ?_) (h2 := fun ht => ?_)
       | fail)
      all_goals try clear fx
      · have hm : (x : Int) ∈ k.rd ∨ (x : Int) ∈ k.bd := .inl (by simpa using ht)
        rw [if_pos hm] at hset
        refine ⟨8 - (x + 1), by omega, x + 1, rfl, by omega, by simp [h9], ⟨by simp [ho1], fun j k hj hk => by simp [ho2 j k hj hk]⟩, by simp [h10], by simp [h11], by simp [h3], ⟨by simp [ht1], fun j r hj => by simp [ht2 j r hj]⟩, by simp [h5], by simp [h6], ?_, by simp [h17], by simp; exact wrp (by omega) (by omega)⟩
        rw [← hset]
        simp
      · have hm : (x : Int) ∈ k.rd ∨ (x : Int) ∈ k.bd := .inr (by simpa using ht)
        rw [if_pos hm] at hset
        refine ⟨8 - (x + 1), by omega, x + 1, rfl, by omega, by simp [h9], ⟨by simp [ho1], fun j k hj hk => by simp [ho2 j k hj hk]⟩, by simp [h10], by simp [h11], by simp [h3], ⟨by simp [ht1], fun j r hj => by simp [ht2 j r hj]⟩, by simp [h5], by simp [h6], ?_, by simp [h17], by simp; exact wrp (by omega) (by omega)⟩
        rw [← hset]
        simp
      · rename_i ht0
        have hm : ¬ ((x : Int) ∈ k.rd ∨ (x : Int) ∈ k.bd) := by simp at ht ht0; simp [ht, ht0]
        rw [if_neg hm] at hset
        refine ⟨8 - (x + 1), by omega, x + 1, rfl, by omega, by simp [h9], ⟨by simp [ho1], fun j k hj hk => by simp [ho2 j k hj hk]⟩, by simp [h10], by simp [h11], by simp [h3], ⟨by simp [ht1], fun j r hj => by simp [ht2 j r hj]⟩, by simp [h5], by simp [h6], ?_, by simp [h17], by simp; exact wrp (by omega) (by omega)⟩
        rw [← hset]
        simp
    · have hge : x = 8 := by
        have : ¬ (x : Int) < 8 := by simpa using hf
        omega
      subst hge
      rw [rowTo_all ownersRow_len] at hp6
      have hrl := ownersRow_len (p := p) (b := i) (k := k)
      have hTb : T.length ≤ 7 := by omega
      have hat : ownersAt p i = ownersRow p i k := by simp only [ownersAt, hk]
      have fx := And.intro h3 <| And.intro ht1 <| And.intro h6 <| And.intro hp6 <| And.intro h11 <| hTb
      refine k_run ?_
      clear fx
      refine ⟨p.length - (i + 1), by omega, i + 1, rfl, by omega, by simp [h9], ⟨by simp [ho1], fun j k hj hk => by simp [ho2 j k hj hk]⟩, by simp [h10], by simp; exact wrp (by omega) (by omega), T ++ [ownersRow p i k], by rw [List.range_succ, List.map_append, hT]; simp [hat], by simp [hTl], by simp, ⟨?_, ?_⟩⟩
      · simp [tabRows_app, hrl]
      · intro j r hj
        rcases Nat.lt_or_ge j T.length with hlj | hgj
        · rw [List.getElem?_append_left hlj] at hj
          have hne : ¬ j = T.length := by omega
          simp [ht2 j r hj, hne]
        · rw [List.getElem?_append_right hgj] at hj
          obtain rfl : j = T.length := by
            have := (gS hj).1
            simp at this
            omega
          simp at hj
          subst hj
          simp [hp6]
  · have hge : i = p.length := by
      have : ¬ i < p.length := by simpa using hf
      omega
    have hTo : T = ownersOf p := by rw [hT, hge]; rfl
    subst hTo
    have hol : (ownersOf p).length = p.length := by simp [ownersOf]
    have fx := And.intro h3 <| ht1
    refine k_run ?_
    clear fx
    exact e_tab (t := 2) (by simp [hol]) ⟨by simp [ht1], fun j r hj => by simp [ht2 j r hj]⟩
end Go.Proofs.YtcbkblboonkfhaaGreat
end
section
namespace Go.Proofs.YtcbkblboonkfhaaGreat
open Go Go.Hm Go.Proofs
abbrev qsVb0 : Sch := .q 0 <| .q 1 <| .q 2 <| .q 3 <| .q 4 <| .q 5 <| .q 6 <| .q 7 <| .q 8 <| .l 9 [7, 6, 5, 4, 3, 2, 1, 0] <| .q 10 <| .q 11 <| .l 12 [10] <| .done
attribute [local simp] slcAV rowsIn
theorem isDeclB_fn (gl) (s : Stm) : FnOk Tryz.prog gl 119 [s.av] (fun _ x _ => x = bv (isDecl s)) := by
  have h := isDeclaration_fn gl s
  rw [show decide (s.kind = 9 ∨ s.kind = 10) = isDecl s by
    unfold isDecl
    by_cases h9 : s.kind = 9 <;> by_cases h10 : s.kind = 10 <;> simp [h9, h10]] at h
  exact h
theorem indexDecl_fn (gl) (ss : List Stm) (hl : ss.length ≤ 1048576) : FnOk Tryz.prog gl 162 [ssl ss, .sc (.func (.func 119) #[] #[])] (fun _ z _ => z = iv (fstD ss)) := by
  refine FnOk.of_sem Tryz.func162 rfl (by kernel_rfl) (rs := [.tmp 4]) rfl Tryz.ntmps162 (Nat.le_of_ble_eq_true rfl) fun C w g root => ?_
  have fx :=  hl
  refine k_run ?_
  clear fx
  refine w_loop (fun n st => ∃ i : Nat, n = ss.length - i ∧ i ≤ ss.length ∧ st.tm 0 = ssl ss ∧ st.tm 1 = .sc (.func (.func 119) #[] #[]) ∧ st.tm 7 = iv ss.length ∧ st.tm 8 = iv i ∧ ∀ (a : Nat) t, a < i → ss[a]? = some t → isDecl t = false) ss.length ⟨0, by simp⟩ ?_
  rintro n st - - ⟨i, rfl, hi, h0, h1, h7, h8, hno⟩
  by_cases hil : i < ss.length
  · obtain ⟨s, hs⟩ : ∃ s, ss[i]? = some s := ⟨_, gE hil⟩
    obtain ⟨_, hsE⟩ := gS hs
    have hf := isDeclB_fn gl s
    cases hd : isDecl s
    · rw [hd] at hf
      have fx := And.intro h0 <| And.intro h1 <| And.intro h7 <| And.intro h8 <| And.intro hil <| And.intro hs <| hsE
      refine k_run ?_
      clear fx
      intro K hK
      have fx := And.intro h1 h0
      refine x_callc (hF := hf) (h := ?_)
      clear fx
      have fx := And.intro h0 <| And.intro h1 <| And.intro h7 <| And.intro h8 <| And.intro hil <| And.intro hs <| hsE
      refine k_run ?_
      clear fx
      refine ⟨ss.length - (i + 1), by omega, i + 1, rfl, by omega, by simp [h0], by simp [h1], by simp [h7], by simp; exact wrp (by omega) (by omega), fun a t ha ht => ?_⟩
      rcases Nat.lt_succ_iff_lt_or_eq.1 ha with h | rfl
      · exact hno a t h ht
      · rw [hs] at ht
        obtain rfl := Option.some.inj ht
        exact hd
    · rw [hd] at hf
      have fx := And.intro h0 <| And.intro h1 <| And.intro h7 <| And.intro h8 <| And.intro hil <| And.intro hs <| hsE
      refine k_run ?_
      clear fx
      intro K hK
      have fx := And.intro h1 h0
      refine x_callc (hF := hf) (h := ?_)
      clear fx
      have fx := And.intro h0 <| And.intro h1 <| And.intro h7 <| And.intro h8 <| And.intro hil <| And.intro hs <| hsE
      refine k_run ?_
      clear fx
      refine e_ret [] .nil (by simp; rfl) ?_
      simp [fstD_some hs hd hno]
  · have hn : fstD ss = -1 := fstD_none fun s hs => by
      obtain ⟨a, ha⟩ := List.getElem?_of_mem hs
      exact hno a s (by have := (gS ha).1; omega) ha
    have fx := And.intro h0 <| And.intro h1 <| And.intro h7 <| And.intro h8 <| hil
    refine k_run ?_
    clear fx
    refine e_ret [] .nil (by simp; rfl) (by simp [hn])
theorem deleteDecl_fn (gl) (H : Nm → Option AO) (ss : List Stm) (hl : ss.length ≤ 1048576) (hH : H (.u 1 0 0) = some (.row 4 (srows ss))) :
    FnE Tryz.prog gl 118 (Nm.under (.u 1 0 0)) [.hs (.u 1 0 0) 4 0 ss.length, .sc (.func (.func 119) #[] #[])] H (fun _ z H' => z = .hs (.u 1 0 0) 4 0 (bareS ss).length ∧ H' (.u 1 0 0) = some (.row 4 (srows (bareS ss)))) noE := by
  have hix := indexDecl_fn gl ss hl
  refine FnE.of_sem Tryz.func118 rfl (by kernel_rfl) (rs := [.tmp 4]) rfl Tryz.ntmps118 (Nat.le_of_ble_eq_true rfl) (fun _ => under_usroot rfl) fun C w g root hroot => ?_
  rcases fstD_cases ss with hno | ⟨i0, s0, hs0, hd0, hno0⟩
  · rw [fstD_none hno] at hix
    have fx :=  hH
    have c1 := hix
    refine k_run ?_
    clear fx c1
    refine e_ret [] .nil (by simp; rfl) ?_
    rw [bareS_none hno]
    simp [hH]
  rw [fstD_some hs0 hd0 hno0] at hix
  have hi0 := (gS hs0).1
  have hne : ((i0 : Int) == -1) = false := by simp
  have hw0 : IntKind.i64.wrap ((i0 : Int) + 1) = (i0 + 1 : Nat) := by rw [wrp (by omega) (by omega)]; omega
  have fx := And.intro hH <| And.intro hne <| hw0
  have c1 := hix
  refine k_run ?_
  clear fx c1
  refine w_loop (fun n st => ∃ (i j : Nat) (R : List Stm), n = ss.length - j ∧ j ≤ ss.length ∧ DelI ss R i j ∧ st.tm 0 = .hs (.u 1 0 0) 4 0 ss.length ∧ st.hp (.u 1 0 0) = some (.row 4 (srows R)) ∧ st.tm 1 = .sc (.func (.func 119) #[] #[]) ∧ st.tm 5 = iv i ∧ st.tm 6 = iv j) (ss.length - (i0 + 1)) ⟨i0, i0 + 1, ss, rfl, by omega, .start hs0 hd0 hno0, by simp, by simp [hH], by simp, by simp, by simp⟩ ?_
  rintro n st - - ⟨i, j, R, rfl, hj, hI, h0, hp0, h1, h5, h6⟩
  have hRl := hI.len
  have hle := hI.le
  by_cases hjl : j < ss.length
  · obtain ⟨s, hs⟩ : ∃ s, ss[j]? = some s := ⟨_, gE hjl⟩
    have hR := hI.at hs
    obtain ⟨hRj, hRE⟩ := gS hR
    have hf := isDeclB_fn gl s
    have hil : i < ss.length := by omega
    have hiR : i < R.length := by omega
    cases hd : isDecl s
    · rw [hd] at hf
      have fx := And.intro h0 <| And.intro hp0 <| And.intro h1 <| And.intro h5 <| And.intro h6 <| And.intro hjl <| And.intro hR <| And.intro hRE <| hRj
      refine k_run ?_
      clear fx
      intro K hK
      have fx := And.intro h1 h0
      refine x_callc (hF := hf) (h := ?_)
      clear fx
      have fx := And.intro h0 <| And.intro hp0 <| And.intro h1 <| And.intro h5 <| And.intro h6 <| And.intro hjl <| And.intro hR <| And.intro hRE <| And.intro hRj <| And.intro hil <| hiR
      refine k_run ?_
      clear fx
      refine ⟨ss.length - (j + 1), by omega, i + 1, j + 1, R.set i s, rfl, by omega, hI.keep hs hd, by simp [h0], ?_, by simp [h1], by simp; exact wrp (by omega) (by omega), by simp; exact wrp (by omega) (by omega)⟩
      simp [srows_set]
    · rw [hd] at hf
      have fx := And.intro h0 <| And.intro hp0 <| And.intro h1 <| And.intro h5 <| And.intro h6 <| And.intro hjl <| And.intro hR <| And.intro hRE <| hRj
      refine k_run ?_
      clear fx
      intro K hK
      have fx := And.intro h1 h0
      refine x_callc (hF := hf) (h := ?_)
      clear fx
      have fx := And.intro h0 <| And.intro hp0 <| And.intro h1 <| And.intro h5 <| And.intro h6 <| And.intro hjl <| And.intro hR <| And.intro hRE <| And.intro hRj <| And.intro hil <| hiR
      refine k_run ?_
      clear fx
      exact ⟨ss.length - (j + 1), by omega, i, j + 1, R, rfl, by omega, hI.skip hs hd, by simp [h0], by simp [hp0], by simp [h1], by simp [h5], by simp; exact wrp (by omega) (by omega)⟩
  · obtain rfl : j = ss.length := by omega
    obtain ⟨hT, hib⟩ := hI.done
    have hile : i ≤ ss.length := by omega
    have hile' : (i : Int) ≤ ss.length := by omega
    have hRl' : (srows R).length = ss.length := by simp [hRl]
    have fx := And.intro h0 <| And.intro hp0 <| And.intro h1 <| And.intro h5 <| And.intro h6 <| And.intro hjl <| And.intro hile <| And.intro hile' <| And.intro hRl <| hRl'
    refine k_run ?_
    clear fx
    intro K hK
    have fx := And.intro h0 hp0
    refine o_cut (.u 1 0 0) i (z := 4) (rows := srows R) (by simp [hp0]) ?_
    rw [srows_take, hT]
    refine x_clear (F := 43) (z := 4) (lo := i) (len := ss.length - i) (n := .u 1 0 0) (rows := srows (bareS ss)) (zv := [iv 0, iv 0, iv 0, iv 0]) (by simp) (by simp) (by simp) (by simp) (by simp) (by simp; omega) ?_
    clear fx
    have fx := And.intro h0 <| And.intro hp0 <| And.intro h1 <| And.intro h5 <| And.intro h6 <| And.intro hjl <| And.intro hile <| And.intro hile' <| And.intro hRl <| hRl'
    refine k_run ?_
    clear fx
    refine e_ret [] .nil (by simp; rfl) ⟨by simp [hib], by simp⟩
theorem impl_BareProgram_fn (gl) (p : Prg) (hs : Sml p) (hv : shapeOk p = true) : FnOk Tryz.prog gl 62 [pav p] (fun r z H' => z = .agg [.hs r 4 0 (bareP p).length] ∧ OwnP H' r (bareP p)) := by
  have hpl := hs.len
  have hbp : p.map bareB = bareP p := rfl
  have hbl : (bareP p).length = p.length := by simp [bareP]
  rw [hbl]
  refine FnOk.of_sem Tryz.func62 rfl (by kernel_rfl) (rs := [.cell 2 29]) rfl Tryz.ntmps62 (Nat.le_of_ble_eq_true rfl) fun C w g root => ?_
  have fx :=  hv
  have c1 := hv ▸ impl_ValidShape_fn gl p hs
  have e1 := copyOf_fn gl p hs
  refine k_run ?_
  repeat ((first | refine wSc (id := 7) qsVb0 mixed ?_); refine k_rund ?_; refine k_run ?_)
  clear fx c1 e1
  rintro K hK z H' ⟨rfl, hO⟩
  obtain ⟨ho1, ho2, ho3⟩ := hO.hcln
  refine ⟨by simp, ?_⟩
  have fx :=  ho1
  refine k_run ?_
  repeat ((first | refine wSc (id := 7) qsVb0 mixed ?_); refine k_rund ?_; refine k_run ?_)
  clear fx
  refine w_loop (fun n st => ∃ i : Nat, n = p.length - i ∧ i ≤ p.length ∧ st.tm 3 = .pt (.s 3) 0 ∧ st.hp (.s 3) = some (.row 1 [[.hs (.c (.s 3) 0 0) 4 0 p.length]]) ∧ st.tm 2 = .pt (.s 2) 0 ∧ st.hp (.s 2) = some (.row 1 [[.hs (.c (.s 2) 0 0) 4 0 0]]) ∧ st.hp (.c (.s 2) 0 0) = some (.row 4 []) ∧ st.tm 13 = iv p.length ∧ st.tm 14 = iv i ∧ OwnP st.hp (.c (.s 3) 0 0) (mapTo bareB p i)) p.length ?_ ?_
  · refine ⟨0, by omega, by omega, by simp, by simp, by simp, by simp, by simp, by simp, by simp, ?_⟩
    rw [mapTo_zero]
    exact ⟨by simp [ho1], fun j r hj => by simp [ho2 j r hj], fun j r hj => by simp [ho3 j r hj]⟩
  clear ho1 ho2 ho3 hO
  rintro n st - - ⟨i, rfl, hi, h3, hp3, h2, hp2, hp2', h13, h14, ⟨ho1, ho2, ho3⟩⟩
  by_cases hil : i < p.length
  · obtain ⟨k, hk⟩ : ∃ k, p[i]? = some k := ⟨_, gE hil⟩
    obtain ⟨hkp, hkb⟩ := hs.bsm hk
    have hmg := mapTo_get (f := bareB) hk
    obtain ⟨hml', hmgE⟩ := gS hmg
    have hml := mapTo_len (f := bareB) (l := p) hi
    have hob := ho3 i k hmg
    have hset := pRows_setOwn (n := .c (.s 3) 0 0) (i := i) (len := (bareS k.body).length) (p := mapTo bareB p i) (L := bareS k.body) rfl
    have fx := And.intro h3 <| And.intro hp3 <| And.intro h13 <| And.intro h14 <| And.intro ho1 <| And.intro hmg <| And.intro hmgE <| And.intro hml <| hil
    refine k_run ?_
    repeat ((first | refine wSc (id := 7) qsVb0 mixed ?_); refine k_rund ?_; refine k_run ?_)
    clear fx
    intro K hK
    have fx := And.intro hil (And.intro h3 hp3)
    refine x_mutc (.c (.c (.s 3) 0 0) i 3) (.u 1 0 0) (hext := rfl) (hs := by simp [hob]) (hF := deleteDecl_fn _ _ k.body hkb (by simp [hob])) (h := ?_)
    rintro z H1 ⟨rfl, hy1⟩
    clear fx
    have fx := And.intro h3 <| And.intro hp3 <| And.intro h13 <| And.intro h14 <| And.intro ho1 <| And.intro hmg <| And.intro hmgE <| And.intro hml <| And.intro hil <| hset
    refine k_run ?_
    repeat ((first | refine wSc (id := 7) qsVb0 mixed ?_); refine k_rund ?_; refine k_run ?_)
    clear fx
    refine ⟨p.length - (i + 1), by omega, i + 1, rfl, by omega, by simp [h3], by simp [hp3], by simp [h2], by simp [hp2], by simp [hp2'], by simp [h13], by simp [h14]; exact wrp (by omega) (by omega), ?_⟩
    rw [← bareTo_step hk]
    refine ⟨by simp [ho1, hset], fun d r hd => ?_, fun d r hd => ?_⟩
    all_goals
      have hl : d < (mapTo bareB p i).length := by
        have := (gS hd).1
        rwa [setBody_len] at this
      obtain ⟨q, hq⟩ : ∃ q, (mapTo bareB p i)[d]? = some q := ⟨_, gE hl⟩
      rw [setBody_get hq] at hd
      obtain rfl := Option.some.inj hd
      by_cases hid : i = d
    · subst hid
      simp [ho2 i q hq]
    · simp [ho2 d q hq, hid, show ¬ d = i from fun e => hid e.symm]
    · subst hid
      simp [hy1]
    · simp [ho3 d q hq, hid, show ¬ d = i from fun e => hid e.symm]
  · obtain rfl : i = p.length := by omega
    rw [mapTo_all, hbp] at ho1 ho2 ho3
    have fx := And.intro h2 <| And.intro hp2 <| And.intro hp2' <| And.intro h3 <| And.intro hp3 <| And.intro h13 <| And.intro h14 <| hil
    refine k_run ?_
    repeat ((first | refine wSc (id := 7) qsVb0 mixed ?_); refine k_rund ?_; refine k_run ?_)
    clear fx
    refine e_ret [(.c (.s 3) 0 0, root)] (.one rfl) (by simp [h2]; rfl) ⟨by simp, ⟨?_, fun j r hj => ?_, fun j r hj => ?_⟩⟩
    · simp [ho1, pRows_tr (n := .c (.s 3) 0 0) (m := root) (f := finf noD [(.c (.s 3) 0 0, root)]) (p := bareP p) (by simp)]
    · simp [ho2 j r hj]
    · simp [ho3 j r hj]
end Go.Proofs.YtcbkblboonkfhaaGreat
end
