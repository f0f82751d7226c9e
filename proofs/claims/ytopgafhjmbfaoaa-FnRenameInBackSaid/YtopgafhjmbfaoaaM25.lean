/-
  Own texts, joined by mkclaim.py: Hq, Hn.
-/
import Derived.Test.YtopgafhjmbfaoaaM20
import Derived.Test.YtopgafhjmbfaoaaM10
import Derived.Test.YtopgafhjmbfaoaaM22

section
/-
  The program's function that gives a statement another name: what it returns.
-/
set_option maxRecDepth 100000
set_option maxHeartbeats 1000000
set_option linter.unusedSimpArgs false
namespace Go.Proofs.Ytopgafhjmbfaoaa
open Go Go.Hm Go.Proofs

def chg (s : Stm) (j : Nat) (x y : Int) : Stm := match j with
  | 1 => ⟨s.kind, swapI s.to x y, s.a, s.b⟩
  | 2 => ⟨s.kind, s.to, swapI s.a x y, s.b⟩
  | _ => ⟨s.kind, s.to, s.a, swapI s.b x y⟩

theorem renamed1_fn (gl) (H : Nm → Option AO) (n to a b x y : Int) (j : Nat) (hj : j = 1 ∨ j = 2 ∨ j = 3) (hH : H (.u 1 0 0) = some (.row 4 [[iv n, iv to, iv a, iv b]])) :
    FnE Try.prog gl 94 (Nm.under (.u 1 0 0)) [.pt (.u 1 0 0) j, .el [iv x] 0, .el [iv y] 0] H (fun _ z H' => H' (.u 1 0 0) = some (.row 4 [(chg ⟨n, to, a, b⟩ j x y).cells])) noE := by
  refine FnE.of_sem Try.func94 rfl (by kernel_rfl) (rs := []) rfl Try.ntmps94 (Nat.le_of_ble_eq_true rfl) (fun _ => under_usroot rfl) fun C w g root hroot => ?_
  rcases hj with rfl | rfl | rfl
  · cases hx : (to == x)
    · have hne : ¬ to = x := by simpa using hx
      all_goals have fx := And.intro hH <| hx
      repeat' (first
       | refine w_seq ?_ | refine w_skip ?_
       | (with_reducible first | refine then_normal ?_)
       | refine x_condf (h1 := ?_)
       | (refine w_sch (id := 0) (.q 0 <| .q 1 <| .q 2 <| .q 3 <| .q 4 <| .done) mixed (by kernel_rfl) (by kernel_rfl) fun K hK => ?_)
       | ((with_reducible refine a_end hK ?_); clear hK K)
       | ((with_reducible refine a_id ?_); first | refine xa_q (h := ?_))
       | fail)
      all_goals try clear fx
      refine e_norm [] .nil rfl ?_
      simp [chg, swapI, hne, hH, Stm.cells]
    · have he : to = x := by simpa using hx
      all_goals have fx := And.intro hH <| hx
      repeat' (first
       | refine w_seq ?_ | refine w_reg fun K hK => ?_
       | ((with_reducible refine s_end hK ?_); clear hK K)
       | (with_reducible first | refine then_normal ?_)
       | (with_reducible first | refine s_none ?_ | refine x_store0 (h := ?_))
       | (with_reducible refine x_q (h := ?_))
       | refine x_condt (h1 := ?_)
       | (refine w_sch (id := 0) (.q 0 <| .q 1 <| .q 2 <| .q 3 <| .q 4 <| .done) mixed (by kernel_rfl) (by kernel_rfl) fun K hK => ?_)
       | ((with_reducible refine a_end hK ?_); clear hK K)
       | ((with_reducible refine a_id ?_); first | refine xa_q (h := ?_))
       | fail)
      all_goals try clear fx
      refine e_norm [] .nil rfl ?_
      simp [chg, swapI, he, hH, Stm.cells]
  · cases hx : (a == x)
    · have hne : ¬ a = x := by simpa using hx
      all_goals have fx := And.intro hH <| hx
      repeat' (first
       | refine w_seq ?_ | refine w_skip ?_
       | (with_reducible first | refine then_normal ?_)
       | refine x_condf (h1 := ?_)
       | (refine w_sch (id := 0) (.q 0 <| .q 1 <| .q 2 <| .q 3 <| .q 4 <| .done) mixed (by kernel_rfl) (by kernel_rfl) fun K hK => ?_)
       | ((with_reducible refine a_end hK ?_); clear hK K)
       | ((with_reducible refine a_id ?_); first | refine xa_q (h := ?_))
       | fail)
      all_goals try clear fx
      refine e_norm [] .nil rfl ?_
      simp [chg, swapI, hne, hH, Stm.cells]
    · have he : a = x := by simpa using hx
      all_goals have fx := And.intro hH <| hx
      repeat' (first
       | refine w_seq ?_ | refine w_reg fun K hK => ?_
       | ((with_reducible refine s_end hK ?_); clear hK K)
       | (with_reducible first | refine then_normal ?_)
       | (with_reducible first | refine s_none ?_ | refine x_store0 (h := ?_))
       | (with_reducible refine x_q (h := ?_))
       | refine x_condt (h1 := ?_)
       | (refine w_sch (id := 0) (.q 0 <| .q 1 <| .q 2 <| .q 3 <| .q 4 <| .done) mixed (by kernel_rfl) (by kernel_rfl) fun K hK => ?_)
       | ((with_reducible refine a_end hK ?_); clear hK K)
       | ((with_reducible refine a_id ?_); first | refine xa_q (h := ?_))
       | fail)
      all_goals try clear fx
      refine e_norm [] .nil rfl ?_
      simp [chg, swapI, he, hH, Stm.cells]
  · cases hx : (b == x)
    · have hne : ¬ b = x := by simpa using hx
      all_goals have fx := And.intro hH <| hx
      repeat' (first
       | refine w_seq ?_ | refine w_skip ?_
       | (with_reducible first | refine then_normal ?_)
       | refine x_condf (h1 := ?_)
       | (refine w_sch (id := 0) (.q 0 <| .q 1 <| .q 2 <| .q 3 <| .q 4 <| .done) mixed (by kernel_rfl) (by kernel_rfl) fun K hK => ?_)
       | ((with_reducible refine a_end hK ?_); clear hK K)
       | ((with_reducible refine a_id ?_); first | refine xa_q (h := ?_))
       | fail)
      all_goals try clear fx
      refine e_norm [] .nil rfl ?_
      simp [chg, swapI, hne, hH, Stm.cells]
    · have he : b = x := by simpa using hx
      all_goals have fx := And.intro hH <| hx
      repeat' (first
       | refine w_seq ?_ | refine w_reg fun K hK => ?_
       | ((with_reducible refine s_end hK ?_); clear hK K)
       | (with_reducible first | refine then_normal ?_)
       | (with_reducible first | refine s_none ?_ | refine x_store0 (h := ?_))
       | (with_reducible refine x_q (h := ?_))
       | refine x_condt (h1 := ?_)
       | (refine w_sch (id := 0) (.q 0 <| .q 1 <| .q 2 <| .q 3 <| .q 4 <| .done) mixed (by kernel_rfl) (by kernel_rfl) fun K hK => ?_)
       | ((with_reducible refine a_end hK ?_); clear hK K)
       | ((with_reducible refine a_id ?_); first | refine xa_q (h := ?_))
       | fail)
      all_goals try clear fx
      refine e_norm [] .nil rfl ?_
      simp [chg, swapI, he, hH, Stm.cells]

theorem impl_renamed_fn (gl) (s : Stm) (x y : Int) (hk : 0 ≤ s.kind ∧ s.kind ≤ 11) : FnOk Try.prog gl 53 [s.av, iv x, iv y] (fun _ z _ => z = (s.ren x y).av) := by
  obtain ⟨n, to, a, b⟩ := s
  refine FnOk.of_sem Try.func53 rfl (by kernel_rfl) (rs := [.cell 6 69]) rfl Try.ntmps53 (Nat.le_of_ble_eq_true rfl) fun C w g root => ?_
  rcases kind_cases n with rfl | rfl | rfl | rfl | rfl | rfl | rfl | rfl | rfl | rfl | rfl | rfl | hn
  case inr.inr.inr.inr.inr.inr.inr.inr.inr.inr.inr.inr => exact absurd hk hn
  · skip
    all_goals have fx := fx0
    repeat' (first
     | refine w_seq ?_ | refine w_block ?_ | refine w_skip ?_ | refine w_reg fun K hK => ?_
     | ((with_reducible refine s_end hK ?_); clear hK K)
     | (with_reducible first | refine then_normal ?_)
     | (with_reducible first | refine s_none ?_ | refine x_assign (h := ?_) | refine x_box (h := ?_) | refine x_alloc (h := ?_))
     | ((with_reducible refine o_id 95 rfl ?_); refine x_call (hF := formOf_fn _ ⟨0, to, a, b⟩) (h := ?_))
     | (with_reducible refine x_q (h := ?_))
     | refine x_condf (h1 := ?_)
     | fail)
    all_goals try clear fx
    refine x_mutvc (f := 94) (.s 3) (.u 1 0 0) (hext := rfl) (hs := by simp) (xs := []) (ys := [.pt (.s 4) 0, .pt (.s 5) 0]) (avs := [.pt (.u 1 0 0) 1, .pt (.s 4) 0, .pt (.s 5) 0]) (hv := by simp) (ha := by simp) (hB := .cons (.refl _) (.cons (bw_box (by simp)) (.cons (bw_box (by simp)) .nil))) (hF := renamed1_fn _ _ 0 to a b x y 1 (by decide) (by simp)) (h := ?_)
    rintro z H0 hy0
    have hc0 := hcln_row hy0 (by simp)
    simp only [chg, Stm.cells] at hc0
    clear hy0
    all_goals have fx :=  hc0
    repeat' (first
     | refine w_seq ?_ | refine w_reg fun K hK => ?_
     | ((with_reducible refine s_end hK ?_); clear hK K)
     | (with_reducible first | refine then_normal ?_)
     | refine w_ret ?_
     | (with_reducible first | refine s_none ?_ | refine x_store0 (h := ?_))
     | (with_reducible refine x_q (h := ?_))
     | fail)
    all_goals try clear fx
    refine e_ret [] .nil (by simp [hc0]; rfl) ?_
    simp [Stm.ren, Stm.av]
  · skip
    all_goals have fx := fx0
    repeat' (first
     | refine w_seq ?_ | refine w_block ?_ | refine w_reg fun K hK => ?_
     | ((with_reducible refine s_end hK ?_); clear hK K)
     | (with_reducible first | refine then_normal ?_)
     | (with_reducible first | refine s_none ?_ | refine x_assign (h := ?_) | refine x_box (h := ?_) | refine x_alloc (h := ?_))
     | ((with_reducible refine o_id 95 rfl ?_); refine x_call (hF := formOf_fn _ ⟨1, to, a, b⟩) (h := ?_))
     | (with_reducible refine x_q (h := ?_))
     | refine x_condt (h1 := ?_)
     | fail)
    all_goals try clear fx
    refine x_mutvc (f := 94) (.s 3) (.u 1 0 0) (hext := rfl) (hs := by simp) (xs := []) (ys := [.pt (.s 4) 0, .pt (.s 5) 0]) (avs := [.pt (.u 1 0 0) 2, .pt (.s 4) 0, .pt (.s 5) 0]) (hv := by simp) (ha := by simp) (hB := .cons (.refl _) (.cons (bw_box (by simp)) (.cons (bw_box (by simp)) .nil))) (hF := renamed1_fn _ _ 1 to a b x y 2 (by decide) (by simp)) (h := ?_)
    rintro z H0 hy0
    have hc0 := hcln_row hy0 (by simp)
    simp only [chg, Stm.cells] at hc0
    clear hy0
    all_goals have fx :=  hc0
    repeat' (first
     | refine w_seq ?_ | refine w_reg fun K hK => ?_
     | ((with_reducible refine s_end hK ?_); clear hK K)
     | (with_reducible first | refine s_none ?_)
     | (with_reducible refine x_q (h := ?_))
     | fail)
    all_goals try clear fx
    refine x_mutvc (f := 94) (.s 3) (.u 1 0 0) (hext := rfl) (hs := by simp [hc0]) (xs := []) (ys := [.pt (.s 4) 0, .pt (.s 5) 0]) (avs := [.pt (.u 1 0 0) 1, .pt (.s 4) 0, .pt (.s 5) 0]) (hv := by simp) (ha := by simp) (hB := .cons (.refl _) (.cons (bw_box (by simp)) (.cons (bw_box (by simp)) .nil))) (hF := renamed1_fn _ _ 1 to (swapI a x y) b x y 1 (by decide) (by simp [hc0])) (h := ?_)
    rintro z H1 hy1
    have hc1 := hcln_row hy1 (by simp)
    simp only [chg, Stm.cells] at hc1
    clear hy1
    all_goals have fx :=  hc1
    repeat' (first
     | refine w_seq ?_ | refine w_reg fun K hK => ?_
     | ((with_reducible refine s_end hK ?_); clear hK K)
     | (with_reducible first | refine then_normal ?_)
     | refine w_ret ?_
     | (with_reducible first | refine s_none ?_ | refine x_store0 (h := ?_))
     | (with_reducible refine x_q (h := ?_))
     | fail)
    all_goals try clear fx
    refine e_ret [] .nil (by simp [hc1]; rfl) ?_
    simp [Stm.ren, Stm.av]
  · skip
    all_goals have fx := fx0
    repeat' (first
     | refine w_seq ?_ | refine w_block ?_ | refine w_reg fun K hK => ?_
     | ((with_reducible refine s_end hK ?_); clear hK K)
     | (with_reducible first | refine then_normal ?_)
     | (with_reducible first | refine s_none ?_ | refine x_assign (h := ?_) | refine x_box (h := ?_) | refine x_alloc (h := ?_))
     | ((with_reducible refine o_id 95 rfl ?_); refine x_call (hF := formOf_fn _ ⟨2, to, a, b⟩) (h := ?_))
     | (with_reducible refine x_q (h := ?_))
     | refine x_condt (h1 := ?_) | refine x_condf (h1 := ?_)
     | fail)
    all_goals try clear fx
    refine x_mutvc (f := 94) (.s 3) (.u 1 0 0) (hext := rfl) (hs := by simp) (xs := []) (ys := [.pt (.s 4) 0, .pt (.s 5) 0]) (avs := [.pt (.u 1 0 0) 2, .pt (.s 4) 0, .pt (.s 5) 0]) (hv := by simp) (ha := by simp) (hB := .cons (.refl _) (.cons (bw_box (by simp)) (.cons (bw_box (by simp)) .nil))) (hF := renamed1_fn _ _ 2 to a b x y 2 (by decide) (by simp)) (h := ?_)
    rintro z H0 hy0
    have hc0 := hcln_row hy0 (by simp)
    simp only [chg, Stm.cells] at hc0
    clear hy0
    all_goals have fx :=  hc0
    repeat' (first
     | refine w_reg fun K hK => ?_
     | ((with_reducible refine s_end hK ?_); clear hK K)
     | (with_reducible first | refine s_none ?_)
     | (with_reducible refine x_q (h := ?_))
     | fail)
    all_goals try clear fx
    refine x_mutvc (f := 94) (.s 3) (.u 1 0 0) (hext := rfl) (hs := by simp [hc0]) (xs := []) (ys := [.pt (.s 4) 0, .pt (.s 5) 0]) (avs := [.pt (.u 1 0 0) 3, .pt (.s 4) 0, .pt (.s 5) 0]) (hv := by simp) (ha := by simp) (hB := .cons (.refl _) (.cons (bw_box (by simp)) (.cons (bw_box (by simp)) .nil))) (hF := renamed1_fn _ _ 2 to (swapI a x y) b x y 3 (by decide) (by simp [hc0])) (h := ?_)
    rintro z H1 hy1
    have hc1 := hcln_row hy1 (by simp)
    simp only [chg, Stm.cells] at hc1
    clear hy1
    all_goals have fx :=  hc1
    repeat' (first
     | refine w_seq ?_ | refine w_reg fun K hK => ?_
     | ((with_reducible refine s_end hK ?_); clear hK K)
     | (with_reducible first | refine s_none ?_)
     | (with_reducible refine x_q (h := ?_))
     | fail)
    all_goals try clear fx
    refine x_mutvc (f := 94) (.s 3) (.u 1 0 0) (hext := rfl) (hs := by simp [hc1]) (xs := []) (ys := [.pt (.s 4) 0, .pt (.s 5) 0]) (avs := [.pt (.u 1 0 0) 1, .pt (.s 4) 0, .pt (.s 5) 0]) (hv := by simp) (ha := by simp) (hB := .cons (.refl _) (.cons (bw_box (by simp)) (.cons (bw_box (by simp)) .nil))) (hF := renamed1_fn _ _ 2 to (swapI a x y) (swapI b x y) x y 1 (by decide) (by simp [hc1])) (h := ?_)
    rintro z H2 hy2
    have hc2 := hcln_row hy2 (by simp)
    simp only [chg, Stm.cells] at hc2
    clear hy2
    all_goals have fx :=  hc2
    repeat' (first
     | refine w_seq ?_ | refine w_reg fun K hK => ?_
     | ((with_reducible refine s_end hK ?_); clear hK K)
     | (with_reducible first | refine then_normal ?_)
     | refine w_ret ?_
     | (with_reducible first | refine s_none ?_ | refine x_store0 (h := ?_))
     | (with_reducible refine x_q (h := ?_))
     | fail)
    all_goals try clear fx
    refine e_ret [] .nil (by simp [hc2]; rfl) ?_
    simp [Stm.ren, Stm.av]
  · skip
    all_goals have fx := fx0
    repeat' (first
     | refine w_seq ?_ | refine w_block ?_ | refine w_skip ?_ | refine w_reg fun K hK => ?_
     | ((with_reducible refine s_end hK ?_); clear hK K)
     | (with_reducible first | refine then_normal ?_)
     | (with_reducible first | refine s_none ?_ | refine x_assign (h := ?_) | refine x_box (h := ?_) | refine x_alloc (h := ?_))
     | ((with_reducible refine o_id 95 rfl ?_); refine x_call (hF := formOf_fn _ ⟨3, to, a, b⟩) (h := ?_))
     | (with_reducible refine x_q (h := ?_))
     | refine x_condf (h1 := ?_)
     | fail)
    all_goals try clear fx
    refine x_mutvc (f := 94) (.s 3) (.u 1 0 0) (hext := rfl) (hs := by simp) (xs := []) (ys := [.pt (.s 4) 0, .pt (.s 5) 0]) (avs := [.pt (.u 1 0 0) 1, .pt (.s 4) 0, .pt (.s 5) 0]) (hv := by simp) (ha := by simp) (hB := .cons (.refl _) (.cons (bw_box (by simp)) (.cons (bw_box (by simp)) .nil))) (hF := renamed1_fn _ _ 3 to a b x y 1 (by decide) (by simp)) (h := ?_)
    rintro z H0 hy0
    have hc0 := hcln_row hy0 (by simp)
    simp only [chg, Stm.cells] at hc0
    clear hy0
    all_goals have fx :=  hc0
    repeat' (first
     | refine w_seq ?_ | refine w_reg fun K hK => ?_
     | ((with_reducible refine s_end hK ?_); clear hK K)
     | (with_reducible first | refine then_normal ?_)
     | refine w_ret ?_
     | (with_reducible first | refine s_none ?_ | refine x_store0 (h := ?_))
     | (with_reducible refine x_q (h := ?_))
     | fail)
    all_goals try clear fx
    refine e_ret [] .nil (by simp [hc0]; rfl) ?_
    simp [Stm.ren, Stm.av]
  · skip
    all_goals have fx := fx0
    repeat' (first
     | refine w_seq ?_ | refine w_block ?_ | refine w_skip ?_ | refine w_reg fun K hK => ?_
     | ((with_reducible refine s_end hK ?_); clear hK K)
     | (with_reducible first | refine then_normal ?_)
     | (with_reducible first | refine s_none ?_ | refine x_assign (h := ?_) | refine x_box (h := ?_) | refine x_alloc (h := ?_))
     | ((with_reducible refine o_id 95 rfl ?_); refine x_call (hF := formOf_fn _ ⟨4, to, a, b⟩) (h := ?_))
     | (with_reducible refine x_q (h := ?_))
     | refine x_condf (h1 := ?_)
     | fail)
    all_goals try clear fx
    refine x_mutvc (f := 94) (.s 3) (.u 1 0 0) (hext := rfl) (hs := by simp) (xs := []) (ys := [.pt (.s 4) 0, .pt (.s 5) 0]) (avs := [.pt (.u 1 0 0) 1, .pt (.s 4) 0, .pt (.s 5) 0]) (hv := by simp) (ha := by simp) (hB := .cons (.refl _) (.cons (bw_box (by simp)) (.cons (bw_box (by simp)) .nil))) (hF := renamed1_fn _ _ 4 to a b x y 1 (by decide) (by simp)) (h := ?_)
    rintro z H0 hy0
    have hc0 := hcln_row hy0 (by simp)
    simp only [chg, Stm.cells] at hc0
    clear hy0
    all_goals have fx :=  hc0
    repeat' (first
     | refine w_seq ?_ | refine w_reg fun K hK => ?_
     | ((with_reducible refine s_end hK ?_); clear hK K)
     | (with_reducible first | refine then_normal ?_)
     | refine w_ret ?_
     | (with_reducible first | refine s_none ?_ | refine x_store0 (h := ?_))
     | (with_reducible refine x_q (h := ?_))
     | fail)
    all_goals try clear fx
    refine e_ret [] .nil (by simp [hc0]; rfl) ?_
    simp [Stm.ren, Stm.av]
  · skip
    all_goals have fx := fx0
    repeat' (first
     | refine w_seq ?_ | refine w_block ?_ | refine w_reg fun K hK => ?_
     | ((with_reducible refine s_end hK ?_); clear hK K)
     | (with_reducible first | refine then_normal ?_)
     | (with_reducible first | refine s_none ?_ | refine x_assign (h := ?_) | refine x_box (h := ?_) | refine x_alloc (h := ?_))
     | ((with_reducible refine o_id 95 rfl ?_); refine x_call (hF := formOf_fn _ ⟨5, to, a, b⟩) (h := ?_))
     | (with_reducible refine x_q (h := ?_))
     | refine x_condt (h1 := ?_) | refine x_condf (h1 := ?_)
     | fail)
    all_goals try clear fx
    refine x_mutvc (f := 94) (.s 3) (.u 1 0 0) (hext := rfl) (hs := by simp) (xs := []) (ys := [.pt (.s 4) 0, .pt (.s 5) 0]) (avs := [.pt (.u 1 0 0) 2, .pt (.s 4) 0, .pt (.s 5) 0]) (hv := by simp) (ha := by simp) (hB := .cons (.refl _) (.cons (bw_box (by simp)) (.cons (bw_box (by simp)) .nil))) (hF := renamed1_fn _ _ 5 to a b x y 2 (by decide) (by simp)) (h := ?_)
    rintro z H0 hy0
    have hc0 := hcln_row hy0 (by simp)
    simp only [chg, Stm.cells] at hc0
    clear hy0
    all_goals have fx :=  hc0
    repeat' (first
     | refine w_reg fun K hK => ?_
     | ((with_reducible refine s_end hK ?_); clear hK K)
     | (with_reducible first | refine s_none ?_)
     | (with_reducible refine x_q (h := ?_))
     | fail)
    all_goals try clear fx
    refine x_mutvc (f := 94) (.s 3) (.u 1 0 0) (hext := rfl) (hs := by simp [hc0]) (xs := []) (ys := [.pt (.s 4) 0, .pt (.s 5) 0]) (avs := [.pt (.u 1 0 0) 3, .pt (.s 4) 0, .pt (.s 5) 0]) (hv := by simp) (ha := by simp) (hB := .cons (.refl _) (.cons (bw_box (by simp)) (.cons (bw_box (by simp)) .nil))) (hF := renamed1_fn _ _ 5 to (swapI a x y) b x y 3 (by decide) (by simp [hc0])) (h := ?_)
    rintro z H1 hy1
    have hc1 := hcln_row hy1 (by simp)
    simp only [chg, Stm.cells] at hc1
    clear hy1
    all_goals have fx :=  hc1
    repeat' (first
     | refine w_seq ?_ | refine w_reg fun K hK => ?_
     | ((with_reducible refine s_end hK ?_); clear hK K)
     | (with_reducible first | refine s_none ?_)
     | (with_reducible refine x_q (h := ?_))
     | fail)
    all_goals try clear fx
    refine x_mutvc (f := 94) (.s 3) (.u 1 0 0) (hext := rfl) (hs := by simp [hc1]) (xs := []) (ys := [.pt (.s 4) 0, .pt (.s 5) 0]) (avs := [.pt (.u 1 0 0) 1, .pt (.s 4) 0, .pt (.s 5) 0]) (hv := by simp) (ha := by simp) (hB := .cons (.refl _) (.cons (bw_box (by simp)) (.cons (bw_box (by simp)) .nil))) (hF := renamed1_fn _ _ 5 to (swapI a x y) (swapI b x y) x y 1 (by decide) (by simp [hc1])) (h := ?_)
    rintro z H2 hy2
    have hc2 := hcln_row hy2 (by simp)
    simp only [chg, Stm.cells] at hc2
    clear hy2
    all_goals have fx :=  hc2
    repeat' (first
     | refine w_seq ?_ | refine w_reg fun K hK => ?_
     | ((with_reducible refine s_end hK ?_); clear hK K)
     | (with_reducible first | refine then_normal ?_)
     | refine w_ret ?_
     | (with_reducible first | refine s_none ?_ | refine x_store0 (h := ?_))
     | (with_reducible refine x_q (h := ?_))
     | fail)
    all_goals try clear fx
    refine e_ret [] .nil (by simp [hc2]; rfl) ?_
    simp [Stm.ren, Stm.av]
  · skip
    all_goals have fx := fx0
    repeat' (first
     | refine w_seq ?_ | refine w_block ?_ | refine w_reg fun K hK => ?_
     | ((with_reducible refine s_end hK ?_); clear hK K)
     | (with_reducible first | refine then_normal ?_)
     | (with_reducible first | refine s_none ?_ | refine x_assign (h := ?_) | refine x_box (h := ?_) | refine x_alloc (h := ?_))
     | ((with_reducible refine o_id 95 rfl ?_); refine x_call (hF := formOf_fn _ ⟨6, to, a, b⟩) (h := ?_))
     | (with_reducible refine x_q (h := ?_))
     | refine x_condt (h1 := ?_)
     | fail)
    all_goals try clear fx
    refine x_mutvc (f := 94) (.s 3) (.u 1 0 0) (hext := rfl) (hs := by simp) (xs := []) (ys := [.pt (.s 4) 0, .pt (.s 5) 0]) (avs := [.pt (.u 1 0 0) 2, .pt (.s 4) 0, .pt (.s 5) 0]) (hv := by simp) (ha := by simp) (hB := .cons (.refl _) (.cons (bw_box (by simp)) (.cons (bw_box (by simp)) .nil))) (hF := renamed1_fn _ _ 6 to a b x y 2 (by decide) (by simp)) (h := ?_)
    rintro z H0 hy0
    have hc0 := hcln_row hy0 (by simp)
    simp only [chg, Stm.cells] at hc0
    clear hy0
    all_goals have fx :=  hc0
    repeat' (first
     | refine w_seq ?_ | refine w_reg fun K hK => ?_
     | ((with_reducible refine s_end hK ?_); clear hK K)
     | (with_reducible first | refine s_none ?_)
     | (with_reducible refine x_q (h := ?_))
     | fail)
    all_goals try clear fx
    refine x_mutvc (f := 94) (.s 3) (.u 1 0 0) (hext := rfl) (hs := by simp [hc0]) (xs := []) (ys := [.pt (.s 4) 0, .pt (.s 5) 0]) (avs := [.pt (.u 1 0 0) 1, .pt (.s 4) 0, .pt (.s 5) 0]) (hv := by simp) (ha := by simp) (hB := .cons (.refl _) (.cons (bw_box (by simp)) (.cons (bw_box (by simp)) .nil))) (hF := renamed1_fn _ _ 6 to (swapI a x y) b x y 1 (by decide) (by simp [hc0])) (h := ?_)
    rintro z H1 hy1
    have hc1 := hcln_row hy1 (by simp)
    simp only [chg, Stm.cells] at hc1
    clear hy1
    all_goals have fx :=  hc1
    repeat' (first
     | refine w_seq ?_ | refine w_reg fun K hK => ?_
     | ((with_reducible refine s_end hK ?_); clear hK K)
     | (with_reducible first | refine then_normal ?_)
     | refine w_ret ?_
     | (with_reducible first | refine s_none ?_ | refine x_store0 (h := ?_))
     | (with_reducible refine x_q (h := ?_))
     | fail)
    all_goals try clear fx
    refine e_ret [] .nil (by simp [hc1]; rfl) ?_
    simp [Stm.ren, Stm.av]
  · skip
    all_goals have fx := fx0
    repeat' (first
     | refine w_seq ?_ | refine w_block ?_ | refine w_reg fun K hK => ?_
     | ((with_reducible refine s_end hK ?_); clear hK K)
     | (with_reducible first | refine then_normal ?_)
     | (with_reducible first | refine s_none ?_ | refine x_assign (h := ?_) | refine x_box (h := ?_) | refine x_alloc (h := ?_))
     | ((with_reducible refine o_id 95 rfl ?_); refine x_call (hF := formOf_fn _ ⟨7, to, a, b⟩) (h := ?_))
     | (with_reducible refine x_q (h := ?_))
     | refine x_condt (h1 := ?_) | refine x_condf (h1 := ?_)
     | fail)
    all_goals try clear fx
    refine x_mutvc (f := 94) (.s 3) (.u 1 0 0) (hext := rfl) (hs := by simp) (xs := []) (ys := [.pt (.s 4) 0, .pt (.s 5) 0]) (avs := [.pt (.u 1 0 0) 2, .pt (.s 4) 0, .pt (.s 5) 0]) (hv := by simp) (ha := by simp) (hB := .cons (.refl _) (.cons (bw_box (by simp)) (.cons (bw_box (by simp)) .nil))) (hF := renamed1_fn _ _ 7 to a b x y 2 (by decide) (by simp)) (h := ?_)
    rintro z H0 hy0
    have hc0 := hcln_row hy0 (by simp)
    simp only [chg, Stm.cells] at hc0
    clear hy0
    all_goals have fx :=  hc0
    repeat' (first
     | refine w_seq ?_ | refine w_reg fun K hK => ?_
     | ((with_reducible refine s_end hK ?_); clear hK K)
     | (with_reducible first | refine then_normal ?_ | refine then_ret ?_ | refine in_ret ?_)
     | refine w_ret ?_
     | (with_reducible first | refine s_none ?_ | refine x_store0 (h := ?_))
     | (with_reducible refine x_q (h := ?_))
     | fail)
    all_goals try clear fx
    refine e_ret [] .nil (by simp [hc0]; rfl) ?_
    simp [Stm.ren, Stm.av]
  · skip
    all_goals have fx := fx0
    repeat' (first
     | refine w_seq ?_ | refine w_block ?_ | refine w_reg fun K hK => ?_
     | ((with_reducible refine s_end hK ?_); clear hK K)
     | (with_reducible first | refine then_normal ?_)
     | (with_reducible first | refine s_none ?_ | refine x_assign (h := ?_) | refine x_box (h := ?_) | refine x_alloc (h := ?_))
     | ((with_reducible refine o_id 95 rfl ?_); refine x_call (hF := formOf_fn _ ⟨8, to, a, b⟩) (h := ?_))
     | (with_reducible refine x_q (h := ?_))
     | refine x_condt (h1 := ?_) | refine x_condf (h1 := ?_)
     | fail)
    all_goals try clear fx
    refine x_mutvc (f := 94) (.s 3) (.u 1 0 0) (hext := rfl) (hs := by simp) (xs := []) (ys := [.pt (.s 4) 0, .pt (.s 5) 0]) (avs := [.pt (.u 1 0 0) 2, .pt (.s 4) 0, .pt (.s 5) 0]) (hv := by simp) (ha := by simp) (hB := .cons (.refl _) (.cons (bw_box (by simp)) (.cons (bw_box (by simp)) .nil))) (hF := renamed1_fn _ _ 8 to a b x y 2 (by decide) (by simp)) (h := ?_)
    rintro z H0 hy0
    have hc0 := hcln_row hy0 (by simp)
    simp only [chg, Stm.cells] at hc0
    clear hy0
    all_goals have fx :=  hc0
    repeat' (first
     | refine w_seq ?_ | refine w_reg fun K hK => ?_
     | ((with_reducible refine s_end hK ?_); clear hK K)
     | (with_reducible first | refine then_normal ?_ | refine then_ret ?_ | refine in_ret ?_)
     | refine w_ret ?_
     | (with_reducible first | refine s_none ?_ | refine x_store0 (h := ?_))
     | (with_reducible refine x_q (h := ?_))
     | fail)
    all_goals try clear fx
    refine e_ret [] .nil (by simp [hc0]; rfl) ?_
    simp [Stm.ren, Stm.av]
  · skip
    all_goals have fx := fx0
    repeat' (first
     | refine w_seq ?_ | refine w_block ?_ | refine w_skip ?_ | refine w_reg fun K hK => ?_
     | ((with_reducible refine s_end hK ?_); clear hK K)
     | (with_reducible first | refine then_normal ?_)
     | (with_reducible first | refine s_none ?_ | refine x_assign (h := ?_) | refine x_box (h := ?_) | refine x_alloc (h := ?_))
     | ((with_reducible refine o_id 95 rfl ?_); refine x_call (hF := formOf_fn _ ⟨9, to, a, b⟩) (h := ?_))
     | (with_reducible refine x_q (h := ?_))
     | refine x_condf (h1 := ?_)
     | fail)
    all_goals try clear fx
    refine x_mutvc (f := 94) (.s 3) (.u 1 0 0) (hext := rfl) (hs := by simp) (xs := []) (ys := [.pt (.s 4) 0, .pt (.s 5) 0]) (avs := [.pt (.u 1 0 0) 1, .pt (.s 4) 0, .pt (.s 5) 0]) (hv := by simp) (ha := by simp) (hB := .cons (.refl _) (.cons (bw_box (by simp)) (.cons (bw_box (by simp)) .nil))) (hF := renamed1_fn _ _ 9 to a b x y 1 (by decide) (by simp)) (h := ?_)
    rintro z H0 hy0
    have hc0 := hcln_row hy0 (by simp)
    simp only [chg, Stm.cells] at hc0
    clear hy0
    all_goals have fx :=  hc0
    repeat' (first
     | refine w_seq ?_ | refine w_reg fun K hK => ?_
     | ((with_reducible refine s_end hK ?_); clear hK K)
     | (with_reducible first | refine then_normal ?_)
     | refine w_ret ?_
     | (with_reducible first | refine s_none ?_ | refine x_store0 (h := ?_))
     | (with_reducible refine x_q (h := ?_))
     | fail)
    all_goals try clear fx
    refine e_ret [] .nil (by simp [hc0]; rfl) ?_
    simp [Stm.ren, Stm.av]
  · skip
    all_goals have fx := fx0
    repeat' (first
     | refine w_seq ?_ | refine w_block ?_ | refine w_skip ?_ | refine w_reg fun K hK => ?_
     | ((with_reducible refine s_end hK ?_); clear hK K)
     | (with_reducible first | refine then_normal ?_)
     | (with_reducible first | refine s_none ?_ | refine x_assign (h := ?_) | refine x_box (h := ?_) | refine x_alloc (h := ?_))
     | ((with_reducible refine o_id 95 rfl ?_); refine x_call (hF := formOf_fn _ ⟨10, to, a, b⟩) (h := ?_))
     | (with_reducible refine x_q (h := ?_))
     | refine x_condf (h1 := ?_)
     | fail)
    all_goals try clear fx
    refine x_mutvc (f := 94) (.s 3) (.u 1 0 0) (hext := rfl) (hs := by simp) (xs := []) (ys := [.pt (.s 4) 0, .pt (.s 5) 0]) (avs := [.pt (.u 1 0 0) 1, .pt (.s 4) 0, .pt (.s 5) 0]) (hv := by simp) (ha := by simp) (hB := .cons (.refl _) (.cons (bw_box (by simp)) (.cons (bw_box (by simp)) .nil))) (hF := renamed1_fn _ _ 10 to a b x y 1 (by decide) (by simp)) (h := ?_)
    rintro z H0 hy0
    have hc0 := hcln_row hy0 (by simp)
    simp only [chg, Stm.cells] at hc0
    clear hy0
    all_goals have fx :=  hc0
    repeat' (first
     | refine w_seq ?_ | refine w_reg fun K hK => ?_
     | ((with_reducible refine s_end hK ?_); clear hK K)
     | (with_reducible first | refine then_normal ?_)
     | refine w_ret ?_
     | (with_reducible first | refine s_none ?_ | refine x_store0 (h := ?_))
     | (with_reducible refine x_q (h := ?_))
     | fail)
    all_goals try clear fx
    refine e_ret [] .nil (by simp [hc0]; rfl) ?_
    simp [Stm.ren, Stm.av]
  · skip
    all_goals have fx := fx0
    repeat' (first
     | refine w_seq ?_ | refine w_block ?_ | refine w_skip ?_ | refine w_reg fun K hK => ?_
     | ((with_reducible refine s_end hK ?_); clear hK K)
     | (with_reducible first | refine then_normal ?_)
     | (with_reducible first | refine s_none ?_ | refine x_assign (h := ?_) | refine x_box (h := ?_) | refine x_alloc (h := ?_))
     | ((with_reducible refine o_id 95 rfl ?_); refine x_call (hF := formOf_fn _ ⟨11, to, a, b⟩) (h := ?_))
     | (with_reducible refine x_q (h := ?_))
     | refine x_condf (h1 := ?_)
     | fail)
    all_goals try clear fx
    refine x_mutvc (f := 94) (.s 3) (.u 1 0 0) (hext := rfl) (hs := by simp) (xs := []) (ys := [.pt (.s 4) 0, .pt (.s 5) 0]) (avs := [.pt (.u 1 0 0) 1, .pt (.s 4) 0, .pt (.s 5) 0]) (hv := by simp) (ha := by simp) (hB := .cons (.refl _) (.cons (bw_box (by simp)) (.cons (bw_box (by simp)) .nil))) (hF := renamed1_fn _ _ 11 to a b x y 1 (by decide) (by simp)) (h := ?_)
    rintro z H0 hy0
    have hc0 := hcln_row hy0 (by simp)
    simp only [chg, Stm.cells] at hc0
    clear hy0
    all_goals have fx :=  hc0
    repeat' (first
     | refine w_seq ?_ | refine w_reg fun K hK => ?_
     | ((with_reducible refine s_end hK ?_); clear hK K)
     | (with_reducible first | refine then_normal ?_)
     | refine w_ret ?_
     | (with_reducible first | refine s_none ?_ | refine x_store0 (h := ?_))
     | (with_reducible refine x_q (h := ?_))
     | fail)
    all_goals try clear fx
    refine e_ret [] .nil (by simp [hc0]; rfl) ?_
    simp [Stm.ren, Stm.av]
end Go.Proofs.Ytopgafhjmbfaoaa
end

section
/-
  A program that is copied.
-/
set_option maxRecDepth 100000
set_option maxHeartbeats 1000000
set_option linter.unusedSimpArgs false
namespace Go.Proofs.Ytopgafhjmbfaoaa
open Go Go.Hm Go.Proofs

theorem copyOf_fn (gl) (p : Prg) (hs : Sml p) : FnOk Try.prog gl 31 [pav p] (fun r y H' => y = .agg [.hs r 4 0 p.length] ∧ OwnP H' r p) := by
  have hpl := hs.len
  refine FnOk.of_sem Try.func31 rfl (by kernel_rfl) (rs := [.cell 2 28]) rfl Try.ntmps31 (Nat.le_of_ble_eq_true rfl) fun C w g root => ?_
  all_goals have fx := fx0
  repeat' (first
   | refine w_seq ?_ | refine w_block ?_ | refine w_reg fun K hK => ?_
   | ((with_reducible refine s_end hK ?_); clear hK K)
   | (with_reducible first | refine s_none ?_ | refine x_box (h := ?_) | refine x_alloc (h := ?_) | refine x_store0 (h := ?_) | refine x_make (h := ?_))
   | (with_reducible refine x_q (h := ?_))
   | fail)
  all_goals try clear fx
  refine w_loop (fun n st => ∃ i : Nat, n = p.length - i ∧ i ≤ p.length ∧ st.tm 1 = .pt (.s 1) 0 ∧ st.hp (.s 1) = some (.row 1 [[ksl p]]) ∧ st.tm 2 = .pt (.s 2) 0 ∧ st.hp (.s 2) = some (.row 1 [[.hs (.c (.s 2) 0 0) 4 0 0]]) ∧ st.hp (.c (.s 2) 0 0) = some (.row 4 []) ∧ st.tm 3 = .pt (.s 3) 0 ∧ st.hp (.s 3) = some (.row 1 [[.hs (.c (.s 3) 0 0) 4 0 p.length]]) ∧ st.tm 12 = ksl p ∧ st.tm 13 = iv p.length ∧ st.tm 14 = iv i ∧ CopP st.hp (.c (.s 3) 0 0) p i) p.length ?_ ?_
  · refine ⟨0, by simp, by simp, by simp, by simp, by simp, by simp, by simp, by simp, by simp, by simp, by simp, by simp, ⟨?_, fun j k hj => by omega, fun j k hj => by omega⟩⟩
    rw [← cRows_zero]
    simp [zblk, nilS]
  rintro n st - - ⟨i, rfl, hi, h1, hp1, h2, hp2, hp2', h3, hp3, h12, h13, h14, ⟨ho1, ho2, ho3⟩⟩
  all_goals have fx := And.intro h12 <| And.intro h13 <| h14
  repeat' (first
   | refine w_seq ?_ | refine w_reg fun K hK => ?_
   | ((with_reducible refine s_end hK ?_); clear hK K)
   | (with_reducible first | refine s_none ?_)
   | (with_reducible refine x_q (h := ?_))
   | fail)
  all_goals try clear fx
  refine w_if (by simp []; first | done | rfl | exact (Bool.not_not _).symm) (fun ht => ?_) (fun hf => ?_)
  · have hlt : i < p.length := by simpa using ht
    obtain ⟨k, hk⟩ : ∃ k, p[i]? = some k := ⟨_, List.getElem?_eq_getElem hlt⟩
    obtain ⟨hkp, hkb⟩ := hs.bsm hk
    have hcg := cRows_get (n := .c (.s 3) 0 0) (i := i) hk
    rw [if_neg (by omega)] at hcg
    obtain ⟨_, hke⟩ := List.getElem?_eq_some_iff.1 hk
    obtain ⟨_, hcge⟩ := List.getElem?_eq_some_iff.1 hcg
    clear ht
    all_goals have fx := And.intro h12 <| And.intro h13 <| And.intro h14 <| And.intro h3 <| And.intro hp3 <| And.intro ho1 <| And.intro hk <| And.intro hke <| And.intro hcg <| And.intro hcge <| hlt
    repeat' (first
     | refine w_seq ?_ | refine w_block ?_ | refine w_skip ?_ | refine w_reg fun K hK => ?_
     | ((with_reducible refine s_end hK ?_); clear hK K)
     | (with_reducible first | refine then_normal ?_ | refine s_nil ?_)
     | (with_reducible first | refine s_none ?_ | refine x_assign (h := ?_) | refine x_alloc (h := ?_) | refine x_store0 (h := ?_) | refine x_append0 (T := 41) (h := ?_) | refine x_append0 (T := 47) (h := ?_))
     | (with_reducible refine x_q (h := ?_))
     | (refine w_sch (id := 5) (.q 0 <| .q 1 <| .q 2 <| .q 3 <| .q 4 <| .q 5 <| .q 6 <| .q 7 <| .q 8 <| .q 10 <| .q 11 <| .l 9 [11, 10, 7, 6, 5, 4, 3, 2, 1, 0] <| .l 12 [10, 7, 6, 5, 4, 3, 2, 1, 0] <| .q 13 <| .q 14 <| .l 15 [] <| .done) mixed (by kernel_rfl) (by kernel_rfl) fun K hK => ?_)
     | ((with_reducible refine a_end hK ?_); clear hK K)
     | ((with_reducible refine a_id ?_); first | refine xa_q (h := ?_))
     | refine a_l rfl ?_ | (with_reducible refine And.intro ?_ ?_) | exact st_nil | refine xa_st (h2 := ?_)
     | fail)
    all_goals try clear fx
    all_goals
      refine ⟨p.length - (i + 1), by omega, i + 1, rfl, by omega, by simp [h1], by simp [hp1], by simp [h2], by simp [hp2], by simp [hp2'], by simp [h3], by simp [hp3], by simp [h12], by simp [h13], by simp; exact wrp (by omega) (by omega), ⟨?_, fun j r hj hr => ?_, fun j r hj hr => ?_⟩⟩
      · rw [← cRows_set (n := .c (.s 3) 0 0) (d := 28) (e := 31) hk (by simp) (by simp) (by decide) (by simp) (by simp)]
        simp [ho1]
      · rcases Nat.lt_succ_iff_lt_or_eq.1 hj with hlj | rfl
        · have hne : ¬ j = i := by omega
          simp [ho2 j r hlj hr, hne]
        · rw [hk] at hr
          obtain rfl := Option.some.inj hr
          simp
      · rcases Nat.lt_succ_iff_lt_or_eq.1 hj with hlj | rfl
        · have hne : ¬ j = i := by omega
          simp [ho3 j r hlj hr, hne]
        · rw [hk] at hr
          obtain rfl := Option.some.inj hr
          simp
  · have hge : i = p.length := by
      have : ¬ i < p.length := by simpa using hf
      omega
    subst hge
    rw [cRows_all] at ho1
    all_goals have fx := And.intro h2 <| And.intro hp2 <| And.intro hp2' <| And.intro h3 <| hp3
    repeat' (first
     | refine w_seq ?_ | refine w_reg fun K hK => ?_
     | ((with_reducible refine s_end hK ?_); clear hK K)
     | (with_reducible first | refine then_normal ?_)
     | refine w_exit ?_
     | refine w_ret ?_
     | (with_reducible first | refine s_none ?_ | refine x_store0 (h := ?_))
     | (with_reducible refine x_q (h := ?_))
     | fail)
    all_goals try clear fx
    refine e_ret [(.c (.s 3) 0 0, root)] (.one rfl) (by simp [h2]; rfl) ⟨by simp, ⟨?_, fun j r hj => ?_, fun j r hj => ?_⟩⟩
    · simp [ho1, pRows_tr (n := .c (.s 3) 0 0) (m := root) (f := finf noD [(.c (.s 3) 0 0, root)]) (p := p) (by simp)]
    · simp [ho2 j r (List.getElem?_eq_some_iff.1 hj).1 hj]
    · simp [ho3 j r (List.getElem?_eq_some_iff.1 hj).1 hj]
end Go.Proofs.Ytopgafhjmbfaoaa
end
