/-
  Own texts, joined by mkclaim.py: Vc, Jz.
-/
import Derived.Test.YtcbkblboonkfhaaGreatS30
import Derived.Test.YtcbkblboonkfhaaGreatS16
import Derived.Test.YtcbkblboonkfhaaGreatProg
import Derived.Test.YtcbkblboonkfhaaGreatChecked
import Derived.KernelRfl
set_option linter.unusedSimpArgs false
set_option linter.unusedVariables false
set_option maxRecDepth 100000
set_option maxHeartbeats 4000000

section
namespace Go.Proofs.YtcbkblboonkfhaaGreat
open Go Go.Hm Go.Proofs
abbrev qsVc0 : Sch := .q 0 <| .q 1 <| .q 2 <| .q 3 <| .q 4 <| .q 5 <| .q 6 <| .q 7 <| .q 8 <| .done
abbrev qsVc1 : Sch := .q 0 <| .q 2 <| .l 1 [2] <| .l 3 [] <| .l 4 [] <| .q 5 <| .q 6 <| .q 8 <| .l 7 [8] <| .l 9 [] <| .l 10 [] <| .q 11 <| .l 12 [] <| .done
theorem slicesEqualS_fn (gl) (xs ys : List Stm) (hx : xs.length ≤ 1048576) (hy : ys.length ≤ 1048576) : FnOk Tryz.prog gl 117 [ssl xs, ssl ys] (fun _ z _ => z = bv (decide (xs = ys))) := by
  refine FnOk.of_sem Tryz.func117 rfl (by kernel_rfl) (rs := [.tmp 4]) rfl Tryz.ntmps117 (Nat.le_of_ble_eq_true rfl) fun C w g root => ?_
  by_cases hl : xs.length = ys.length
  case neg =>
    have h1 : ((xs.length : Int) == ys.length) = false := by simp; omega
    have fx := And.intro h1 <| @bne_def
    refine k_run ?_
    repeat ((first | refine wSc (id := 6) qsVc0 mixed ?_); refine k_rund ?_; refine k_run ?_)
    clear fx
    refine e_ret [] .nil (by simp; rfl) ?_
    have : ¬ xs = ys := fun e => hl (by rw [e])
    simp [this]
  have fx := And.intro hl <| @bne_def
  refine k_run ?_
  repeat ((first | refine wSc (id := 6) qsVc0 mixed ?_); refine k_rund ?_; refine k_run ?_)
  clear fx
  refine w_loop (fun n st => ∃ i : Nat, n = xs.length - i ∧ i ≤ xs.length ∧ st.tm 0 = ssl xs ∧ st.tm 1 = ssl ys ∧ st.tm 12 = iv ys.length ∧ st.tm 13 = iv i ∧ xs.take i = ys.take i) xs.length ⟨0, by simp⟩ ?_
  rintro n st - - ⟨i, rfl, hi, h0, h1, h12, h13, heq⟩
  by_cases hil : i < xs.length
  · obtain ⟨x, hxi⟩ : ∃ x, xs[i]? = some x := ⟨_, gE hil⟩
    obtain ⟨y, hyi⟩ : ∃ y, ys[i]? = some y := ⟨_, gE (by omega)⟩
    have hil2 : i < ys.length := by omega
    obtain ⟨_, hxE⟩ := gS hxi
    obtain ⟨_, hyE⟩ := gS hyi
    all_goals have fx := And.intro h0 <| And.intro h1 <| And.intro h12 <| And.intro h13 <| And.intro hil <| And.intro hil2 <| And.intro hxi <| And.intro hyi <| And.intro hxE <| And.intro hyE <| @bne_def
    repeat' (first
     | refine w_seq ?_ | refine w_block ?_ | refine w_skip ?_ | refine w_reg fun K hK => ?_
     | ((with_reducible refine s_end hK ?_); clear hK K)
     | (with_reducible first | refine then_normal ?_ | refine in_normal ?_ | refine then_exit ?_ | refine in_exit ?_ | refine then_ret ?_ | refine in_ret ?_ | refine s_nil ?_ | refine in_other (by decide) ?_)
     | refine w_exit ?_
     | refine w_ret ?_
     | (with_reducible first | refine s_none ?_ | refine x_assign (h := ?_))
     | (with_reducible refine x_q (h := ?_))
     | refine x_condt (h1 := ?_) | refine x_condf (h1 := ?_)
     | (refine wSc (id := 6) qsVc0 mixed fun K hK => ?_)
     | ((with_reducible refine a_end hK ?_); clear hK K)
     | ((with_reducible refine a_id ?_); first | refine xa_q (h := ?_) | refine xa_qt (h := ?_) | refine xa_qf (h := ?_) | refine xa_qu (h := ?_))
     | ((with_reducible refine a_id ?_); refine xa_gq (h1 := fun ht => ?_) (h2 := fun ht => ?_))
     | refine a_l rfl ?_ | refine a_l2 ?_ ?_ | (with_reducible refine And.intro ?_ ?_) | exact st_nil | refine xa_st (h2 := ?_)
     | refine x_if (h1 := fun ht => ?_) (h2 := fun ht => ?_)
     | fail)
    all_goals try clear fx
    all_goals first
      | (refine e_ret [] .nil (by simp; rfl) ?_
         have hne : ¬ xs = ys := fun e => by rw [e, hyi] at hxi; obtain rfl := Option.some.inj hxi; simp at ht
         simp [hne])
      | (have hxy : x = y := by cases x; cases y; simpa using ht
         exact ⟨xs.length - (i + 1), by omega, i + 1, rfl, by omega, by simp [h0], by simp [h1], by simp [h12], by simp; exact wrp (by omega) (by omega), take_next heq hxi (hxy ▸ hyi)⟩)
  · have hge : i = ys.length := by omega
    have hil2 : ¬ i < ys.length := by omega
    have : xs = ys := by rw [hge, List.take_length, ← hl, List.take_length] at heq; exact heq
    have fx := And.intro h0 <| And.intro h1 <| And.intro h12 <| And.intro h13 <| And.intro hil <| hil2
    refine k_run ?_
    repeat ((first | refine wSc (id := 6) qsVc0 mixed ?_); refine k_rund ?_; refine k_run ?_)
    clear fx
    refine e_ret [] .nil (by simp []; rfl) (by simp [this])
theorem eqBlk_fn (gl) (x y : Blk) (hx : BSm x) (hy : BSm y) : FnOk Tryz.prog gl 115 [x.av, y.av] (fun _ z _ => z = bv (decide (x = y))) := by
  have e1 := slicesEqual_fn gl x.params y.params hx.params hy.params
  have e2 := slicesEqualS_fn gl x.body y.body hx.body hy.body
  have hne : ∀ (P : Prop), ¬ P → (x = y → P) → decide (x = y) = false := fun P hP h => decide_eq_false fun e => hP (h e)
  refine FnOk.of_sem Tryz.func115 rfl (by kernel_rfl) (rs := [.tmp 4]) rfl Tryz.ntmps115 (Nat.le_of_ble_eq_true rfl) fun C w g root => ?_
  cases hk : (x.kind == y.kind)
  · skip
    have fx :=  hk
    refine k_run ?_
    clear fx
    refine e_ret [] .nil (by simp; rfl) ?_
    rw [hne (x.kind = y.kind) (by simpa using hk) (fun e => by rw [e])]
    rfl
  cases hpa : (x.parent == y.parent)
  · skip
    have fx := And.intro hk <| hpa
    refine k_run ?_
    clear fx
    refine e_ret [] .nil (by simp; rfl) ?_
    rw [hne (x.parent = y.parent) (by simpa using hpa) (fun e => by rw [e])]
    rfl
  cases hps : decide (x.params = y.params)
  · rw [hps] at e1
    have fx := And.intro hk <| hpa
    have c1 := e1
    refine k_run ?_
    clear fx c1
    refine e_ret [] .nil (by simp; rfl) ?_
    rw [hne (x.params = y.params) (by simpa using hps) (fun e => by rw [e])]
    rfl
  rw [hps] at e1
  cases hbo : decide (x.body = y.body)
  · rw [hbo] at e2
    have fx := And.intro hk <| hpa
    have c1 := e1
    have c2 := e2
    refine k_run ?_
    clear fx c1 c2
    refine e_ret [] .nil (by simp; rfl) ?_
    rw [hne (x.body = y.body) (by simpa using hbo) (fun e => by rw [e])]
    rfl
  rw [hbo] at e2
  have hxy : x = y := blk_ext (by simpa using hk) (by simpa using hpa) (by simpa using hps) (by simpa using hbo)
  have fx := And.intro hk <| hpa
  have c1 := e1
  have c2 := e2
  refine k_run ?_
  clear fx c1 c2
  refine e_ret [] .nil (by simp; rfl) ?_
  simp [hxy]
theorem equalFunc_fn (gl) (p q : Prg) (hp : Sml p) (hq : Sml q) : FnOk Tryz.prog gl 114 [ksl p, ksl q, .sc (.func (.func 115) #[] #[])] (fun _ z _ => z = bv (decide (p = q))) := by
  have hpl := hp.len
  have hql := hq.len
  refine FnOk.of_sem Tryz.func114 rfl (by kernel_rfl) (rs := [.tmp 6]) rfl Tryz.ntmps114 (Nat.le_of_ble_eq_true rfl) fun C w g root => ?_
  by_cases hl : p.length = q.length
  case neg =>
    have h1 : ((p.length : Int) == q.length) = false := by simp; omega
    have fx := And.intro h1 <| @bne_def
    refine k_run ?_
    clear fx
    refine e_ret [] .nil (by simp; rfl) ?_
    have : ¬ p = q := fun e => hl (by rw [e])
    simp [this]
  have fx := And.intro hl <| @bne_def
  refine k_run ?_
  clear fx
  refine w_loop (fun n st => ∃ i : Nat, n = p.length - i ∧ i ≤ p.length ∧ st.tm 15 = ksl p ∧ st.tm 1 = ksl q ∧ st.tm 2 = .sc (.func (.func 115) #[] #[]) ∧ st.tm 16 = iv q.length ∧ st.tm 17 = iv i ∧ p.take i = q.take i) p.length ⟨0, by simp⟩ ?_
  rintro n st - - ⟨i, rfl, hi, h15, h1, h2, h16, h17, heq⟩
  by_cases hil : i < p.length
  · obtain ⟨x, hxi⟩ : ∃ x, p[i]? = some x := ⟨_, gE hil⟩
    obtain ⟨y, hyi⟩ : ∃ y, q[i]? = some y := ⟨_, gE (by omega)⟩
    obtain ⟨hxl', hxE⟩ := gS hxi
    obtain ⟨hyl', hyE⟩ := gS hyi
    have hf := eqBlk_fn gl x y (hp.bsm hxi) (hq.bsm hyi)
    cases hxy : decide (x = y)
    · rw [hxy] at hf
      have fx := And.intro h15 <| And.intro h1 <| And.intro h2 <| And.intro h16 <| And.intro h17 <| And.intro hil <| And.intro hxi <| And.intro hyi <| And.intro hxE <| And.intro hyE <| And.intro hxl' <| hyl'
      refine k_run ?_
      clear fx
      intro K hK
      have fx := And.intro h1 h2
      refine x_callc (hF := hf) (h := ?_)
      clear fx
      have fx := And.intro h15 <| And.intro h1 <| And.intro h2 <| And.intro h16 <| h17
      refine k_run ?_
      clear fx
      refine e_ret [] .nil (by simp; rfl) ?_
      have hne : ¬ p = q := ne_of_get hxi hyi (by simpa using hxy)
      simp [hne]
    · rw [hxy] at hf
      have fx := And.intro h15 <| And.intro h1 <| And.intro h2 <| And.intro h16 <| And.intro h17 <| And.intro hil <| And.intro hxi <| And.intro hyi <| And.intro hxE <| And.intro hyE <| And.intro hxl' <| hyl'
      refine k_run ?_
      clear fx
      intro K hK
      have fx := And.intro h1 h2
      refine x_callc (hF := hf) (h := ?_)
      clear fx
      have fx := And.intro h15 <| And.intro h1 <| And.intro h2 <| And.intro h16 <| h17
      refine k_run ?_
      clear fx
      have hxy' : x = y := by simpa using hxy
      exact ⟨p.length - (i + 1), by omega, i + 1, rfl, by omega, by simp [h15], by simp [h1], by simp [h2], by simp [h16], by simp; exact wrp (by omega) (by omega), take_next heq hxi (hxy' ▸ hyi)⟩
  · have hge : i = q.length := by omega
    have hil2 : ¬ i < q.length := by omega
    have : p = q := by rw [hge, List.take_length, ← hl, List.take_length] at heq; exact heq
    have fx := And.intro h15 <| And.intro h1 <| And.intro h2 <| And.intro h16 <| And.intro h17 <| And.intro hil <| hil2
    refine k_run ?_
    clear fx
    refine e_ret [] .nil (by simp []; rfl) (by simp [this])
theorem equalPrograms_fn (gl) (p q : Prg) (hp : Sml p) (hq : Sml q) : FnOk Tryz.prog gl 61 [pav p, pav q] (fun _ z _ => z = bv (decide (p = q))) := by
  have hf := equalFunc_fn gl p q hp hq
  refine FnOk.of_sem Tryz.func61 rfl (by kernel_rfl) (rs := [.tmp 4]) rfl Tryz.ntmps61 (Nat.le_of_ble_eq_true rfl) fun C w g root => ?_
  have fx := fx0
  have c1 := hf
  refine k_run ?_
  clear fx c1
  refine e_ret [] .nil (by simp; rfl) (by simp)
theorem implOwnersL_fn (gl) (p : Prg) (hp : ShapeP p) : FnOk Tryz.prog gl 63 [pav p] (fun r y H' => y = .hs r 1 0 (ownersOf p).length ∧ IsTab H' r (ownersOf p)) := by
  have h := impl_ownersOf_fn gl p hp
  rw [show p.length = (ownersOf p).length by simp [ownersOf]] at h
  exact h
theorem impl_SameMeaning_fn (gl) (p q : Prg) (hp : Sml p) (hq : Sml q) : FnOk Tryz.prog gl 16 [pav p, pav q] (fun _ z _ => z = bv (sameG p q)) := by
  refine FnOk.of_sem Tryz.func16 rfl (by kernel_rfl) (rs := [.tmp 4]) rfl Tryz.ntmps16 (Nat.le_of_ble_eq_true rfl) fun C w g root => ?_
  cases hv1 : progOk p
  · skip
    have fx :=  hv1
    have c1 := hv1 ▸ impl_ValidProgram_fn gl p hp
    refine k_run ?_
    repeat ((first | refine wSc (id := 3) qsVc1 mixed ?_); refine k_rund ?_; refine k_run ?_)
    clear fx c1
    refine e_ret [] .nil (by simp; rfl) (by simp [sameG, hv1])
  cases hv2 : progOk q
  · skip
    have fx := And.intro hv1 <| hv2
    have c1 := hv1 ▸ impl_ValidProgram_fn gl p hp
    have c2 := hv2 ▸ impl_ValidProgram_fn gl q hq
    refine k_run ?_
    repeat ((first | refine wSc (id := 3) qsVc1 mixed ?_); refine k_rund ?_; refine k_run ?_)
    clear fx c1 c2
    refine e_ret [] .nil (by simp; rfl) (by simp [sameG, hv2])
  have hP := shape_ok hp hv1
  have hQ := shape_ok hq hv2
  have hs1 : shapeOk p = true := by
    simp only [progOk, Bool.and_eq_true] at hv1
    exact hv1.1
  have hs2 : shapeOk q = true := by
    simp only [progOk, Bool.and_eq_true] at hv2
    exact hv2.1
  have sp := equalPrograms_fn gl (bareP p) (bareP q) (bareP_sml hp) (bareP_sml hq)
  have fx := And.intro hv1 <| hv2
  have c1 := hv1 ▸ impl_ValidProgram_fn gl p hp
  have c2 := hv2 ▸ impl_ValidProgram_fn gl q hq
  have e1 := impl_BareProgram_fn gl p hp hs1
  refine k_run ?_
  repeat ((first | refine wSc (id := 3) qsVc1 mixed ?_); refine k_rund ?_; refine k_run ?_)
  clear fx c1 c2 e1
  rintro K hK z H1 ⟨rfl, hO⟩
  obtain ⟨a1, a2, a3⟩ := hO.hcln
  refine ⟨by simp, ?_⟩
  have fx :=  a1
  have e1 := impl_BareProgram_fn gl q hq hs2
  refine k_run ?_
  repeat ((first | refine wSc (id := 3) qsVc1 mixed ?_); refine k_rund ?_; refine k_run ?_)
  clear fx e1
  rintro z H2 ⟨rfl, hO2⟩
  obtain ⟨b1, b2, b3⟩ := hO2.hcln
  refine ⟨by simp, ?_⟩
  cases hb : decide (bareP p = bareP q)
  · rw [hb] at sp
    have fx := And.intro a1 <| b1
    have c1 := sp
    refine k_run ?_
    repeat ((first | refine wSc (id := 3) qsVc1 mixed ?_); refine k_rund ?_; refine k_run ?_)
    clear fx c1
    refine e_ret [] .nil (by simp; rfl) (by simp [sameG, hb])
  rw [hb] at sp
  have fx := And.intro a1 <| b1
  have c1 := sp
  have e1 := implOwnersL_fn gl p hP
  have e2 := implOwnersL_fn gl q hQ
  refine k_run ?_
  repeat ((first | refine wSc (id := 3) qsVc1 mixed ?_); refine k_rund ?_; refine k_run ?_)
  clear fx c1 e1 e2
  rintro y H3 ⟨rfl, hT1⟩
  obtain ⟨t11, t12⟩ := hT1.hcln
  refine ⟨by simp, ?_⟩
  have fx := fx0
  have e1 := implOwnersL_fn gl q hQ
  refine k_run ?_
  repeat ((first | refine wSc (id := 3) qsVc1 mixed ?_); refine k_rund ?_; refine k_run ?_)
  clear fx e1
  rintro y H4 ⟨rfl, hT2⟩
  obtain ⟨t21, t22⟩ := hT2.hcln
  refine ⟨by simp, ?_⟩
  have hpl := hp.len
  have hql := hq.len
  have hl1 : (ownersOf p).length ≤ 1048576 := by simp [ownersOf]; omega
  have hl2 : (ownersOf q).length ≤ 1048576 := by simp [ownersOf]; omega
  have hr : ∀ q : Prg, ∀ r ∈ ownersOf q, r.length ≤ 1048576 := fun q r hr => by
    obtain ⟨j, hj⟩ := List.getElem?_of_mem hr
    rw [ownersOf_row hj]
    decide
  have fx :=  hl1
  refine k_run ?_
  repeat ((first | refine wSc (id := 3) qsVc1 mixed ?_); refine k_rund ?_; refine k_run ?_)
  clear fx
  have fx := hl1
  refine kx_call (hB := .cons (bw_tab (n := .s 20) (by simp [t11]; first | done | rfl) (fun j r hj => by simp [t12 j r hj]) rfl) (.cons (bw_tab (n := .s 22) (by simp [t21]; first | done | rfl) (fun j r hj => by simp [t22 j r hj]) rfl) .nil)) (hF := gridEqual_fn gl _ _ hl1 hl2 (hr _) (hr _)) (h := ?_)
  clear fx
  have fx :=  hv1
  refine k_run ?_
  repeat ((first | refine wSc (id := 3) qsVc1 mixed ?_); refine k_rund ?_; refine k_run ?_)
  clear fx
  refine e_ret [] .nil (by simp; rfl) (by simp [sameG, hv1, hv2, hb])
theorem pf_laid : laidOutB Tryz.prog = true := by kernel_rfl
theorem pf_maps : mapsRowed Tryz.prog = true := by kernel_rfl
theorem pf_stops : (Tryz.prog.stops == []) = true := by kernel_rfl
theorem pf_knobs : (Tryz.prog.stopKnobs == []) = true := by kernel_rfl
theorem pf_keys : Tryz.prog.plainKeys = true := by kernel_rfl
theorem pf_heard : Tryz.prog.stopsHeard = true := by kernel_rfl
theorem pf_may : Tryz.prog.mayEnter = true := by kernel_rfl
theorem pf_lifts : Tryz.prog.liftsFinal = false := by kernel_rfl
theorem pf_make : (Tryz.prog.make == some .cut) = true := by kernel_rfl
theorem progFacts : ProgFacts Tryz.prog := ⟨pf_laid, pf_maps, pf_stops, pf_knobs, pf_keys, pf_heard, pf_may, pf_lifts, pf_make⟩
end Go.Proofs.YtcbkblboonkfhaaGreat
end
