/-
  Own texts, joined by mkclaim.py: Va, Vm, Ve, Vg.
-/
import Derived.Test.YtcbkblboonkfhaaGreatS22
import Derived.Test.YtcbkblboonkfhaaGreatS32
import Derived.Test.YtcbkblboonkfhaaGreatS13
import Derived.Test.YtcbkblboonkfhaaGreatS17
import Derived.Test.YtcbkblboonkfhaaGreatS24
import Derived.Test.YtcbkblboonkfhaaGreatS34
import Derived.Test.YtcbkblboonkfhaaGreatS35
import Derived.Test.YtcbkblboonkfhaaGreatS30
import Derived.Test.YtcbkblboonkfhaaGreatS31
set_option linter.unusedSimpArgs false
set_option linter.unusedVariables false
set_option maxRecDepth 100000
set_option maxHeartbeats 4000000

section
namespace Go.Proofs.YtcbkblboonkfhaaGreat
open Go Go.Hm Go.Proofs
abbrev qsVa0 : Sch := .q 0 <| .q 1 <| .q 2 <| .q 3 <| .q 4 <| .q 5 <| .q 6 <| .q 7 <| .q 8 <| .q 9 <| .q 10 <| .q 11 <| .q 12 <| .q 13 <| .q 14 <| .q 15 <| .q 16 <| .q 17 <| .q 18 <| .q 19 <| .q 20 <| .q 21 <| .q 22 <| .q 23 <| .q 24 <| .q 25 <| .q 26 <| .q 27 <| .q 28 <| .q 29 <| .q 30 <| .q 31 <| .q 32 <| .q 33 <| .q 34 <| .q 35 <| .q 36 <| .q 37 <| .q 38 <| .q 39 <| .q 40 <| .q 41 <| .q 42 <| .q 43 <| .q 44 <| .q 45 <| .q 46 <| .done
abbrev qsVa1 : Sch := .q 0 <| .q 1 <| .q 2 <| .q 3 <| .q 4 <| .q 5 <| .q 6 <| .q 7 <| .q 8 <| .q 9 <| .q 10 <| .done
theorem stm_ne {s t : Stm} (h : ¬ s = t) : (!(s.kind == t.kind) || (!(s.to == t.to) || (!(s.a == t.a) || !(s.b == t.b)))) = true := by
  by_cases h1 : s.kind = t.kind <;> by_cases h2 : s.to = t.to <;> by_cases h3 : s.a = t.a <;> by_cases h4 : s.b = t.b <;> simp [h1, h2, h3, h4]
  exact h (stm_ext h1 h2 h3 h4)
theorem samePrograms_fn (gl) (p q : Prg) (hp : Sml p) (hq : Sml q) (h1 : ∀ k ∈ p, k.params.length ≤ 1) : FnOk Tryz.prog gl 65 [pav p, pav q] (fun _ z _ => z = bv (decide (p = q))) := by
  have hpl := hp.len
  have hql := hq.len
  refine FnOk.of_sem Tryz.func65 rfl (by kernel_rfl) (rs := [.tmp 4]) rfl Tryz.ntmps65 (Nat.le_of_ble_eq_true rfl) fun C w g root => ?_
  by_cases hl : p.length = q.length
  case neg =>
    have h1 : ((p.length : Int) == q.length) = false := by simp; omega
    have fx := And.intro h1 <| @bne_def
    refine k_run ?_
    repeat ((first | refine wSc (id := 8) qsVa0 mixed ?_ | refine wSc (id := 13) qsVa1 mixed ?_); refine k_rund ?_; refine k_run ?_)
    clear fx
    refine e_ret [] .nil (by simp; rfl) ?_
    have : ¬ p = q := fun e => hl (by rw [e])
    simp [this]
  have hlt : ((p.length : Int) == q.length) = true := by simp [hl]
  have fx := And.intro hlt <| @bne_def
  refine k_run ?_
  repeat ((first | refine wSc (id := 8) qsVa0 mixed ?_ | refine wSc (id := 13) qsVa1 mixed ?_); refine k_rund ?_; refine k_run ?_)
  clear fx
  refine w_loop (fun n st => ∃ i : Nat, n = p.length - i ∧ i ≤ p.length ∧ st.tm 2 = .pt (.s 2) 0 ∧ st.hp (.s 2) = some (.row 1 [[ksl p]]) ∧ st.tm 3 = .pt (.s 3) 0 ∧ st.hp (.s 3) = some (.row 1 [[ksl q]]) ∧ st.tm 5 = iv i ∧ p.take i = q.take i) p.length ⟨0, by simp⟩ ?_
  rintro n st - - ⟨i, rfl, hi, h2, hp2, h3, hp3, h5, heq⟩
  by_cases hil : i < p.length
  · obtain ⟨x, hxi⟩ : ∃ x, p[i]? = some x := ⟨_, gE hil⟩
    obtain ⟨y, hyi⟩ : ∃ y, q[i]? = some y := ⟨_, gE (by omega)⟩
    obtain ⟨hxl', hxE⟩ := gS hxi
    obtain ⟨hyl', hyE⟩ := gS hyi
    have hxb := (hp.bsm hxi).body
    have hx1 := h1 x (List.mem_of_getElem? hxi)
    have hne : ∀ (P : Prop), ¬ P → (x = y → P) → decide (p = q) = false := fun P hP h => decide_eq_false fun e => hP (h (by rw [e, hyi] at hxi; exact (Option.some.inj hxi).symm))
    cases hk : (x.kind == y.kind)
    · skip
      have fx := And.intro h2 <| And.intro hp2 <| And.intro h3 <| And.intro hp3 <| And.intro h5 <| And.intro hil <| And.intro hxi <| And.intro hyi <| And.intro hxE <| And.intro hyE <| And.intro hxl' <| And.intro hyl' <| And.intro hk <| @bne_def
      refine k_run ?_
      repeat ((first | refine wSc (id := 8) qsVa0 mixed ?_ | refine wSc (id := 13) qsVa1 mixed ?_); refine k_rund ?_; refine k_run ?_)
      clear fx
      refine e_ret [] .nil (by simp; rfl) ?_
      rw [hne (x.kind = y.kind) (by simpa using hk) (fun e => by rw [e])]
      rfl
    cases hpa : (x.parent == y.parent)
    · skip
      have fx := And.intro h2 <| And.intro hp2 <| And.intro h3 <| And.intro hp3 <| And.intro h5 <| And.intro hil <| And.intro hxi <| And.intro hyi <| And.intro hxE <| And.intro hyE <| And.intro hxl' <| And.intro hyl' <| And.intro hk <| And.intro hpa <| @bne_def
      refine k_run ?_
      repeat ((first | refine wSc (id := 8) qsVa0 mixed ?_ | refine wSc (id := 13) qsVa1 mixed ?_); refine k_rund ?_; refine k_run ?_)
      clear fx
      refine e_ret [] .nil (by simp; rfl) ?_
      rw [hne (x.parent = y.parent) (by simpa using hpa) (fun e => by rw [e])]
      rfl
    cases hps : ((x.params.length : Int) == (y.params.length : Int))
    · skip
      have fx := And.intro h2 <| And.intro hp2 <| And.intro h3 <| And.intro hp3 <| And.intro h5 <| And.intro hil <| And.intro hxi <| And.intro hyi <| And.intro hxE <| And.intro hyE <| And.intro hxl' <| And.intro hyl' <| And.intro hk <| And.intro hpa <| And.intro hps <| @bne_def
      refine k_run ?_
      repeat ((first | refine wSc (id := 8) qsVa0 mixed ?_ | refine wSc (id := 13) qsVa1 mixed ?_); refine k_rund ?_; refine k_run ?_)
      clear fx
      refine e_ret [] .nil (by simp; rfl) ?_
      rw [hne (x.params.length = y.params.length) (by simp at hps; omega) (fun e => by rw [e])]
      rfl
    cases hbs : ((x.body.length : Int) == (y.body.length : Int))
    · skip
      have fx := And.intro h2 <| And.intro hp2 <| And.intro h3 <| And.intro hp3 <| And.intro h5 <| And.intro hil <| And.intro hxi <| And.intro hyi <| And.intro hxE <| And.intro hyE <| And.intro hxl' <| And.intro hyl' <| And.intro hk <| And.intro hpa <| And.intro hps <| And.intro hbs <| @bne_def
      refine k_run ?_
      repeat ((first | refine wSc (id := 8) qsVa0 mixed ?_ | refine wSc (id := 13) qsVa1 mixed ?_); refine k_rund ?_; refine k_run ?_)
      clear fx
      refine e_ret [] .nil (by simp; rfl) ?_
      rw [hne (x.body.length = y.body.length) (by simp at hbs; omega) (fun e => by rw [e])]
      rfl
    have hpl1 : x.params.length = y.params.length := by simp at hps; omega
    have hbl1 : x.body.length = y.body.length := by simp at hbs; omega
    by_cases hl1 : x.params.length = 1
    · obtain ⟨a, ha⟩ : ∃ a, x.params = [a] := List.length_eq_one_iff.1 hl1
      obtain ⟨b, hb⟩ : ∃ b, y.params = [b] := List.length_eq_one_iff.1 (by omega)
      cases hab : (a == b)
      · skip
        have fx := And.intro h2 <| And.intro hp2 <| And.intro h3 <| And.intro hp3 <| And.intro h5 <| And.intro hil <| And.intro hxi <| And.intro hyi <| And.intro hxE <| And.intro hyE <| And.intro hxl' <| And.intro hyl' <| And.intro hk <| And.intro hpa <| And.intro hps <| And.intro hbs <| And.intro ha <| And.intro hb <| And.intro hab <| @bne_def
        refine k_run ?_
        repeat ((first | refine wSc (id := 8) qsVa0 mixed ?_ | refine wSc (id := 13) qsVa1 mixed ?_); refine k_rund ?_; refine k_run ?_)
        clear fx
        refine e_ret [] .nil (by simp; rfl) ?_
        rw [hne (x.params = y.params) (by rw [ha, hb]; simpa using hab) (fun e => by rw [e])]
        rfl
      have hpe : x.params = y.params := by rw [ha, hb]; simpa using hab
      have fx := And.intro h2 <| And.intro hp2 <| And.intro h3 <| And.intro hp3 <| And.intro h5 <| And.intro hil <| And.intro hxi <| And.intro hyi <| And.intro hxE <| And.intro hyE <| And.intro hxl' <| And.intro hyl' <| And.intro hk <| And.intro hpa <| And.intro hps <| And.intro hbs <| And.intro ha <| And.intro hb <| And.intro hab <| @bne_def
      refine k_run ?_
      repeat ((first | refine wSc (id := 8) qsVa0 mixed ?_ | refine wSc (id := 13) qsVa1 mixed ?_); refine k_rund ?_; refine k_run ?_)
      clear fx
      refine w_loop (fun n st => ∃ j : Nat, n = x.body.length - j ∧ j ≤ x.body.length ∧ st.tm 2 = .pt (.s 2) 0 ∧ st.hp (.s 2) = some (.row 1 [[ksl p]]) ∧ st.tm 3 = .pt (.s 3) 0 ∧ st.hp (.s 3) = some (.row 1 [[ksl q]]) ∧ st.tm 5 = iv i ∧ st.tm 8 = iv j ∧ st.tm 6 = .pt (.s 6) 0 ∧ st.hp (.s 6) = some (.row 4 [x.cells]) ∧ st.tm 7 = .pt (.s 7) 0 ∧ st.hp (.s 7) = some (.row 4 [y.cells]) ∧ x.body.take j = y.body.take j) x.body.length ⟨0, by simp [h2, hp2, h3, hp3, h5] <;> simp [ha, hb]⟩ ?_
      clear h2 hp2 h3 hp3 h5
      rintro n st - - ⟨j, rfl, hj, h2, hp2, h3, hp3, h5, h8, h6, hp6, h7, hp7, hej⟩
      by_cases hjl : j < x.body.length
      · obtain ⟨s, hs⟩ : ∃ s, x.body[j]? = some s := ⟨_, gE hjl⟩
        obtain ⟨t, hyj⟩ : ∃ t, y.body[j]? = some t := ⟨_, gE (by omega)⟩
        obtain ⟨_, hsE⟩ := gS hs
        obtain ⟨htl, htE⟩ := gS hyj
        by_cases hst : s = t
        · subst hst
          have fx := And.intro h2 <| And.intro hp2 <| And.intro h3 <| And.intro hp3 <| And.intro h5 <| And.intro h6 <| And.intro hp6 <| And.intro h7 <| And.intro hp7 <| And.intro h8 <| And.intro hjl <| And.intro hs <| And.intro hyj <| And.intro hsE <| And.intro htE <| And.intro htl <| @bne_def
          refine k_run ?_
          repeat ((first | refine wSc (id := 8) qsVa0 mixed ?_ | refine wSc (id := 13) qsVa1 mixed ?_); refine k_rund ?_; refine k_run ?_)
          clear fx
          exact ⟨x.body.length - (j + 1), by omega, j + 1, rfl, by omega, by simp [h2], by simp [hp2], by simp [h3], by simp [hp3], by simp [h5], by simp; exact wrp (by omega) (by omega), by simp [h6], by simp [hp6], by simp [h7], by simp [hp7], take_next hej hs hyj⟩
        · have hne2 : (!(s.kind == t.kind) || (!(s.to == t.to) || (!(s.a == t.a) || !(s.b == t.b)))) = true := stm_ne hst
          have fx := And.intro h2 <| And.intro hp2 <| And.intro h3 <| And.intro hp3 <| And.intro h5 <| And.intro h6 <| And.intro hp6 <| And.intro h7 <| And.intro hp7 <| And.intro h8 <| And.intro hjl <| And.intro hs <| And.intro hyj <| And.intro hsE <| And.intro htE <| And.intro htl <| And.intro @bne_def <| hne2
          refine k_run ?_
          repeat ((first | refine wSc (id := 8) qsVa0 mixed ?_ | refine wSc (id := 13) qsVa1 mixed ?_); refine k_rund ?_; refine k_run ?_)
          clear fx
          refine e_ret [] .nil (by simp; rfl) ?_
          rw [hne (x.body = y.body) (fun e => by rw [e, hyj] at hs; exact hst (Option.some.inj hs).symm) (fun e => by rw [e])]
          rfl
      · have hge : j = x.body.length := by omega
        have hbe : x.body = y.body := by rw [hge, List.take_length, hbl1, List.take_length] at hej; exact hej
        have hxy : x = y := blk_ext (by simpa using hk) (by simpa using hpa) hpe hbe
        have fx := And.intro h2 <| And.intro hp2 <| And.intro h3 <| And.intro hp3 <| And.intro h5 <| And.intro h6 <| And.intro hp6 <| And.intro h7 <| And.intro hp7 <| And.intro h8 <| hjl
        refine k_run ?_
        repeat ((first | refine wSc (id := 8) qsVa0 mixed ?_ | refine wSc (id := 13) qsVa1 mixed ?_); refine k_rund ?_; refine k_run ?_)
        clear fx
        exact ⟨p.length - (i + 1), by omega, i + 1, rfl, by omega, by simp [h2], by simp [hp2], by simp [h3], by simp [hp3], by simp [h5]; exact wrp (by omega) (by omega), take_next heq hxi (hxy ▸ hyi)⟩
    · have hl2 : ((x.params.length : Int) == 1) = false := by simp; omega
      have hpe : x.params = y.params := by
        have e1 : x.params = [] := List.length_eq_zero_iff.1 (by omega)
        have e2 : y.params = [] := List.length_eq_zero_iff.1 (by omega)
        rw [e1, e2]
      have fx := And.intro h2 <| And.intro hp2 <| And.intro h3 <| And.intro hp3 <| And.intro h5 <| And.intro hil <| And.intro hxi <| And.intro hyi <| And.intro hxE <| And.intro hyE <| And.intro hxl' <| And.intro hyl' <| And.intro hk <| And.intro hpa <| And.intro hps <| And.intro hbs <| And.intro hl2 <| @bne_def
      refine k_run ?_
      repeat ((first | refine wSc (id := 8) qsVa0 mixed ?_ | refine wSc (id := 13) qsVa1 mixed ?_); refine k_rund ?_; refine k_run ?_)
      clear fx
      refine w_loop (fun n st => ∃ j : Nat, n = x.body.length - j ∧ j ≤ x.body.length ∧ st.tm 2 = .pt (.s 2) 0 ∧ st.hp (.s 2) = some (.row 1 [[ksl p]]) ∧ st.tm 3 = .pt (.s 3) 0 ∧ st.hp (.s 3) = some (.row 1 [[ksl q]]) ∧ st.tm 5 = iv i ∧ st.tm 8 = iv j ∧ st.tm 6 = .pt (.s 6) 0 ∧ st.hp (.s 6) = some (.row 4 [x.cells]) ∧ st.tm 7 = .pt (.s 7) 0 ∧ st.hp (.s 7) = some (.row 4 [y.cells]) ∧ x.body.take j = y.body.take j) x.body.length ⟨0, by simp [h2, hp2, h3, hp3, h5]⟩ ?_
      clear h2 hp2 h3 hp3 h5
      rintro n st - - ⟨j, rfl, hj, h2, hp2, h3, hp3, h5, h8, h6, hp6, h7, hp7, hej⟩
      by_cases hjl : j < x.body.length
      · obtain ⟨s, hs⟩ : ∃ s, x.body[j]? = some s := ⟨_, gE hjl⟩
        obtain ⟨t, hyj⟩ : ∃ t, y.body[j]? = some t := ⟨_, gE (by omega)⟩
        obtain ⟨_, hsE⟩ := gS hs
        obtain ⟨htl, htE⟩ := gS hyj
        by_cases hst : s = t
        · subst hst
          have fx := And.intro h2 <| And.intro hp2 <| And.intro h3 <| And.intro hp3 <| And.intro h5 <| And.intro h6 <| And.intro hp6 <| And.intro h7 <| And.intro hp7 <| And.intro h8 <| And.intro hjl <| And.intro hs <| And.intro hyj <| And.intro hsE <| And.intro htE <| And.intro htl <| @bne_def
          refine k_run ?_
          repeat ((first | refine wSc (id := 8) qsVa0 mixed ?_ | refine wSc (id := 13) qsVa1 mixed ?_); refine k_rund ?_; refine k_run ?_)
          clear fx
          exact ⟨x.body.length - (j + 1), by omega, j + 1, rfl, by omega, by simp [h2], by simp [hp2], by simp [h3], by simp [hp3], by simp [h5], by simp; exact wrp (by omega) (by omega), by simp [h6], by simp [hp6], by simp [h7], by simp [hp7], take_next hej hs hyj⟩
        · have hne2 : (!(s.kind == t.kind) || (!(s.to == t.to) || (!(s.a == t.a) || !(s.b == t.b)))) = true := stm_ne hst
          have fx := And.intro h2 <| And.intro hp2 <| And.intro h3 <| And.intro hp3 <| And.intro h5 <| And.intro h6 <| And.intro hp6 <| And.intro h7 <| And.intro hp7 <| And.intro h8 <| And.intro hjl <| And.intro hs <| And.intro hyj <| And.intro hsE <| And.intro htE <| And.intro htl <| And.intro @bne_def <| hne2
          refine k_run ?_
          repeat ((first | refine wSc (id := 8) qsVa0 mixed ?_ | refine wSc (id := 13) qsVa1 mixed ?_); refine k_rund ?_; refine k_run ?_)
          clear fx
          refine e_ret [] .nil (by simp; rfl) ?_
          rw [hne (x.body = y.body) (fun e => by rw [e, hyj] at hs; exact hst (Option.some.inj hs).symm) (fun e => by rw [e])]
          rfl
      · have hge : j = x.body.length := by omega
        have hbe : x.body = y.body := by rw [hge, List.take_length, hbl1, List.take_length] at hej; exact hej
        have hxy : x = y := blk_ext (by simpa using hk) (by simpa using hpa) hpe hbe
        have fx := And.intro h2 <| And.intro hp2 <| And.intro h3 <| And.intro hp3 <| And.intro h5 <| And.intro h6 <| And.intro hp6 <| And.intro h7 <| And.intro hp7 <| And.intro h8 <| hjl
        refine k_run ?_
        repeat ((first | refine wSc (id := 8) qsVa0 mixed ?_ | refine wSc (id := 13) qsVa1 mixed ?_); refine k_rund ?_; refine k_run ?_)
        clear fx
        exact ⟨p.length - (i + 1), by omega, i + 1, rfl, by omega, by simp [h2], by simp [hp2], by simp [h3], by simp [hp3], by simp [h5]; exact wrp (by omega) (by omega), take_next heq hxi (hxy ▸ hyi)⟩
  · have hge : i = p.length := by omega
    have : p = q := by rw [hge, List.take_length, hl, List.take_length] at heq; exact heq
    have fx := And.intro h2 <| And.intro hp2 <| And.intro h3 <| And.intro hp3 <| And.intro h5 <| hil
    refine k_run ?_
    repeat ((first | refine wSc (id := 8) qsVa0 mixed ?_ | refine wSc (id := 13) qsVa1 mixed ?_); refine k_rund ?_; refine k_run ?_)
    clear fx
    refine e_ret [] .nil (by simp []; rfl) (by simp [this])
theorem bareL_fn (gl) (p : Prg) (hs : Sml p) : FnOk Tryz.prog gl 60 [pav p] (fun r z H' => z = .agg [.hs r 4 0 (bareP p).length] ∧ OwnP H' r (bareP p)) := by
  have h := bare_fn gl p hs
  rw [show p.length = (bareP p).length by simp [bareP]] at h
  exact h
end Go.Proofs.YtcbkblboonkfhaaGreat
end
section
namespace Go.Proofs.YtcbkblboonkfhaaGreat
open Go Go.Hm Go.Proofs
abbrev qsVm0 : Sch := .q 0 <| .q 1 <| .l 2 [0] <| .l 3 [] <| .l 4 [] <| .done
abbrev qsVm1 : Sch := .q 0 <| .q 1 <| .l 2 [1] <| .l 3 [] <| .done
attribute [local simp] slcAV rowsIn
def PairPost (r : Nm) (z : AV) (H' : Nm → Option AO) : Prop := ∃ p q : Prg, Sml p ∧ Sml q ∧
  ((z = .tup [.agg [.hs (.c r 0 0) 4 0 p.length], .agg [.hs (.c r 0 1) 4 0 q.length]] ∧ OwnP H' (.c r 0 0) p ∧ OwnP H' (.c r 0 1) q) ∨
   (p = q ∧ z = .tup [.agg [.hs (.c r 0 0) 4 0 p.length], .agg [.hs (.c r 0 0) 4 0 p.length]] ∧ OwnP H' (.c r 0 0) p))
theorem fin_own {hp : Nm → Option AO} {sbs : List (Nm × Nm)} {n m : Nm} {p : Prg} (h : OwnP hp n p) (f0 : finf noD sbs n = some m) (f1 : ∀ i j, finf noD sbs (.c n i j) = some (.c m i j)) (g0 : fing sbs m = some n) (g1 : ∀ i j, fing sbs (.c m i j) = some (.c n i j)) : OwnP (finH noD sbs hp) m p := by
  refine ⟨?_, fun i k hk => ?_, fun i k hk => ?_⟩
  · simp only [finH, noD, Bool.false_eq_true, if_false, g0]
    rw [if_pos f0, h.top]
    simp only [Option.map_some, AO.tr]
    rw [pRows_tr (n := n) (m := m) (p := p) (fun i j _ => f1 i j)]
  · simp only [finH, noD, Bool.false_eq_true, if_false, g1]
    rw [if_pos (f1 i 2), h.params i k hk]
    simp [AO.tr]
  · simp only [finH, noD, Bool.false_eq_true, if_false, g1]
    rw [if_pos (f1 i 3), h.body i k hk]
    simp [AO.tr]
section
variable {P : Program} {root n m : Nm} {rs : List ResultVar} {E : Nm → AV → (Nm → Option AO) → Prop} {st : St} {p q : Prg}
theorem e_pair (hn : n.sroot = true) (hm : m.sroot = true) (h1 : Nm.under n m = false) (h2 : ∀ i j, Nm.under n (.c m i j) = false) (hx : resL P st rs = some [.agg [.hs n 4 0 p.length], .agg [.hs m 4 0 q.length]]) (ho : OwnP st.hp n p) (hq : OwnP st.hp m q) (hs : Sml p) (hs' : Sml q) : fnPost P noD root rs PairPost E .ret st := by
  have r0 : Nm.under (.c root 0 0) root = false := by
    cases h : Nm.under (.c root 0 0) root with
    | false => rfl
    | true => exact absurd rfl (Nm.under_not_c h).2
  have r1 : Nm.under (.c root 0 0) (.c root 0 1) = false := Nm.c_disj (by decide) (Nm.under_self _)
  have r2 : ∀ i j, Nm.under (.c root 0 0) (.c (.c root 0 1) i j) = false := fun i j => Nm.c_disj (i := 0) (j := 1) (by decide) (by simp)
  have rn : ∀ a b : Nm, Nm.ren a b a = b := fun a b => by cases a <;> simp [Nm.ren]
  have rc : ∀ (a b : Nm) i j, Nm.ren a b (.c a i j) = .c b i j := fun a b i j => by
    have : ¬ Nm.c a i j = a := Nm.not_under_c (Nm.under_self a)
    simp [Nm.ren, this, rn]
  refine e_ret [(n, .c root 0 0), (m, .c root 0 1)] (.two hn hm (by decide)) hx ⟨p, q, hs, hs', .inl ⟨?_, ?_, ?_⟩⟩
  · simp [res1, AV.tr, trL, finf, h1, rn]
  · exact fin_own ho (by simp [finf, rn]) (fun i j => by simp [finf, rc]) (by simp [fing, rn]) (fun i j => by simp [fing, rc])
  · exact fin_own hq (by simp [finf, h1, rn]) (fun i j => by simp [finf, h2, rc]) (by simp [fing, r1, rn]) (fun i j => by simp [fing, r2, rc])
theorem e_same (hn : n.sroot = true) (hx : resL P st rs = some [.agg [.hs n 4 0 p.length], .agg [.hs n 4 0 p.length]]) (ho : OwnP st.hp n p) (hs : Sml p) : fnPost P noD root rs PairPost E .ret st := by
  have rn : ∀ a b : Nm, Nm.ren a b a = b := fun a b => by cases a <;> simp [Nm.ren]
  have rc : ∀ (a b : Nm) i j, Nm.ren a b (.c a i j) = .c b i j := fun a b i j => by
    have : ¬ Nm.c a i j = a := Nm.not_under_c (Nm.under_self a)
    simp [Nm.ren, this, rn]
  refine e_ret [(n, .c root 0 0)] ⟨by simp [hn], by simp, by simp⟩ hx ⟨p, p, hs, hs, .inr ⟨rfl, ?_, ?_⟩⟩
  · simp [res1, AV.tr, trL, finf, rn]
  · exact fin_own ho (by simp [finf, rn]) (fun i j => by simp [finf, rc]) (by simp [fing, rn]) (fun i j => by simp [fing, rc])
end
theorem DrawSameMeaning_fn (gl) (code : List Int) (hc : CodeOk code) : FnOk Tryz.prog gl 15 [bsl code] PairPost := by
  have hb := hc.bytes
  refine FnOk.of_sem Tryz.func15 rfl (by kernel_rfl) (rs := [.cell 2 29, .cell 3 29]) rfl Tryz.ntmps15 (Nat.le_of_ble_eq_true rfl) fun C w g root => ?_
  have fx := fx0
  refine k_run ?_
  repeat ((first | refine wSc (id := 6) qsVm0 mixed ?_ | refine wSc (id := 10) qsVm1 mixed ?_ | refine wSc (id := 12) qsVm0 mixed ?_ | refine wSc (id := 14) qsVm1 mixed ?_ | refine wSc (id := 15) qsVm0 mixed ?_); refine k_rund ?_; refine k_run ?_)
  clear fx
  intro K hK
  refine x_own (ha := by simp) (hF := newReader_fn _ code hc.len) (h := ?_)
  rintro z H1 ⟨rfl, hR⟩
  have fx :=  hR
  refine k_run ?_
  repeat ((first | refine wSc (id := 6) qsVm0 mixed ?_ | refine wSc (id := 10) qsVm1 mixed ?_ | refine wSc (id := 12) qsVm0 mixed ?_ | refine wSc (id := 14) qsVm1 mixed ?_ | refine wSc (id := 15) qsVm0 mixed ?_); refine k_rund ?_; refine k_run ?_)
  clear fx
  intro K hK
  refine o_mv (.s 4) (.u 1 0 0) (.inl rfl) (.inr rfl) ?_
  refine x_rdo (bs := code.take 2000) (hs := by simp [hR]) (ha := by first | (simp; done) | (simp; rfl)) (hF := anyProgram_fn _ _ (code.take 2000) 0 hb (by omega) (by simp [hR]) (by simp) (by simp) (by simp)) (h := ?_)
  rintro z H2 ⟨p, q0, rfl, ⟨ho1, ho2, ho3⟩, ⟨hs, hpl, hq⟩, hU⟩
  refine ⟨q0, hU, ?_⟩
  have fx :=  ho1
  refine k_run ?_
  repeat ((first | refine wSc (id := 6) qsVm0 mixed ?_ | refine wSc (id := 10) qsVm1 mixed ?_ | refine wSc (id := 12) qsVm0 mixed ?_ | refine wSc (id := 14) qsVm1 mixed ?_ | refine wSc (id := 15) qsVm0 mixed ?_); refine k_rund ?_; refine k_run ?_)
  clear fx
  intro K hK
  refine o_abs (fun st => st.hp (.u 1 0 0) = some (rdO (code.take 2000) q0) ∧ st.tm 4 = .pt (.u 1 0 0) 0 ∧ BoxP st 5 p ∧ st.tm 12 = .agg [.hs (.c (.s 5) 0 0) 4 0 p.length] ∧ st.tm 2 = .pt (.s 2) 0 ∧ st.hp (.s 2) = some (.row 1 [[.hs (.c (.s 2) 0 0) 4 0 0]]) ∧ st.hp (.c (.s 2) 0 0) = some (.row 4 []) ∧ st.tm 3 = .pt (.s 3) 0 ∧ st.hp (.s 3) = some (.row 1 [[.hs (.c (.s 3) 0 0) 4 0 0]]) ∧ st.hp (.c (.s 3) 0 0) = some (.row 4 []) ∧ st.hp (.u 2 0 0) = none ∧ st.hp (.u 4 0 0) = none ∧ st.hp (.u 5 0 0) = none) ⟨by simp, by simp, ⟨by simp, by simp, ⟨by simp [ho1], fun j r hj => by simp [ho2 j r hj], fun j r hj => by simp [ho3 j r hj]⟩⟩, by simp, by simp, by simp, by simp, by simp, by simp, by simp, by simp, by simp, by simp⟩ ?_
  clear hR ho1 ho2 ho3 hU
  rintro st ⟨hu, h4, ⟨h5, hp5, ⟨a1, a2, a3⟩⟩, h12, h2, hp2, hp2', h3, hp3, hp3', u2, u4, u5⟩
  cases hv : progOk p
  · skip
    have fx := And.intro hu <| And.intro h4 <| And.intro h5 <| And.intro hp5 <| And.intro h12 <| And.intro h2 <| And.intro hp2 <| And.intro hp2' <| And.intro h3 <| And.intro hp3 <| And.intro hp3' <| a1
    have c1 := hv ▸ validProgram_fn gl p hs
    refine k_run ?_
    repeat ((first | refine wSc (id := 6) qsVm0 mixed ?_ | refine wSc (id := 10) qsVm1 mixed ?_ | refine wSc (id := 12) qsVm0 mixed ?_ | refine wSc (id := 14) qsVm1 mixed ?_ | refine wSc (id := 15) qsVm0 mixed ?_); refine k_rund ?_; refine k_run ?_)
    clear fx c1
    intro K hK
    refine x_rdo (bs := code.take 2000) (hs := by simp [hu]) (ha := by first | (simp [h4]; done) | (simp [h4]; rfl)) (hF := anyProgram_fn _ _ (code.take 2000) q0 hb (by omega) (by simp [hu]) (by simp) (by simp) (by simp)) (h := ?_)
    rintro z H3 ⟨q, q1, rfl, ⟨b1, b2, b3⟩, ⟨hs', hpl', hq'⟩, hU⟩
    refine ⟨q1, hU, ?_⟩
    have fx := And.intro b1 <| And.intro hu <| And.intro h4 <| And.intro h5 <| And.intro hp5 <| And.intro h12 <| And.intro h2 <| And.intro hp2 <| And.intro hp2' <| And.intro h3 <| And.intro hp3 <| And.intro hp3' <| a1
    refine k_run ?_
    repeat ((first | refine wSc (id := 6) qsVm0 mixed ?_ | refine wSc (id := 10) qsVm1 mixed ?_ | refine wSc (id := 12) qsVm0 mixed ?_ | refine wSc (id := 14) qsVm1 mixed ?_ | refine wSc (id := 15) qsVm0 mixed ?_); refine k_rund ?_; refine k_run ?_)
    clear fx
    exact e_pair (n := .c (.s 5) 0 0) (m := .c (.s 3) 0 0) (p := p) (q := q) rfl rfl (by simp) (by simp) (by simp [h2, h3]) ⟨by simp [a1], fun j r hj => by simp [a2 j r hj], fun j r hj => by simp [a3 j r hj]⟩ ⟨by simp [b1], fun j r hj => by simp [b2 j r hj], fun j r hj => by simp [b3 j r hj]⟩ hs hs'
  have fx := And.intro hu <| And.intro h4 <| And.intro h5 <| And.intro hp5 <| And.intro h12 <| And.intro h2 <| And.intro hp2 <| And.intro hp2' <| And.intro h3 <| And.intro hp3 <| And.intro hp3' <| a1
  have c1 := hv ▸ validProgram_fn gl p hs
  refine k_run ?_
  repeat ((first | refine wSc (id := 6) qsVm0 mixed ?_ | refine wSc (id := 10) qsVm1 mixed ?_ | refine wSc (id := 12) qsVm0 mixed ?_ | refine wSc (id := 14) qsVm1 mixed ?_ | refine wSc (id := 15) qsVm0 mixed ?_); refine k_rund ?_; refine k_run ?_)
  clear fx c1
  intro K hK
  refine x_rd (hs := by simp [hu]) (ha := by first | (simp [h4]; done) | (simp [h4]; rfl)) (hF := pick_rd _ _ (code.take 2000) q0 5 hb (by omega) (by omega) (by simp [hu])) (h := ?_)
  rintro y py ⟨hy, rfl⟩
  have hyc : y = 0 ∨ y = 1 ∨ y = 2 ∨ y = 3 ∨ y = 4 := by omega
  rcases hyc with rfl | rfl | rfl | rfl | rfl
  · have hlean := spec_LeanProgram_fn gl p hs
    have fx := And.intro hu <| And.intro h4 <| And.intro h5 <| And.intro hp5 <| And.intro h12 <| And.intro h2 <| And.intro hp2 <| And.intro hp2' <| And.intro h3 <| And.intro hp3 <| And.intro hp3' <| a1
    have e1 := hlean
    refine k_run ?_
    repeat ((first | refine wSc (id := 6) qsVm0 mixed ?_ | refine wSc (id := 10) qsVm1 mixed ?_ | refine wSc (id := 12) qsVm0 mixed ?_ | refine wSc (id := 14) qsVm1 mixed ?_ | refine wSc (id := 15) qsVm0 mixed ?_); refine k_rund ?_; refine k_run ?_)
    clear fx e1
    rintro K hK z H3 ⟨rfl, hO3⟩
    obtain ⟨b1, b2, b3⟩ := hO3.hcln
    refine ⟨by simp, ?_⟩
    have fx := And.intro b1 <| And.intro hu <| And.intro h4 <| And.intro h5 <| And.intro hp5 <| And.intro h12 <| And.intro h2 <| And.intro hp2 <| And.intro hp2' <| And.intro h3 <| And.intro hp3 <| And.intro hp3' <| a1
    refine k_run ?_
    repeat ((first | refine wSc (id := 6) qsVm0 mixed ?_ | refine wSc (id := 10) qsVm1 mixed ?_ | refine wSc (id := 12) qsVm0 mixed ?_ | refine wSc (id := 14) qsVm1 mixed ?_ | refine wSc (id := 15) qsVm0 mixed ?_); refine k_rund ?_; refine k_run ?_)
    clear fx
    exact e_pair (n := .c (.s 5) 0 0) (m := .c (.s 3) 0 0) (p := p) (q := leanG p) rfl rfl (by simp) (by simp) (by simp [h2, h3]) ⟨by simp [a1], fun j r hj => by simp [a2 j r hj], fun j r hj => by simp [a3 j r hj]⟩ ⟨by simp [b1], fun j r hj => by simp [b2 j r hj], fun j r hj => by simp [b3 j r hj]⟩ hs (leanG_sml hs)
  · have hfull := spec_FullProgram_fn gl p hs
    cases hf : fullOk p
    · simp only [hf, Bool.false_eq_true, if_false] at hfull
      have fx := And.intro hu <| And.intro h4 <| And.intro h5 <| And.intro hp5 <| And.intro h12 <| And.intro h2 <| And.intro hp2 <| And.intro hp2' <| And.intro h3 <| And.intro hp3 <| And.intro hp3' <| a1
      have e1 := hfull
      refine k_run ?_
      repeat ((first | refine wSc (id := 6) qsVm0 mixed ?_ | refine wSc (id := 10) qsVm1 mixed ?_ | refine wSc (id := 12) qsVm0 mixed ?_ | refine wSc (id := 14) qsVm1 mixed ?_ | refine wSc (id := 15) qsVm0 mixed ?_); refine k_rund ?_; refine k_run ?_)
      clear fx e1
      rintro K hK z H3 ⟨rfl, hO3⟩
      have b0 := hcln_row hO3 (by simp)
      refine ⟨by simp, ?_⟩
      have fx := And.intro b0 <| And.intro hu <| And.intro h4 <| And.intro h5 <| And.intro hp5 <| And.intro h12 <| And.intro h2 <| And.intro hp2 <| And.intro hp2' <| And.intro h3 <| And.intro hp3 <| And.intro hp3' <| a1
      refine k_run ?_
      repeat ((first | refine wSc (id := 6) qsVm0 mixed ?_ | refine wSc (id := 10) qsVm1 mixed ?_ | refine wSc (id := 12) qsVm0 mixed ?_ | refine wSc (id := 14) qsVm1 mixed ?_ | refine wSc (id := 15) qsVm0 mixed ?_); refine k_rund ?_; refine k_run ?_)
      clear fx
      intro K hK
      refine x_rdo (bs := code.take 2000) (hs := by simp [hu]) (ha := by first | (simp [h4]; done) | (simp [h4]; rfl)) (hF := anyProgram_fn _ _ (code.take 2000) (q0 + 1) hb (by omega) (by simp [hu]) (by simp) (by simp) (by simp)) (h := ?_)
      rintro z H3 ⟨q, q1, rfl, ⟨b1, b2, b3⟩, ⟨hs', hpl', hq'⟩, hU⟩
      refine ⟨q1, hU, ?_⟩
      have fx := And.intro b1 <| And.intro hu <| And.intro h4 <| And.intro h5 <| And.intro hp5 <| And.intro h12 <| And.intro h2 <| And.intro hp2 <| And.intro hp2' <| And.intro h3 <| And.intro hp3 <| And.intro hp3' <| a1
      refine k_run ?_
      repeat ((first | refine wSc (id := 6) qsVm0 mixed ?_ | refine wSc (id := 10) qsVm1 mixed ?_ | refine wSc (id := 12) qsVm0 mixed ?_ | refine wSc (id := 14) qsVm1 mixed ?_ | refine wSc (id := 15) qsVm0 mixed ?_); refine k_rund ?_; refine k_run ?_)
      clear fx
      exact e_pair (n := .c (.s 5) 0 0) (m := .c (.s 3) 0 0) (p := p) (q := q) rfl rfl (by simp) (by simp) (by simp [h2, h3]) ⟨by simp [a1], fun j r hj => by simp [a2 j r hj], fun j r hj => by simp [a3 j r hj]⟩ ⟨by simp [b1], fun j r hj => by simp [b2 j r hj], fun j r hj => by simp [b3 j r hj]⟩ hs hs'
    · simp only [hf, if_true] at hfull
      have fx := And.intro hu <| And.intro h4 <| And.intro h5 <| And.intro hp5 <| And.intro h12 <| And.intro h2 <| And.intro hp2 <| And.intro hp2' <| And.intro h3 <| And.intro hp3 <| And.intro hp3' <| a1
      have e1 := hfull
      refine k_run ?_
      repeat ((first | refine wSc (id := 6) qsVm0 mixed ?_ | refine wSc (id := 10) qsVm1 mixed ?_ | refine wSc (id := 12) qsVm0 mixed ?_ | refine wSc (id := 14) qsVm1 mixed ?_ | refine wSc (id := 15) qsVm0 mixed ?_); refine k_rund ?_; refine k_run ?_)
      clear fx e1
      rintro K hK z H3 ⟨rfl, hO3⟩
      obtain ⟨b1, b2, b3⟩ := hO3.hcln
      refine ⟨by simp, ?_⟩
      have fx := And.intro b1 <| And.intro hu <| And.intro h4 <| And.intro h5 <| And.intro hp5 <| And.intro h12 <| And.intro h2 <| And.intro hp2 <| And.intro hp2' <| And.intro h3 <| And.intro hp3 <| And.intro hp3' <| a1
      refine k_run ?_
      repeat ((first | refine wSc (id := 6) qsVm0 mixed ?_ | refine wSc (id := 10) qsVm1 mixed ?_ | refine wSc (id := 12) qsVm0 mixed ?_ | refine wSc (id := 14) qsVm1 mixed ?_ | refine wSc (id := 15) qsVm0 mixed ?_); refine k_rund ?_; refine k_run ?_)
      clear fx
      have hfl : (fullP p).length = p.length := by simp [fullP]
      exact e_pair (n := .c (.s 5) 0 0) (m := .c (.s 6) 0 0) (p := p) (q := fullP p) rfl rfl (by simp) (by simp) (by simp [h2, h3, hfl]) ⟨by simp [a1], fun j r hj => by simp [a2 j r hj], fun j r hj => by simp [a3 j r hj]⟩ ⟨by simp [b1], fun j r hj => by simp [b2 j r hj], fun j r hj => by simp [b3 j r hj]⟩ hs (by have := fullG_sml hs; simpa [fullG, hf] using this)
  · have hbare := bareL_fn gl p hs
    have fx := And.intro hu <| And.intro h4 <| And.intro h5 <| And.intro hp5 <| And.intro h12 <| And.intro h2 <| And.intro hp2 <| And.intro hp2' <| And.intro h3 <| And.intro hp3 <| And.intro hp3' <| a1
    have e1 := hbare
    refine k_run ?_
    repeat ((first | refine wSc (id := 6) qsVm0 mixed ?_ | refine wSc (id := 10) qsVm1 mixed ?_ | refine wSc (id := 12) qsVm0 mixed ?_ | refine wSc (id := 14) qsVm1 mixed ?_ | refine wSc (id := 15) qsVm0 mixed ?_); refine k_rund ?_; refine k_run ?_)
    clear fx e1
    rintro K hK z H3 ⟨rfl, hO3⟩
    obtain ⟨b1, b2, b3⟩ := hO3.hcln
    refine ⟨by simp, ?_⟩
    have fx := And.intro b1 <| And.intro hu <| And.intro h4 <| And.intro h5 <| And.intro hp5 <| And.intro h12 <| And.intro h2 <| And.intro hp2 <| And.intro hp2' <| And.intro h3 <| And.intro hp3 <| And.intro hp3' <| a1
    refine k_run ?_
    repeat ((first | refine wSc (id := 6) qsVm0 mixed ?_ | refine wSc (id := 10) qsVm1 mixed ?_ | refine wSc (id := 12) qsVm0 mixed ?_ | refine wSc (id := 14) qsVm1 mixed ?_ | refine wSc (id := 15) qsVm0 mixed ?_); refine k_rund ?_; refine k_run ?_)
    clear fx
    exact e_pair (n := .c (.s 5) 0 0) (m := .c (.s 3) 0 0) (p := p) (q := bareP p) rfl rfl (by simp) (by simp) (by simp [h2, h3]) ⟨by simp [a1], fun j r hj => by simp [a2 j r hj], fun j r hj => by simp [a3 j r hj]⟩ ⟨by simp [b1], fun j r hj => by simp [b2 j r hj], fun j r hj => by simp [b3 j r hj]⟩ hs (bareP_sml hs)
  · skip
    have fx := And.intro hu <| And.intro h4 <| And.intro h5 <| And.intro hp5 <| And.intro h12 <| And.intro h2 <| And.intro hp2 <| And.intro hp2' <| And.intro h3 <| And.intro hp3 <| And.intro hp3' <| a1
    refine k_run ?_
    repeat ((first | refine wSc (id := 6) qsVm0 mixed ?_ | refine wSc (id := 10) qsVm1 mixed ?_ | refine wSc (id := 12) qsVm0 mixed ?_ | refine wSc (id := 14) qsVm1 mixed ?_ | refine wSc (id := 15) qsVm0 mixed ?_); refine k_rund ?_; refine k_run ?_)
    clear fx
    exact e_same (n := .c (.s 5) 0 0) (p := p) rfl (by simp [h2, h3]) ⟨by simp [a1], fun j r hj => by simp [a2 j r hj], fun j r hj => by simp [a3 j r hj]⟩ hs
  · skip
    have fx := And.intro hu <| And.intro h4 <| And.intro h5 <| And.intro hp5 <| And.intro h12 <| And.intro h2 <| And.intro hp2 <| And.intro hp2' <| And.intro h3 <| And.intro hp3 <| And.intro hp3' <| a1
    refine k_run ?_
    repeat ((first | refine wSc (id := 6) qsVm0 mixed ?_ | refine wSc (id := 10) qsVm1 mixed ?_ | refine wSc (id := 12) qsVm0 mixed ?_ | refine wSc (id := 14) qsVm1 mixed ?_ | refine wSc (id := 15) qsVm0 mixed ?_); refine k_rund ?_; refine k_run ?_)
    clear fx
    intro K hK
    refine x_rdo (bs := code.take 2000) (hs := by simp [hu]) (ha := by first | (simp [h4]; done) | (simp [h4]; rfl)) (hF := anyProgram_fn _ _ (code.take 2000) (q0 + 1) hb (by omega) (by simp [hu]) (by simp) (by simp) (by simp)) (h := ?_)
    rintro z H3 ⟨q, q1, rfl, ⟨b1, b2, b3⟩, ⟨hs', hpl', hq'⟩, hU⟩
    refine ⟨q1, hU, ?_⟩
    have fx := And.intro b1 <| And.intro hu <| And.intro h4 <| And.intro h5 <| And.intro hp5 <| And.intro h12 <| And.intro h2 <| And.intro hp2 <| And.intro hp2' <| And.intro h3 <| And.intro hp3 <| And.intro hp3' <| a1
    refine k_run ?_
    repeat ((first | refine wSc (id := 6) qsVm0 mixed ?_ | refine wSc (id := 10) qsVm1 mixed ?_ | refine wSc (id := 12) qsVm0 mixed ?_ | refine wSc (id := 14) qsVm1 mixed ?_ | refine wSc (id := 15) qsVm0 mixed ?_); refine k_rund ?_; refine k_run ?_)
    clear fx
    exact e_pair (n := .c (.s 5) 0 0) (m := .c (.s 3) 0 0) (p := p) (q := q) rfl rfl (by simp) (by simp) (by simp [h2, h3]) ⟨by simp [a1], fun j r hj => by simp [a2 j r hj], fun j r hj => by simp [a3 j r hj]⟩ ⟨by simp [b1], fun j r hj => by simp [b2 j r hj], fun j r hj => by simp [b3 j r hj]⟩ hs hs'
end Go.Proofs.YtcbkblboonkfhaaGreat
end
section
namespace Go.Proofs.YtcbkblboonkfhaaGreat
open Go Go.Hm Go.Proofs
abbrev qsVe0 : Sch := .q 0 <| .l 1 [] <| .q 2 <| .q 3 <| .l 4 [] <| .q 5 <| .q 6 <| .q 7 <| .q 9 <| .l 8 [9, 5] <| .l 10 [5] <| .l 11 [5] <| .q 12 <| .q 13 <| .q 14 <| .q 16 <| .l 15 [16, 12, 5] <| .l 17 [12, 5] <| .l 18 [12, 5] <| .q 19 <| .l 20 [] <| .done
theorem spec_SameMeaning_fn (gl) (p q : Prg) (hp : Sml p) (hq : Sml q) : FnOk Tryz.prog gl 17 [pav p, pav q] (fun _ z _ => z = bv (sameG p q)) := by
  refine FnOk.of_sem Tryz.func17 rfl (by kernel_rfl) (rs := [.tmp 4]) rfl Tryz.ntmps17 (Nat.le_of_ble_eq_true rfl) fun C w g root => ?_
  cases hv1 : progOk p
  · skip
    have fx :=  hv1
    have c1 := hv1 ▸ validProgram_fn gl p hp
    refine k_run ?_
    repeat ((first | refine wSc (id := 1) qsVe0 mixed ?_); refine k_rund ?_; refine k_run ?_)
    clear fx c1
    refine e_ret [] .nil (by simp; rfl) (by simp [sameG, hv1])
  cases hv2 : progOk q
  · skip
    have fx := And.intro hv1 <| hv2
    have c1 := hv1 ▸ validProgram_fn gl p hp
    have c2 := hv2 ▸ validProgram_fn gl q hq
    refine k_run ?_
    repeat ((first | refine wSc (id := 1) qsVe0 mixed ?_); refine k_rund ?_; refine k_run ?_)
    clear fx c1 c2
    refine e_ret [] .nil (by simp; rfl) (by simp [sameG, hv2])
  have hP := shape_ok hp hv1
  have hQ := shape_ok hq hv2
  have sp := samePrograms_fn gl (bareP p) (bareP q) (bareP_sml hp) (bareP_sml hq) (fun k hk => by
    simp only [bareP, List.mem_map] at hk
    obtain ⟨k0, hk0, rfl⟩ := hk
    obtain ⟨i, hi⟩ := List.getElem?_of_mem hk0
    have := hP.head i k0 hi
    simp only [bareB]
    unfold HeadOk at this
    split at this <;> omega)
  cases hb : decide (bareP p = bareP q)
  · rw [hb] at sp
    have fx := And.intro hv1 <| hv2
    have c1 := hv1 ▸ validProgram_fn gl p hp
    have c2 := hv2 ▸ validProgram_fn gl q hq
    have e1 := bareL_fn gl p hp
    have e2 := bareL_fn gl q hq
    refine k_run ?_
    repeat ((first | refine wSc (id := 1) qsVe0 mixed ?_); refine k_rund ?_; refine k_run ?_)
    clear fx c1 c2 e1 e2
    rintro K hK z H1 ⟨rfl, hO⟩
    obtain ⟨a1, a2, a3⟩ := hO.hcln
    refine ⟨by simp, ?_⟩
    have fx :=  a1
    have e1 := bareL_fn gl q hq
    refine k_run ?_
    repeat ((first | refine wSc (id := 1) qsVe0 mixed ?_); refine k_rund ?_; refine k_run ?_)
    clear fx e1
    rintro z H2 ⟨rfl, hO2⟩
    obtain ⟨b1, b2, b3⟩ := hO2.hcln
    refine ⟨by simp, ?_⟩
    have fx := And.intro a1 <| b1
    have c1 := sp
    refine k_run ?_
    repeat ((first | refine wSc (id := 1) qsVe0 mixed ?_); refine k_rund ?_; refine k_run ?_)
    clear fx c1
    refine e_ret [] .nil (by simp; rfl) (by simp [sameG, hb])
  rw [hb] at sp
  have fx := And.intro hv1 <| hv2
  have c1 := hv1 ▸ validProgram_fn gl p hp
  have c2 := hv2 ▸ validProgram_fn gl q hq
  have e1 := bareL_fn gl p hp
  have e2 := bareL_fn gl q hq
  refine k_run ?_
  repeat ((first | refine wSc (id := 1) qsVe0 mixed ?_); refine k_rund ?_; refine k_run ?_)
  clear fx c1 c2 e1 e2
  rintro K hK z H1 ⟨rfl, hO⟩
  obtain ⟨a1, a2, a3⟩ := hO.hcln
  refine ⟨by simp, ?_⟩
  have fx :=  a1
  have e1 := bareL_fn gl q hq
  refine k_run ?_
  repeat ((first | refine wSc (id := 1) qsVe0 mixed ?_); refine k_rund ?_; refine k_run ?_)
  clear fx e1
  rintro z H2 ⟨rfl, hO2⟩
  obtain ⟨b1, b2, b3⟩ := hO2.hcln
  refine ⟨by simp, ?_⟩
  have fx := And.intro a1 <| b1
  have c1 := sp
  have e1 := ownersOf_fn gl p hp hP.heads
  have e2 := ownersOf_fn gl q hq hQ.heads
  refine k_run ?_
  repeat ((first | refine wSc (id := 1) qsVe0 mixed ?_); refine k_rund ?_; refine k_run ?_)
  clear fx c1 e1 e2
  rintro y H3 ⟨rfl, hT1⟩
  obtain ⟨t11, t12⟩ := hT1.hcln
  refine ⟨by simp, ?_⟩
  have fx := fx0
  have e1 := ownersOf_fn gl q hq hQ.heads
  refine k_run ?_
  repeat ((first | refine wSc (id := 1) qsVe0 mixed ?_); refine k_rund ?_; refine k_run ?_)
  clear fx e1
  rintro y H4 ⟨rfl, hT2⟩
  obtain ⟨t21, t22⟩ := hT2.hcln
  refine ⟨by simp, ?_⟩
  have hbl := bareP_len (of_decide_eq_true hb)
  have hpl := hp.len
  have hl1 : (ownersOf p).length = (ownersOf q).length := by simp [ownersOf, hbl]
  have hl2 : (ownersOf p).length ≤ 1048576 := by simp [ownersOf]; omega
  have hl3 : ∀ (i' : Nat) r r', (ownersOf p)[i']? = some r → (ownersOf q)[i']? = some r' → r.length = r'.length ∧ r.length ≤ 1048576 := by
    intro i' r r' hr hr'
    rw [ownersOf_row hr, ownersOf_row hr']
    exact ⟨rfl, by decide⟩
  have fx :=  hbl
  refine k_run ?_
  repeat ((first | refine wSc (id := 1) qsVe0 mixed ?_); refine k_rund ?_; refine k_run ?_)
  clear fx
  have fx := hbl
  refine kx_call (hB := .cons (bw_tab (n := .s 20) (by simp [t11]; first | done | rfl) (fun j r hj => by simp [t12 j r hj]) rfl) (.cons (bw_tab (n := .s 22) (by simp [t21]; first | done | rfl) (fun j r hj => by simp [t22 j r hj]) rfl) .nil)) (hF := sameTable_fn gl _ _ hl1 hl2 hl3) (h := ?_)
  clear fx
  have fx :=  hv1
  refine k_run ?_
  repeat ((first | refine wSc (id := 1) qsVe0 mixed ?_); refine k_rund ?_; refine k_run ?_)
  clear fx
  refine e_ret [] .nil (by simp; rfl) (by simp [sameG, hv1, hv2, hb])
theorem FnSameMeaning_fn (gl : Nat → Option (List AV)) (code : List Int) (hcode : ∀ v ∈ code, 0 ≤ v ∧ v ≤ 255) (hbig : code.length ≤ 1152921504606846976) :
    FnOk Tryz.prog gl 4 [bsl code] (fun _ z _ => z = bv true) := by
  refine FnOk.of_sem Tryz.func4 rfl (by kernel_rfl) (rs := [.tmp 2]) rfl Tryz.ntmps4 (Nat.le_of_ble_eq_true rfl) fun C w g root => ?_
  by_cases hlen : 1048576 < code.length
  · have hl1 : (1048576 : Int) < code.length := by omega
    have fx :=  hl1
    refine k_run ?_
    clear fx
    refine e_ret [] .nil (by simp; rfl) (by simp)
  have hl1 : ¬ (1048576 : Int) < code.length := by omega
  have hc : CodeOk code := ⟨by omega, hcode⟩
  have fx :=  hl1
  have e1 := DrawSameMeaning_fn gl code hc
  refine k_run ?_
  clear fx e1
  rintro K hK z H1 ⟨p, q, hs, hs', hcase⟩
  have i1 := impl_SameMeaning_fn gl p q hs hs'
  have s1 := spec_SameMeaning_fn gl p q hs hs'
  have hpl := hs.len
  have hql := hs'.len
  rcases hcase with ⟨rfl, hO, hO'⟩ | ⟨rfl, rfl, hO⟩
  · obtain ⟨ho1, ho2, ho3⟩ := hO.hcln
    obtain ⟨b1, b2, b3⟩ := hO'.hcln
    refine ⟨by simp, ?_⟩
    have fx := And.intro ho1 <| b1
    refine k_run ?_
    clear fx
    intro K hK
    refine o_abs (fun st => st.tm 3 = .pt (.s 3) 0 ∧ st.hp (.s 3) = some (.row 1 [[.hs (.c (.s 11) 0 0) 4 0 p.length]]) ∧ OwnP st.hp (.c (.s 11) 0 0) p ∧ st.tm 4 = .pt (.s 4) 0 ∧ st.hp (.s 4) = some (.row 1 [[.hs (.c (.s 11) 0 1) 4 0 q.length]]) ∧ OwnP st.hp (.c (.s 11) 0 1) q ∧ st.tm 14 = .agg [.hs (.c (.s 11) 0 0) 4 0 p.length] ∧ st.tm 15 = .agg [.hs (.c (.s 11) 0 1) 4 0 q.length])
      ⟨by simp, by simp, ⟨by simp [ho1], fun j r hj => by simp [ho2 j r hj], fun j r hj => by simp [ho3 j r hj]⟩, by simp, by simp, ⟨by simp [b1], fun j r hj => by simp [b2 j r hj], fun j r hj => by simp [b3 j r hj]⟩, by simp, by simp⟩ ?_
    clear ho1 ho2 ho3 hO hO' b1 b2 b3
    rintro st ⟨h3, hp3, ⟨a1, a2, a3⟩, h4, hp4, ⟨b1, b2, b3⟩, h14, h15⟩
    cases hv : sameG p q
    · rw [hv] at i1 s1
      have fx := And.intro h3 <| And.intro hp3 <| And.intro h4 <| And.intro hp4 <| And.intro h14 <| And.intro h15 <| @bne_def
      have c1 := i1
      have c2 := s1
      refine k_run ?_
      clear fx c1 c2
      refine e_ret [] .nil (by simp; rfl) (by simp)
    · obtain ⟨v1, v2, _, _⟩ := sameG_parts hv
      have i2 := impl_SameMeaning_fn gl q p hs' hs
      have i3 := impl_SameMeaning_fn gl p p hs hs
      have sr := sameRun_fn gl p q hs hs' v1 v2 (sameG_run hs hs' hv)
      rw [sameG_symm hv] at i2
      rw [sameG_self v1] at i3
      rw [hv] at i1 s1
      have fx := And.intro h3 <| And.intro hp3 <| And.intro h4 <| And.intro hp4 <| And.intro h14 <| And.intro h15 <| @bne_def
      have c1 := i1
      have c2 := s1
      have c3 := i2
      have c4 := i3
      have c5 := sr
      refine k_run ?_
      clear fx c1 c2 c3 c4 c5
      refine e_ret [] .nil (by simp; rfl) (by simp)
  · obtain ⟨ho1, ho2, ho3⟩ := hO.hcln
    refine ⟨by simp, ?_⟩
    have fx :=  ho1
    refine k_run ?_
    clear fx
    intro K hK
    refine o_abs (fun st => st.tm 3 = .pt (.s 3) 0 ∧ st.hp (.s 3) = some (.row 1 [[.hs (.c (.s 11) 0 0) 4 0 p.length]]) ∧ OwnP st.hp (.c (.s 11) 0 0) p ∧ st.tm 4 = .pt (.s 4) 0 ∧ st.hp (.s 4) = some (.row 1 [[.hs (.c (.s 11) 0 0) 4 0 p.length]]) ∧ OwnP st.hp (.c (.s 11) 0 0) p ∧ st.tm 14 = .agg [.hs (.c (.s 11) 0 0) 4 0 p.length] ∧ st.tm 15 = .agg [.hs (.c (.s 11) 0 0) 4 0 p.length])
      ⟨by simp, by simp, ⟨by simp [ho1], fun j r hj => by simp [ho2 j r hj], fun j r hj => by simp [ho3 j r hj]⟩, by simp, by simp, ⟨by simp [ho1], fun j r hj => by simp [ho2 j r hj], fun j r hj => by simp [ho3 j r hj]⟩, by simp, by simp⟩ ?_
    clear ho1 ho2 ho3 hO
    rintro st ⟨h3, hp3, ⟨a1, a2, a3⟩, h4, hp4, ⟨b1, b2, b3⟩, h14, h15⟩
    cases hv : sameG p p
    · rw [hv] at i1 s1
      have fx := And.intro h3 <| And.intro hp3 <| And.intro h4 <| And.intro hp4 <| And.intro h14 <| And.intro h15 <| @bne_def
      have c1 := i1
      have c2 := s1
      refine k_run ?_
      clear fx c1 c2
      refine e_ret [] .nil (by simp; rfl) (by simp)
    · obtain ⟨v1, v2, _, _⟩ := sameG_parts hv
      have i2 := impl_SameMeaning_fn gl p p hs hs
      have i3 := impl_SameMeaning_fn gl p p hs hs
      have sr := sameRun_fn gl p p hs hs v1 v2 (sameG_run hs hs hv)
      rw [sameG_symm hv] at i2
      rw [sameG_self v1] at i3
      rw [hv] at i1 s1
      have fx := And.intro h3 <| And.intro hp3 <| And.intro h4 <| And.intro hp4 <| And.intro h14 <| And.intro h15 <| @bne_def
      have c1 := i1
      have c2 := s1
      have c3 := i2
      have c4 := i3
      have c5 := sr
      refine k_run ?_
      clear fx c1 c2 c3 c4 c5
      refine e_ret [] .nil (by simp; rfl) (by simp)
end Go.Proofs.YtcbkblboonkfhaaGreat
end
