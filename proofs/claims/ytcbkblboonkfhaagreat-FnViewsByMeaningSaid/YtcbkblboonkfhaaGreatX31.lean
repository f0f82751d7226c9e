/-
  Own texts, joined by mkclaim.py: Rd, Re, Rf, Rg, Sm, Wl, Jz.
-/
import Derived.Test.YtcbkblboonkfhaaGreatX30
import Derived.Test.YtcbkblboonkfhaaGreatX12
import Derived.Test.YtcbkblboonkfhaaGreatX19
import Derived.Test.YtcbkblboonkfhaaGreatX25
import Derived.Test.YtcbkblboonkfhaaGreatX15
import Derived.Test.YtcbkblboonkfhaaGreatX22
import Derived.Test.YtcbkblboonkfhaaGreatX27
import Derived.Test.YtcbkblboonkfhaaGreatX28
import Derived.Test.YtcbkblboonkfhaaGreatX16
import Derived.Test.YtcbkblboonkfhaaGreatProg
import Derived.Test.YtcbkblboonkfhaaGreatChecked
import Derived.KernelRfl
set_option linter.unusedSimpArgs false
set_option linter.unusedVariables false
set_option maxRecDepth 100000
set_option maxHeartbeats 4000000

section
namespace Go.Proofs.YtcbkblboonkfhaaGreat
open Go Go.Hm Go.Proofs
abbrev qsRd0 : Sch := .q 0 <| .q 1 <| .q 2 <| .q 3 <| .q 4 <| .l 5 [3, 2, 1, 0] <| .l 6 [2, 1, 0] <| .q 7 <| .q 8 <| .l 9 [7] <| .done
abbrev qsRd1 : Sch := .q 0 <| .q 1 <| .q 2 <| .q 3 <| .q 4 <| .q 5 <| .q 6 <| .q 7 <| .q 8 <| .q 9 <| .q 12 <| .l 10 [12, 9, 8, 7, 6, 5, 4, 3, 2, 1, 0] <| .l 11 [12, 8, 7, 6, 5, 4, 3, 2, 1, 0] <| .q 13 <| .l 14 [12, 8, 7, 6, 5, 4, 3, 2, 1, 0] <| .l 15 [12, 7, 6, 5, 4, 3, 2, 1, 0] <| .q 16 <| .q 17 <| .l 18 [16] <| .done
abbrev qsRd2 : Sch := .q 0 <| .q 1 <| .q 2 <| .q 3 <| .q 4 <| .q 5 <| .q 6 <| .q 7 <| .q 8 <| .q 9 <| .l 10 [9, 8, 7, 6, 5, 4, 3, 2, 1, 0] <| .l 11 [8, 7, 6, 5, 4, 3, 2, 1, 0] <| .q 12 <| .l 13 [8, 7, 6, 5, 4, 3, 2, 1, 0] <| .l 14 [7, 6, 5, 4, 3, 2, 1, 0] <| .q 15 <| .q 16 <| .l 17 [15] <| .done
abbrev qsRd3 : Sch := .q 0 <| .q 1 <| .q 2 <| .q 3 <| .l 4 [3, 2, 1, 0] <| .l 5 [2, 1, 0] <| .l 6 [2, 1, 0] <| .q 7 <| .q 8 <| .l 9 [7] <| .done
theorem anyProgram_fn (gl) (H : Nm → Option AO) (bs : List Int) (pos : Nat) (hb : BytesOk bs) (hpos : pos ≤ 600000) (hH : H (.u 1 0 0) = some (rdO bs pos)) (hV : H (.u 2 0 0) = none) (hV4 : H (.u 4 0 0) = none) (hV5 : H (.u 5 0 0) = none) :
    FnE Tryz.prog gl 57 (Nm.under (.u 1 0 0)) [.pt (.u 1 0 0) 0] H (PrgPost bs (fun p pos' => Sml p ∧ (1 ≤ p.length ∧ p.length ≤ 8) ∧ pos' ≤ pos + 3000)) noE := by
  refine FnE.of_sem Tryz.func57 rfl (by kernel_rfl) (rs := [.cell 2 29]) rfl Tryz.ntmps57 (Nat.le_of_ble_eq_true rfl) (fun _ => under_usroot rfl) fun C w g root hroot => ?_
  have hr0 := hroot root (Nm.under_self _)
  have fx := fx0
  refine k_run ?_
  repeat ((first | refine wSc (id := 7) qsRd0 mixed ?_ | refine wSc (id := 9) qsRd1 mixed ?_ | refine wSc (id := 11) qsRd2 mixed ?_ | refine wSc (id := 13) qsRd3 mixed ?_); refine k_rund ?_; refine k_run ?_)
  clear fx
  first | show SemOp _ _ _ _ _ | intro K hK
  refine x_rdo (bs := bs) (hs := by simp [hH]) (ha := by first | (simp; done) | (simp; rfl)) (hF := goodProgram_fn _ _ bs pos hb (by omega) (by simp [hH]) (by simp) (by simp) (by simp)) (h := ?_)
  rintro z H1 ⟨p, q, rfl, ⟨ho1, ho2, ho3⟩, ⟨hg, hq⟩, hU⟩
  refine ⟨q, hU, ?_⟩
  have hgl := hg.len
  have hs := hg.sml
  have fx :=  ho1
  refine k_run ?_
  repeat ((first | refine wSc (id := 7) qsRd0 mixed ?_ | refine wSc (id := 9) qsRd1 mixed ?_ | refine wSc (id := 11) qsRd2 mixed ?_ | refine wSc (id := 13) qsRd3 mixed ?_); refine k_rund ?_; refine k_run ?_)
  clear fx
  first | show SemOp _ _ _ _ _ | intro K hK
  refine x_rd (hs := by simp) (ha := by first | (simp; done) | (simp; rfl)) (hF := pick_rd _ _ bs q p.length hb (by omega) (by omega) (by simp)) (h := ?_)
  rintro x px ⟨hx, rfl⟩
  have hxl : x < p.length := by omega
  have fx := fx0
  refine k_run ?_
  repeat ((first | refine wSc (id := 7) qsRd0 mixed ?_ | refine wSc (id := 9) qsRd1 mixed ?_ | refine wSc (id := 11) qsRd2 mixed ?_ | refine wSc (id := 13) qsRd3 mixed ?_); refine k_rund ?_; refine k_run ?_)
  clear fx
  first | show SemOp _ _ _ _ _ | intro K hK
  refine x_rd (hs := by simp) (ha := by first | (simp; done) | (simp; rfl)) (hF := pick_rd _ _ bs (q + 1) 24 hb (by omega) (by omega) (by simp)) (h := ?_)
  rintro y py ⟨hy, rfl⟩
  have hy24 : y < 24 := by omega
  refine s_abs (fun st => st.tm 0 = .pt (.u 1 0 0) 0 ∧ st.hp (.u 1 0 0) = some (rdO bs (q + 1 + 1)) ∧ st.tm 2 = .pt (.s 2) 0 ∧ st.hp (.s 2) = some (.row 1 [[.hs (.c (.s 2) 0 0) 4 0 0]]) ∧ st.hp (.c (.s 2) 0 0) = some (.row 4 []) ∧ st.tm 3 = .pt (.s 3) 0 ∧ st.hp (.s 3) = some (.row 1 [[.hs (.c (.s 3) 0 0) 4 0 p.length]]) ∧ OwnP st.hp (.c (.s 3) 0 0) p ∧ st.tm 4 = iv x ∧ st.tm 13 = iv y)
    ⟨by simp, by simp, by simp, by simp, by simp, by simp, by simp, ⟨by simp [ho1], fun j r hj => by simp [ho2 j r hj], fun j r hj => by simp [ho3 j r hj]⟩, by simp, by simp⟩ ?_
  clear ho1 ho2 ho3 hU
  rintro st ⟨h0, hU, h2, hp2, hp2', h3, hp3, ⟨ho1, ho2, ho3⟩, h4, h13⟩
  obtain ⟨k, hk⟩ : ∃ k, p[x]? = some k := ⟨_, gE hxl⟩
  obtain ⟨_, hkE⟩ := gS hk
  have hkp := hg.params k (List.mem_of_getElem? hk)
  have hkb := hg.body k (List.mem_of_getElem? hk)
  have hob := ho3 x k hk
  have hyc : y = 0 ∨ y = 1 ∨ y = 2 ∨ y = 3 ∨ y = 4 ∨ 5 ≤ y := by omega
  clear hy hx
  rcases hyc with rfl | rfl | rfl | rfl | rfl | hy5
  · skip
    have fx := And.intro h0 <| h13
    refine k_run ?_
    repeat ((first | refine wSc (id := 7) qsRd0 mixed ?_ | refine wSc (id := 9) qsRd1 mixed ?_ | refine wSc (id := 11) qsRd2 mixed ?_ | refine wSc (id := 13) qsRd3 mixed ?_); refine k_rund ?_; refine k_run ?_)
    clear fx
    first | show SemOp _ _ _ _ _ | intro K hK
    refine x_rdo (bs := bs) (hs := by simp [hU]) (ha := by first | (simp [h0]; done) | (simp [h0]; rfl)) (hF := shapedProgram_fn _ _ bs (q + 1 + 1) hb (by omega) (by simp [hU]) (by simp) (by simp) (by simp)) (h := ?_)
    rintro z H2 ⟨p2, q2, rfl, ⟨hc1, hc2, hc3⟩, ⟨hg2, hq2⟩, hU2⟩
    refine ⟨q2, hU2, ?_⟩
    have fx := And.intro h2 <| And.intro hp2 <| And.intro hp2' <| hc1
    refine k_run ?_
    repeat ((first | refine wSc (id := 7) qsRd0 mixed ?_ | refine wSc (id := 9) qsRd1 mixed ?_ | refine wSc (id := 11) qsRd2 mixed ?_ | refine wSc (id := 13) qsRd3 mixed ?_); refine k_rund ?_; refine k_run ?_)
    clear fx
    refine e_ret [(.c (.s 2) 0 0, root)] (.one rfl) (by simp [h2]; rfl) ⟨p2, q2, by simp, ⟨?_, fun j r hj => ?_, fun j r hj => ?_⟩, ⟨hg2.sml, hg2.len, by omega⟩, by simp⟩
    · simp [hc1, hr0, pRows_tr (n := .c (.s 2) 0 0) (m := root) (f := finf (Nm.under (.u 1 0 0)) [(.c (.s 2) 0 0, root)]) (p := p2) (by simp [hr0])]
    · simp [hc2 j r hj, hr0]
    · simp [hc3 j r hj, hr0]
  · skip
    have fx := And.intro h0 <| And.intro h13 <| And.intro h3 <| And.intro hp3 <| And.intro h4 <| And.intro ho1 <| And.intro hxl <| And.intro hk <| And.intro hkE <| hob
    refine k_run ?_
    repeat ((first | refine wSc (id := 7) qsRd0 mixed ?_ | refine wSc (id := 9) qsRd1 mixed ?_ | refine wSc (id := 11) qsRd2 mixed ?_ | refine wSc (id := 13) qsRd3 mixed ?_); refine k_rund ?_; refine k_run ?_)
    clear fx
    first | show SemOp _ _ _ _ _ | intro K hK
    refine x_one (oneOk _) 25 [-2, (x : Int), 7] (bs := bs) (pos := q + 1 + 1) hb (by omega) (hV := hV) (h0 := by simp [h0]) (h1 := by simp) (hH := by simp [hU]) (hL := by simp [irows]) (h := ?_)
    intro v hv
    have hset := pRows_setPar (n := .c (.s 3) 0 0) (v := v) hk
    have fx := And.intro h0 <| And.intro h13 <| And.intro h3 <| And.intro hp3 <| And.intro h4 <| And.intro ho1 <| And.intro hxl <| And.intro hk <| And.intro hkE <| And.intro hob <| And.intro hset <| And.intro h2 <| And.intro hp2 <| hp2'
    refine k_run ?_
    repeat ((first | refine wSc (id := 7) qsRd0 mixed ?_ | refine wSc (id := 9) qsRd1 mixed ?_ | refine wSc (id := 11) qsRd2 mixed ?_ | refine wSc (id := 13) qsRd3 mixed ?_); refine k_rund ?_; refine k_run ?_)
    clear fx
    refine e_ret [(.c (.s 3) 0 0, root)] (.one rfl) (by simp [h2]; rfl) ⟨p.set x { k with parent := v }, q + 1 + 1 + 1, by simp, ⟨?_, fun j r hj => ?_, fun j r hj => ?_⟩, ⟨hs.set (by show k.params.length ≤ _; omega) (by show k.body.length ≤ _; omega), by simp; omega, by omega⟩, by simp⟩
    · simp [hset, hr0, pRows_tr (n := .c (.s 3) 0 0) (m := root) (f := finf (Nm.under (.u 1 0 0)) [(.c (.s 3) 0 0, root)]) (p := p.set x { k with parent := v }) (by simp [hr0])]
    all_goals
      rw [List.getElem?_set] at hj
      by_cases e : x = j
      · subst e
        rw [if_pos rfl, if_pos hxl] at hj
        obtain rfl := Option.some.inj hj
        simp [ho2 x k hk, ho3 x k hk, hr0]
      · rw [if_neg e] at hj
        simp [ho2 j r hj, ho3 j r hj, hr0, e, show ¬ j = x from fun h => e h.symm]
  · skip
    have fx := And.intro h0 <| And.intro h13 <| And.intro h3 <| And.intro hp3 <| And.intro h4 <| And.intro ho1 <| And.intro hxl <| And.intro hk <| And.intro hkE <| hob
    refine k_run ?_
    repeat ((first | refine wSc (id := 7) qsRd0 mixed ?_ | refine wSc (id := 9) qsRd1 mixed ?_ | refine wSc (id := 11) qsRd2 mixed ?_ | refine wSc (id := 13) qsRd3 mixed ?_); refine k_rund ?_; refine k_run ?_)
    clear fx
    first | show SemOp _ _ _ _ _ | intro K hK
    refine x_one (oneOk _) 41 [-1, 12, 3] (bs := bs) (pos := q + 1 + 1) hb (by omega) (hV := hV) (h0 := by simp [h0]) (h1 := by simp) (hH := by simp [hU]) (hL := by simp [irows]) (h := ?_)
    intro v hv
    have hset := pRows_set (n := .c (.s 3) 0 0) (a := 46) (i := x) (len := k.body.length + 1) (p := p) (L := k.body ++ [⟨v, 0, x, 0⟩]) (by simp) (by simp) (by simp)
    have fx := And.intro h0 <| And.intro h13 <| And.intro h3 <| And.intro hp3 <| And.intro h4 <| And.intro ho1 <| And.intro hxl <| And.intro hk <| And.intro hkE <| And.intro hob <| And.intro hset <| And.intro h2 <| And.intro hp2 <| hp2'
    refine k_run ?_
    repeat ((first | refine wSc (id := 7) qsRd0 mixed ?_ | refine wSc (id := 9) qsRd1 mixed ?_ | refine wSc (id := 11) qsRd2 mixed ?_ | refine wSc (id := 13) qsRd3 mixed ?_); refine k_rund ?_; refine k_run ?_)
    clear fx
    refine e_ret [(.c (.s 3) 0 0, root)] (.one rfl) (by simp [h2]; rfl) ⟨setBody p x (k.body ++ [⟨v, 0, x, 0⟩]), q + 1 + 1 + 1, by simp, ⟨?_, fun j r hj => ?_, fun j r hj => ?_⟩, ⟨setBody_sml hs (by simp; omega), by simp; omega, by omega⟩, by simp⟩
    · simp [hset, hr0, pRows_tr (n := .c (.s 3) 0 0) (m := root) (f := finf (Nm.under (.u 1 0 0)) [(.c (.s 3) 0 0, root)]) (p := setBody p x (k.body ++ [⟨v, 0, x, 0⟩])) (by simp [hr0])]
    all_goals
      have hjl : j < p.length := by
        have := (gS hj).1
        rwa [setBody_len] at this
      obtain ⟨r0, hr0'⟩ : ∃ r0, p[j]? = some r0 := ⟨_, gE hjl⟩
      rw [setBody_get hr0'] at hj
      obtain rfl := Option.some.inj hj
      by_cases e : x = j
      · subst e
        rw [hk] at hr0'
        obtain rfl := Option.some.inj hr0'
        simp [ho2 x k hk, hob, hr0]
      · simp [ho2 j r0 hr0', ho3 j r0 hr0', hr0, e, show ¬ j = x from fun h => e h.symm]
  · skip
    have fx := And.intro h0 <| And.intro h13 <| And.intro h3 <| And.intro hp3 <| And.intro h4 <| And.intro ho1 <| And.intro hxl <| And.intro hk <| And.intro hkE <| hob
    refine k_run ?_
    repeat ((first | refine wSc (id := 7) qsRd0 mixed ?_ | refine wSc (id := 9) qsRd1 mixed ?_ | refine wSc (id := 11) qsRd2 mixed ?_ | refine wSc (id := 13) qsRd3 mixed ?_); refine k_rund ?_; refine k_run ?_)
    clear fx
    first | show SemOp _ _ _ _ _ | intro K hK
    refine x_one (oneOk _) 61 [8, -1] (bs := bs) (pos := q + 1 + 1) hb (by omega) (hV := hV) (h0 := by simp [h0]) (h1 := by simp) (hH := by simp [hU]) (hL := by simp [irows]) (h := ?_)
    intro v hv
    have hset := pRows_set (n := .c (.s 3) 0 0) (a := 65) (i := x) (len := k.body.length + 1) (p := p) (L := k.body ++ [⟨1, v, 0, 0⟩]) (by simp) (by simp) (by simp)
    have fx := And.intro h0 <| And.intro h13 <| And.intro h3 <| And.intro hp3 <| And.intro h4 <| And.intro ho1 <| And.intro hxl <| And.intro hk <| And.intro hkE <| And.intro hob <| And.intro hset <| And.intro h2 <| And.intro hp2 <| hp2'
    refine k_run ?_
    repeat ((first | refine wSc (id := 7) qsRd0 mixed ?_ | refine wSc (id := 9) qsRd1 mixed ?_ | refine wSc (id := 11) qsRd2 mixed ?_ | refine wSc (id := 13) qsRd3 mixed ?_); refine k_rund ?_; refine k_run ?_)
    clear fx
    refine e_ret [(.c (.s 3) 0 0, root)] (.one rfl) (by simp [h2]; rfl) ⟨setBody p x (k.body ++ [⟨1, v, 0, 0⟩]), q + 1 + 1 + 1, by simp, ⟨?_, fun j r hj => ?_, fun j r hj => ?_⟩, ⟨setBody_sml hs (by simp; omega), by simp; omega, by omega⟩, by simp⟩
    · simp [hset, hr0, pRows_tr (n := .c (.s 3) 0 0) (m := root) (f := finf (Nm.under (.u 1 0 0)) [(.c (.s 3) 0 0, root)]) (p := setBody p x (k.body ++ [⟨1, v, 0, 0⟩])) (by simp [hr0])]
    all_goals
      have hjl : j < p.length := by
        have := (gS hj).1
        rwa [setBody_len] at this
      obtain ⟨r0, hr0'⟩ : ∃ r0, p[j]? = some r0 := ⟨_, gE hjl⟩
      rw [setBody_get hr0'] at hj
      obtain rfl := Option.some.inj hj
      by_cases e : x = j
      · subst e
        rw [hk] at hr0'
        obtain rfl := Option.some.inj hr0'
        simp [ho2 x k hk, hob, hr0]
      · simp [ho2 j r0 hr0', ho3 j r0 hr0', hr0, e, show ¬ j = x from fun h => e h.symm]
  · skip
    have fx := And.intro h0 <| And.intro h13 <| And.intro h3 <| And.intro hp3 <| And.intro h4 <| And.intro ho1 <| And.intro hxl <| And.intro hk <| And.intro hkE <| hob
    refine k_run ?_
    repeat ((first | refine wSc (id := 7) qsRd0 mixed ?_ | refine wSc (id := 9) qsRd1 mixed ?_ | refine wSc (id := 11) qsRd2 mixed ?_ | refine wSc (id := 13) qsRd3 mixed ?_); refine k_rund ?_; refine k_run ?_)
    clear fx
    first | show SemOp _ _ _ _ _ | intro K hK
    refine x_one (oneOk _) 74 [8, 1] (bs := bs) (pos := q + 1 + 1) hb (by omega) (hV := hV) (h0 := by simp [h0]) (h1 := by simp) (hH := by simp [hU]) (hL := by simp [irows]) (h := ?_)
    intro v hv
    have hset := pRows_setParams (n := .c (.s 3) 0 0) (a := 76) (len := 2) (L := [v, 2]) hk rfl (by simp) (by simp)
    have fx := And.intro h0 <| And.intro h13 <| And.intro h3 <| And.intro hp3 <| And.intro h4 <| And.intro ho1 <| And.intro hxl <| And.intro hk <| And.intro hkE <| And.intro hob <| And.intro hset <| And.intro h2 <| And.intro hp2 <| hp2'
    refine k_run ?_
    repeat ((first | refine wSc (id := 7) qsRd0 mixed ?_ | refine wSc (id := 9) qsRd1 mixed ?_ | refine wSc (id := 11) qsRd2 mixed ?_ | refine wSc (id := 13) qsRd3 mixed ?_); refine k_rund ?_; refine k_run ?_)
    clear fx
    refine e_ret [(.c (.s 3) 0 0, root)] (.one rfl) (by simp [h2]; rfl) ⟨p.set x { k with params := [v, 2] }, q + 1 + 1 + 1, by simp, ⟨?_, fun j r hj => ?_, fun j r hj => ?_⟩, ⟨hs.set (by show ([v, 2] : List Int).length ≤ _; simp) (by show k.body.length ≤ _; omega), by simp; omega, by omega⟩, by simp⟩
    · simp [hset, hr0, pRows_tr (n := .c (.s 3) 0 0) (m := root) (f := finf (Nm.under (.u 1 0 0)) [(.c (.s 3) 0 0, root)]) (p := p.set x { k with params := [v, 2] }) (by simp [hr0])]
    all_goals
      rw [List.getElem?_set] at hj
      by_cases e : x = j
      · subst e
        rw [if_pos rfl, if_pos hxl] at hj
        obtain rfl := Option.some.inj hj
        simp [ho3 x k hk, irows, hr0]
      · rw [if_neg e] at hj
        simp [ho2 j r hj, ho3 j r hj, hr0, e, show ¬ j = x from fun h => e h.symm]
  · have hy0 : ¬ y = 0 := by omega
    have hy1 : ¬ y = 1 := by omega
    have hy2 : ¬ y = 2 := by omega
    have hy3 : ¬ y = 3 := by omega
    have hy4 : ¬ y = 4 := by omega
    have e0 : ((y : Int) == 0) = false := by rw [beq_eq_false_iff_ne]; omega
    have e1 : ((y : Int) == 1) = false := by rw [beq_eq_false_iff_ne]; omega
    have e2 : ((y : Int) == 2) = false := by rw [beq_eq_false_iff_ne]; omega
    have e3 : ((y : Int) == 3) = false := by rw [beq_eq_false_iff_ne]; omega
    have e4 : ((y : Int) == 4) = false := by rw [beq_eq_false_iff_ne]; omega
    have fx := And.intro h2 <| And.intro hp2 <| And.intro hp2' <| And.intro h3 <| And.intro hp3 <| And.intro h13 <| And.intro hy0 <| And.intro e1 <| And.intro e2 <| And.intro e3 <| e4
    refine k_run ?_
    repeat ((first | refine wSc (id := 7) qsRd0 mixed ?_ | refine wSc (id := 9) qsRd1 mixed ?_ | refine wSc (id := 11) qsRd2 mixed ?_ | refine wSc (id := 13) qsRd3 mixed ?_); refine k_rund ?_; refine k_run ?_)
    clear fx
    refine e_ret [(.c (.s 3) 0 0, root)] (.one rfl) (by simp [h2]; rfl) ⟨p, q + 1 + 1, by simp, ⟨?_, fun j r hj => ?_, fun j r hj => ?_⟩, ⟨hs, hgl, by omega⟩, by simp [hU]⟩
    · simp [ho1, hr0, pRows_tr (n := .c (.s 3) 0 0) (m := root) (f := finf (Nm.under (.u 1 0 0)) [(.c (.s 3) 0 0, root)]) (p := p) (by simp [hr0])]
    · simp [ho2 j r hj, hr0]
    · simp [ho3 j r hj, hr0]
end Go.Proofs.YtcbkblboonkfhaaGreat
end
section
namespace Go.Proofs.YtcbkblboonkfhaaGreat
open Go Go.Hm Go.Proofs
attribute [local simp] slcAV rowsIn
def BlkOfPost (bs : List Int) (m : Nat) : Nm → AV → (Nm → Option AO) → Prop := fun r z H' => ∃ (p : Prg) (b : Int) (pos' : Nat), z = .tup [.agg [.hs r 4 0 p.length], iv b] ∧ OwnP H' r p ∧ Sml p ∧ (1 ≤ p.length ∧ p.length ≤ 8) ∧ pos' ≤ m ∧ H' (.u 1 0 0) = some (rdO bs pos')
end Go.Proofs.YtcbkblboonkfhaaGreat
end
section
namespace Go.Proofs.YtcbkblboonkfhaaGreat
open Go Go.Hm Go.Proofs
attribute [local simp] slcAV rowsIn
theorem newReader_fn (gl) (code : List Int) (hc : code.length ≤ 1048576) : FnOk Tryz.prog gl 56 [bsl code] (fun r z H' => z = .pt r 0 ∧ H' r = some (rdO (code.take 2000) 0)) := by
  refine FnOk.of_sem Tryz.func56 rfl (by kernel_rfl) (rs := [.tmp 2]) rfl Tryz.ntmps56 (Nat.le_of_ble_eq_true rfl) fun C w g root => ?_
  by_cases hl : 2000 < code.length
  · have hl1 : (2000 : Int) < code.length := by omega
    have hl2 : (2000 : Int) ≤ code.length := by omega
    all_goals have fx := And.intro hl1 <| hl2
    repeat' (first
     | refine w_seq ?_ | refine w_reg fun K hK => ?_
     | ((with_reducible refine s_end hK ?_); clear hK K)
     | (with_reducible first | refine then_normal ?_)
     | refine w_ret ?_
     | (with_reducible first | refine s_none ?_ | refine x_assign (h := ?_) | refine x_box (h := ?_))
     | (with_reducible refine x_q (h := ?_))
     | refine x_condt (h1 := ?_)
     | fail)
    all_goals try clear fx
    refine e_ret [(.s 2, root)] (.one rfl) (by simp; rfl) ⟨by simp, by simp⟩
  · have ht : code.take 2000 = code := List.take_of_length_le (by omega)
    have hl1 : ¬ (2000 : Int) < code.length := by omega
    rw [ht]
    all_goals have fx :=  hl1
    repeat' (first
     | refine w_seq ?_ | refine w_skip ?_ | refine w_reg fun K hK => ?_
     | ((with_reducible refine s_end hK ?_); clear hK K)
     | (with_reducible first | refine then_normal ?_)
     | refine w_ret ?_
     | (with_reducible first | refine s_none ?_ | refine x_assign (h := ?_) | refine x_box (h := ?_))
     | (with_reducible refine x_q (h := ?_))
     | refine x_condf (h1 := ?_)
     | fail)
    all_goals try clear fx
    refine e_ret [(.s 2, root)] (.one rfl) (by simp; rfl) ⟨by simp, by simp⟩
structure CodeOk (code : List Int) : Prop where
  len : code.length ≤ 1048576
  rng : ∀ v ∈ code, 0 ≤ v ∧ v ≤ 255
theorem CodeOk.bytes {code : List Int} (h : CodeOk code) : BytesOk (code.take 2000) := ⟨by simp; omega, fun v hv => h.rng v (List.mem_of_mem_take hv)⟩
end Go.Proofs.YtcbkblboonkfhaaGreat
end
section
namespace Go.Proofs.YtcbkblboonkfhaaGreat
open Go Go.Hm Go.Proofs
attribute [local simp] slcAV rowsIn
theorem runOf_fn (gl) (H : Nm → Option AO) (bs : List Int) (pos : Nat) (hb : BytesOk bs) (hpos : pos ≤ 500000) (hH : H (.u 1 0 0) = some (rdO bs pos)) (hV : H (.u 2 0 0) = none) (hV4 : H (.u 4 0 0) = none) (hV5 : H (.u 5 0 0) = none) :
    FnE Tryz.prog gl 96 (Nm.under (.u 1 0 0)) [.pt (.u 1 0 0) 0] H (BlkOfPost bs (pos + 4000)) noE := by
  refine FnE.of_sem Tryz.func96 rfl (by kernel_rfl) (rs := [.cell 2 29, .tmp 3]) rfl Tryz.ntmps96 (Nat.le_of_ble_eq_true rfl) (fun _ => under_usroot rfl) fun C w g root hroot => ?_
  have hr0 := hroot root (Nm.under_self _)
  all_goals have fx := fx0
  repeat' (first
   | refine w_seq ?_ | refine w_reg fun K hK => ?_
   | ((with_reducible refine s_end hK ?_); clear hK K)
   | (with_reducible first | refine s_none ?_ | refine x_assign (h := ?_) | refine x_alloc (h := ?_))
   | (with_reducible refine x_q (h := ?_))
   | fail)
  all_goals try clear fx
  refine x_rdo (bs := bs) (hs := by simp [hH]) (ha := by first | (simp; done) | (simp; rfl)) (hF := anyProgram_fn _ _ bs pos hb (by omega) (by simp [hH]) (by simp) (by simp) (by simp)) (h := ?_)
  rintro z H1 ⟨p, q, rfl, ⟨ho1, ho2, ho3⟩, ⟨hs, hpl, hq⟩, hU⟩
  refine ⟨q, hU, ?_⟩
  all_goals have fx :=  ho1
  repeat' (first
   | (with_reducible first | refine s_none ?_)
   | (with_reducible refine x_q (h := ?_))
   | fail)
  all_goals try clear fx
  refine x_rd (hs := by simp) (ha := by first | (simp; done) | (simp; rfl)) (hF := pick_rd _ _ bs q 40 hb (by omega) (by omega) (by simp)) (h := ?_)
  rintro y py ⟨hy, rfl⟩
  all_goals have fx :=  ho1
  repeat' (first
   | (with_reducible first | refine s_none ?_ | refine x_build (h := ?_))
   | fail)
  all_goals try clear fx
  refine x_one (oneOk _) 9 [150, 150, (y : Int), 0, 20, 151, -1] (bs := bs) (pos := q + 1) hb (by omega) (hV := hV) (h0 := by simp) (h1 := by simp) (hH := by simp) (hL := by simp [irows]) (h := ?_)
  intro v hv
  all_goals have fx :=  ho1
  repeat' (first
   | ((with_reducible refine s_end hK ?_); clear hK K)
   | (with_reducible first | refine then_normal ?_)
   | refine w_ret ?_
   | (with_reducible first | refine s_none ?_ | refine x_assign (h := ?_) | refine x_store0 (h := ?_))
   | fail)
  all_goals try clear fx
  refine e_ret [(.c (.s 2) 0 0, root)] (.one rfl) (by simp; rfl) ⟨p, v, q + 1 + 1, by simp, ⟨?_, fun j r hj => ?_, fun j r hj => ?_⟩, hs, hpl, by omega, by simp⟩
  · simp [ho1, hr0, pRows_tr (n := .c (.s 2) 0 0) (m := root) (f := finf (Nm.under (.u 1 0 0)) [(.c (.s 2) 0 0, root)]) (p := p) (by simp [hr0])]
  · simp [ho2 j r hj, hr0]
  · simp [ho3 j r hj, hr0]
theorem DrawViewsByMeaning_fn (gl) (code : List Int) (hc : CodeOk code) : FnOk Tryz.prog gl 41 [bsl code] (fun r z H' => ∃ (p : Prg) (b : Int), z = .tup [.agg [.hs r 4 0 p.length], iv b] ∧ OwnP H' r p ∧ Sml p) := by
  have hb := hc.bytes
  refine FnOk.of_sem Tryz.func41 rfl (by kernel_rfl) (rs := [.cell 2 29, .tmp 3]) rfl Tryz.ntmps41 (Nat.le_of_ble_eq_true rfl) fun C w g root => ?_
  have fx := fx0
  refine k_run ?_
  clear fx
  intro K hK
  refine x_own (ha := by simp) (hF := newReader_fn _ code hc.len) (h := ?_)
  rintro z H1 ⟨rfl, hR⟩
  have fx :=  hR
  refine k_run ?_
  clear fx
  refine o_mv (.s 5) (.u 1 0 0) (.inl rfl) (.inr rfl) ?_
  refine x_rdo (bs := code.take 2000) (hs := by simp [hR]) (ha := by first | (simp; done) | (simp; rfl)) (hF := runOf_fn _ _ (code.take 2000) 0 hb (by omega) (by simp [hR]) (by simp) (by simp) (by simp)) (h := ?_)
  rintro z H2 ⟨p, b, q, rfl, ⟨ho1, ho2, ho3⟩, hs, hpl, hq, hU⟩
  refine ⟨q, hU, ?_⟩
  have fx :=  ho1
  refine k_run ?_
  clear fx
  refine e_ret [(.c (.s 2) 0 0, root)] (.one rfl) (by simp; rfl) ⟨p, b, by simp, ⟨?_, fun j r hj => ?_, fun j r hj => ?_⟩, hs⟩
  · simp [ho1, pRows_tr (n := .c (.s 2) 0 0) (m := root) (f := finf noD [(.c (.s 2) 0 0, root)]) (p := p) (by simp)]
  · simp [ho2 j r hj]
  · simp [ho3 j r hj]
end Go.Proofs.YtcbkblboonkfhaaGreat
end
section
namespace Go.Proofs.YtcbkblboonkfhaaGreat
open Go Go.Hm Go.Proofs
attribute [local simp] slcAV rowsIn
end Go.Proofs.YtcbkblboonkfhaaGreat
end
section
namespace Go.Proofs.YtcbkblboonkfhaaGreat
open Go Go.Hm Go.Proofs
abbrev qsWl0 : Sch := .q 0 <| .q 1 <| .q 2 <| .q 3 <| .q 4 <| .q 5 <| .q 6 <| .q 7 <| .q 8 <| .q 9 <| .q 10 <| .q 11 <| .q 12 <| .q 13 <| .q 14 <| .q 15 <| .q 16 <| .q 17 <| .q 18 <| .q 19 <| .q 20 <| .q 21 <| .q 22 <| .q 23 <| .q 24 <| .q 25 <| .q 26 <| .q 27 <| .q 28 <| .done
abbrev qsWl1 : Sch := .q 0 <| .q 1 <| .q 2 <| .q 3 <| .q 4 <| .q 5 <| .q 6 <| .q 7 <| .q 8 <| .q 9 <| .q 10 <| .q 11 <| .q 12 <| .q 13 <| .q 14 <| .q 15 <| .q 16 <| .q 17 <| .q 18 <| .q 19 <| .q 20 <| .q 21 <| .q 22 <| .q 23 <| .q 24 <| .q 25 <| .q 26 <| .q 27 <| .q 28 <| .q 29 <| .q 30 <| .q 31 <| .q 32 <| .q 33 <| .q 34 <| .q 35 <| .l 36 [34, 33, 32, 31, 29, 28, 27, 26, 25, 23, 22, 21, 20, 19, 18, 17, 16, 15, 14, 13, 12, 11, 10, 9, 8, 7, 6, 5, 4, 3, 2, 1, 0] <| .l 37 [34, 33, 32, 31, 28, 27, 26, 25, 23, 22, 21, 20, 19, 18, 17, 16, 15, 14, 13, 12, 11, 10, 9, 8, 7, 6, 5, 4, 3, 2, 1, 0] <| .q 38 <| .q 39 <| .q 40 <| .q 41 <| .q 42 <| .q 43 <| .q 44 <| .q 45 <| .l 46 [44, 43, 42, 41, 39, 38, 34, 33, 32, 31, 28, 27, 26, 25, 23, 22, 21, 20, 19, 18, 17, 16, 15, 14, 13, 12, 11, 10, 9, 8, 7, 6, 5, 4, 3, 2, 1, 0] <| .q 47 <| .q 48 <| .done
theorem FnViewsByMeaning_fn (gl : Nat → Option (List AV)) (code : List Int) (hcode : ∀ v ∈ code, 0 ≤ v ∧ v ≤ 255) (hbig : code.length ≤ 1152921504606846976) :
    FnOk Tryz.prog gl 9 [bsl code] (fun _ z _ => z = bv true) := by
  refine FnOk.of_sem Tryz.func9 rfl (by kernel_rfl) (rs := [.tmp 2]) rfl Tryz.ntmps9 (Nat.le_of_ble_eq_true rfl) fun C w g root => ?_
  by_cases hlen : 1048576 < code.length
  · have hl1 : (1048576 : Int) < code.length := by omega
    have fx :=  hl1
    refine k_run ?_
    repeat ((first | refine wSc (id := 12) qsWl0 mixed ?_ | refine wSc (id := 17) qsWl1 mixed ?_); refine k_rund ?_; refine k_run ?_)
    clear fx
    refine e_ret [] .nil (by simp; rfl) (by simp)
  have hl1 : ¬ (1048576 : Int) < code.length := by omega
  have hc : CodeOk code := ⟨by omega, hcode⟩
  have fx :=  hl1
  have e1 := DrawViewsByMeaning_fn gl code hc
  refine k_run ?_
  repeat ((first | refine wSc (id := 12) qsWl0 mixed ?_ | refine wSc (id := 17) qsWl1 mixed ?_); refine k_rund ?_; refine k_run ?_)
  clear fx e1
  rintro K hK z H1 ⟨p, f, rfl, hO, hs⟩
  obtain ⟨ho1, ho2, ho3⟩ := hO.hcln
  refine ⟨by simp, ?_⟩
  have hpl := hs.len
  have hia := impl_ViewsByMeaning_fn gl p f hs
  have hsa := spec_ViewsByMeaning_fn gl p f hs
  have hsm := viewsG_sm (f := f) hs
  have heq := equalViews_fn gl (viewsG p f) hsm
  have fx :=  ho1
  have e1 := hia
  refine k_run ?_
  repeat ((first | refine wSc (id := 12) qsWl0 mixed ?_ | refine wSc (id := 17) qsWl1 mixed ?_); refine k_rund ?_; refine k_run ?_)
  clear fx e1
  rintro K hK y H2 ⟨rfl, hR⟩
  obtain ⟨r1, r2⟩ := hR.hcln
  refine ⟨by simp, ?_⟩
  have fx := And.intro ho1 <| r1
  refine k_run ?_
  repeat ((first | refine wSc (id := 12) qsWl0 mixed ?_ | refine wSc (id := 17) qsWl1 mixed ?_); refine k_rund ?_; refine k_run ?_)
  clear fx
  intro K hK
  refine o_abs (fun st => BoxP st 3 p ∧ st.tm 4 = iv f ∧ st.tm 5 = .hs (.s 5) 3 0 (viewsG p f).length ∧ OwnVs st.hp (.s 5) (viewsG p f) ∧ st.tm 21 = .hs (.s 5) 3 0 (viewsG p f).length ∧ st.tm 22 = .agg [.hs (.c (.s 3) 0 0) 4 0 p.length] ∧ st.tm 23 = iv f)
    ⟨⟨by simp, by simp, ⟨by simp [ho1], fun j r hj => by simp [ho2 j r hj], fun j r hj => by simp [ho3 j r hj]⟩⟩, by simp, by simp, ⟨by simp [r1], fun q v hq => ⟨by simp [(r2 q v hq).names], by simp [(r2 q v hq).vals]⟩⟩, by simp, by simp, by simp⟩ ?_
  clear hO ho1 ho2 ho3 hR r1 r2
  rintro st ⟨⟨h3, hp3, ⟨a1, a2, a3⟩⟩, h4, h5, ⟨r1, r2⟩, h21, h22, h23⟩
  cases hv : fuelOk p f
  · have hG : viewsG p f = [] := by simp [viewsG, hv]
    rw [hG] at hsa heq h5 h21 r1 r2
    have fx := And.intro h3 <| And.intro hp3 <| And.intro h4 <| And.intro h5 <| And.intro h21 <| And.intro h22 <| And.intro h23 <| r1
    have e1 := hsa
    refine k_run ?_
    repeat ((first | refine wSc (id := 12) qsWl0 mixed ?_ | refine wSc (id := 17) qsWl1 mixed ?_); refine k_rund ?_; refine k_run ?_)
    clear fx e1
    rintro y H3 ⟨rfl, hR3⟩
    obtain ⟨s1, s2⟩ := hR3.hcln
    refine ⟨by simp, ?_⟩
    have fx := And.intro h3 <| And.intro hp3 <| And.intro h4 <| And.intro h5 <| And.intro h21 <| And.intro h22 <| h23
    refine k_run ?_
    repeat ((first | refine wSc (id := 12) qsWl0 mixed ?_ | refine wSc (id := 17) qsWl1 mixed ?_); refine k_rund ?_; refine k_run ?_)
    clear fx
    have fx := And.intro h21 h21
    refine kx_call (hB := .cons (bw_views (n := .s 5) (vs := []) ⟨by simp [r1], fun q v hq => by simp at hq⟩ rfl) (.cons (bw_views (n := .s 24) (vs := []) ⟨by simp [s1], fun q v hq => by simp at hq⟩ rfl) .nil)) (hF := heq) (h := ?_)
    clear fx
    have fx := And.intro h3 <| And.intro hp3 <| And.intro h4 <| And.intro h5 <| And.intro h21 <| And.intro h22 <| h23
    have e1 := hsa
    refine k_run ?_
    repeat ((first | refine wSc (id := 12) qsWl0 mixed ?_ | refine wSc (id := 17) qsWl1 mixed ?_); refine k_rund ?_; refine k_run ?_)
    clear fx e1
    rintro K hK y H4 ⟨rfl, hR4⟩
    obtain ⟨t1, t2⟩ := hR4.hcln
    refine ⟨by simp, ?_⟩
    have fx := And.intro h3 <| And.intro hp3 <| And.intro h4 <| h5
    refine k_run ?_
    repeat ((first | refine wSc (id := 12) qsWl0 mixed ?_ | refine wSc (id := 17) qsWl1 mixed ?_); refine k_rund ?_; refine k_run ?_)
    clear fx
    have fx := And.intro h5 h5
    refine kx_call (hB := .cons (bw_views (n := .s 5) (vs := []) ⟨by simp [r1], fun q v hq => by simp at hq⟩ rfl) (.cons (bw_views (n := .s 35) (vs := []) ⟨by simp [t1], fun q v hq => by simp at hq⟩ rfl) .nil)) (hF := heq) (h := ?_)
    clear fx
    have fx := And.intro h3 <| And.intro hp3 <| And.intro h4 <| h5
    refine k_run ?_
    repeat ((first | refine wSc (id := 12) qsWl0 mixed ?_ | refine wSc (id := 17) qsWl1 mixed ?_); refine k_rund ?_; refine k_run ?_)
    clear fx
    refine e_ret [] .nil (by simp; rfl) (by simp)
  obtain ⟨n, rfl, hn, hP, hm⟩ := fuel_run hs hv
  have hv0 : progOk p = true := (fuelOk_of hv).1
  have hG : viewsG p n = viewsV p (meantW p n) := by simp [viewsG, hv]
  have hG1 : resG p n = resW (meantW p n) := by simp [resG, hv]
  have hib := impl_RunMeaning_fn gl p n hs
  obtain ⟨hq1, hq2⟩ := resG_len (f := n) hs
  have hstk := meantW_stk hP (f := n) hn
  have hA := meantW_ok hP hn
  have hdone : (meantW p n).en = 0 → (viewsV p (meantW p n)).length = 1 := fun e => by
    rw [viewsV, List.length_map, hA.stk e]
    rfl
  have hgl8 := hm.ok.glob.1
  have hvl := hsm.len
  have hveach := hsm.each
  rw [hG] at hsa heq h5 h21 r1 r2 hvl hveach
  rw [hG1] at hib hq1 hq2
  generalize hW : meantW p n = W at *
  clear hG hG1 hia hsm hA
  obtain ⟨tl, htl⟩ := hstk.pre
  obtain ⟨R, hRV⟩ : ∃ R, viewsV p W = R := ⟨_, rfl⟩
  have hR0 : R[0]? = some (viewV p W 0) := by rw [← hRV, viewsV, List.getElem?_map, ← htl]; rfl
  rw [hRV] at hsa heq h5 h21 r1 r2 hvl hveach hdone
  have hRl : 0 < R.length := (gS hR0).1
  obtain ⟨_, hR0E⟩ := gS hR0
  have hl0 : ((R.length : Int) == 0) = false := by rw [beq_eq_false_iff_ne]; omega
  have fx := And.intro h3 <| And.intro hp3 <| And.intro h4 <| And.intro h5 <| And.intro h21 <| And.intro h22 <| And.intro h23 <| r1
  have e1 := hsa
  refine k_run ?_
  repeat ((first | refine wSc (id := 12) qsWl0 mixed ?_ | refine wSc (id := 17) qsWl1 mixed ?_); refine k_rund ?_; refine k_run ?_)
  clear fx e1
  rintro y H3 ⟨rfl, hR3⟩
  obtain ⟨s1, s2⟩ := hR3.hcln
  refine ⟨by simp, ?_⟩
  have fx := And.intro h3 <| And.intro hp3 <| And.intro h4 <| And.intro h5 <| And.intro h21 <| And.intro h22 <| h23
  refine k_run ?_
  repeat ((first | refine wSc (id := 12) qsWl0 mixed ?_ | refine wSc (id := 17) qsWl1 mixed ?_); refine k_rund ?_; refine k_run ?_)
  clear fx
  have fx := And.intro h21 h21
  refine kx_call (hB := .cons (bw_views (n := .s 5) (vs := R) ⟨by simp [r1], fun q v hq => ⟨by simp [(r2 q v hq).names], by simp [(r2 q v hq).vals]⟩⟩ rfl) (.cons (bw_views (n := .s 24) (vs := R) ⟨by simp [s1], fun q v hq => ⟨by simp [(s2 q v hq).names], by simp [(s2 q v hq).vals]⟩⟩ rfl) .nil)) (hF := heq) (h := ?_)
  clear fx
  have fx := And.intro h3 <| And.intro hp3 <| And.intro h4 <| And.intro h5 <| And.intro h21 <| And.intro h22 <| And.intro h23 <| hl0
  have e1 := hib
  refine k_run ?_
  repeat ((first | refine wSc (id := 12) qsWl0 mixed ?_ | refine wSc (id := 17) qsWl1 mixed ?_); refine k_rund ?_; refine k_run ?_)
  clear fx e1
  rintro K hK y H4 ⟨rfl, hR4⟩
  obtain ⟨t1, t2⟩ := hR4.hcln
  refine ⟨by simp, ?_⟩
  have fx := And.intro h3 <| And.intro hp3 <| And.intro h5 <| And.intro r1 <| And.intro t1 <| t2
  refine k_run ?_
  repeat ((first | refine wSc (id := 12) qsWl0 mixed ?_ | refine wSc (id := 17) qsWl1 mixed ?_); refine k_rund ?_; refine k_run ?_)
  clear fx
  refine w_loop (fun n0 st => ∃ x : Nat, n0 = 8 - x ∧ x ≤ 8 ∧ st.tm 7 = iv x ∧ st.tm 5 = .hs (.s 5) 3 0 R.length ∧ OwnVs st.hp (.s 5) R ∧ st.tm 6 = .pt (.s 6) 0 ∧ st.hp (.s 6) = some (.row 4 [(resW W).own (.s 39)]) ∧ OwnR st.hp (.s 39) (resW W) ∧ BoxP st 3 p) 8 ?_ ?_
  · exact ⟨0, by omega, by omega, by simp, by simp [h5], ⟨by simp [r1], fun q v hq => ⟨by simp [(r2 q v hq).names], by simp [(r2 q v hq).vals]⟩⟩, by simp, by simp, ⟨by simp [t1], by simp [t2]⟩, ⟨by simp [h3], by simp [hp3], ⟨by simp [a1], fun j r hj => by simp [a2 j r hj], fun j r hj => by simp [a3 j r hj]⟩⟩⟩
  clear h3 hp3 a1 a2 a3 h4 h5 h21 h22 h23 r1 r2 s1 s2 t1 t2 hR3 hR4 hsa heq hib
  rintro n0 st - - ⟨x, rfl, hx, h7, h5, ⟨r1, r2⟩, h6, hp6, ⟨t1, t2⟩, ⟨h3, hp3, ⟨a1, a2, a3⟩⟩⟩
  rw [Rsl.own_eq] at hp6
  by_cases hx8 : x < 8
  · have hx8' : (x : Int) ≤ 7 := by omega
    obtain ⟨o1, o2⟩ := r2 0 _ hR0
    have hvf := view_first (x := (x : Int)) hP hm.ok ⟨by omega, hx8'⟩
    obtain ⟨e1, e2⟩ := hveach _ (List.mem_of_getElem? hR0)
    have hpc := place_fn gl (viewV p W 0).names x (by omega)
    have hgx : (resW W).gl[x]? = some (match W.get none x with | some v => Hm.shown v | none => -9) := by
      obtain ⟨u, hu⟩ : ∃ u, W.globals[x]? = some u := ⟨_, gE (by omega)⟩
      have : W.get none x = u := by simp [Wld.get, Wld.vars, hu]
      rw [this]
      simp [resW, shownS, hu]
      cases u <;> rfl
    have hgl : x < (resW W).gl.length := (gS hgx).1
    obtain ⟨_, hgxE⟩ := gS hgx
    generalize hV0 : viewV p W 0 = V at *
    rcases hvf with ⟨g1, g2⟩ | ⟨u, j, g1, g2, g3⟩
    · rw [g1] at hgx hgxE
      rw [g2] at hpc
      simp only at hgx hgxE
      have fx := And.intro h7 <| And.intro h5 <| And.intro r1 <| And.intro h6 <| And.intro hp6 <| And.intro t1 <| And.intro t2 <| And.intro o1 <| And.intro o2 <| And.intro hx8' <| And.intro hR0 <| And.intro hR0E <| And.intro hRl <| And.intro hgx <| And.intro hgxE <| And.intro hgl <| @bne_def
      have c1 := hpc
      refine k_run ?_
      repeat ((first | refine wSc (id := 12) qsWl0 mixed ?_ | refine wSc (id := 17) qsWl1 mixed ?_); refine k_rund ?_; refine k_run ?_)
      clear fx c1
      exact ⟨8 - (x + 1), by omega, x + 1, rfl, by omega, by simp; exact wrp (by omega) (by omega), by simp [h5], ⟨by simp [r1], fun q v hq => ⟨by simp [(r2 q v hq).names], by simp [(r2 q v hq).vals]⟩⟩, by simp [h6], by simp [hp6], ⟨by simp [t1], by simp [t2]⟩, ⟨by simp [h3], by simp [hp3], ⟨by simp [a1], fun j r hj => by simp [a2 j r hj], fun j r hj => by simp [a3 j r hj]⟩⟩⟩
    · rw [g1] at hgx hgxE
      rw [g2] at hpc
      simp only at hgx hgxE
      obtain ⟨hjl, g3E⟩ := gS g3
      have hj0 : ¬ (j : Int) < 0 := by omega
      have hj1 : (0 : Int) ≤ j := by omega
      have fx := And.intro h7 <| And.intro h5 <| And.intro r1 <| And.intro h6 <| And.intro hp6 <| And.intro t1 <| And.intro t2 <| And.intro o1 <| And.intro o2 <| And.intro hx8' <| And.intro hR0 <| And.intro hR0E <| And.intro hRl <| And.intro hgx <| And.intro hgxE <| And.intro hgl <| And.intro g3 <| And.intro g3E <| And.intro hjl <| And.intro hj0 <| And.intro hj1 <| @bne_def
      have c1 := hpc
      refine k_run ?_
      repeat ((first | refine wSc (id := 12) qsWl0 mixed ?_ | refine wSc (id := 17) qsWl1 mixed ?_); refine k_rund ?_; refine k_run ?_)
      clear fx c1
      exact ⟨8 - (x + 1), by omega, x + 1, rfl, by omega, by simp; exact wrp (by omega) (by omega), by simp [h5], ⟨by simp [r1], fun q v hq => ⟨by simp [(r2 q v hq).names], by simp [(r2 q v hq).vals]⟩⟩, by simp [h6], by simp [hp6], ⟨by simp [t1], by simp [t2]⟩, ⟨by simp [h3], by simp [hp3], ⟨by simp [a1], fun j r hj => by simp [a2 j r hj], fun j r hj => by simp [a3 j r hj]⟩⟩⟩
  have hx8' : ¬ (x : Int) ≤ 7 := by omega
  have fx := And.intro h7 <| hx8'
  refine k_run ?_
  repeat ((first | refine wSc (id := 12) qsWl0 mixed ?_ | refine wSc (id := 17) qsWl1 mixed ?_); refine k_rund ?_; refine k_run ?_)
  clear fx
  refine w_loop (fun n0 st => ∃ i : Nat, n0 = R.length - i ∧ i ≤ R.length ∧ st.tm 9 = iv i ∧ st.tm 5 = .hs (.s 5) 3 0 R.length ∧ OwnVs st.hp (.s 5) R ∧ st.tm 6 = .pt (.s 6) 0 ∧ st.hp (.s 6) = some (.row 4 [(resW W).own (.s 39)]) ∧ BoxP st 3 p) R.length ?_ ?_
  · exact ⟨0, by omega, by omega, by simp, by simp [h5], ⟨by simp [r1], fun q v hq => ⟨by simp [(r2 q v hq).names], by simp [(r2 q v hq).vals]⟩⟩, by simp [h6], by simp [hp6, t1, t2], ⟨by simp [h3], by simp [hp3], ⟨by simp [a1], fun j r hj => by simp [a2 j r hj], fun j r hj => by simp [a3 j r hj]⟩⟩⟩
  clear h3 hp3 a1 a2 a3 h5 h6 h7 hp6 r1 r2 t1 t2 hx8' hx
  rintro n0 st - - ⟨i, rfl, hi, h9, h5, ⟨r1, r2⟩, h6, hp6, ⟨h3, hp3, ⟨a1, a2, a3⟩⟩⟩
  rw [Rsl.own_eq] at hp6
  by_cases hil : i < R.length
  · obtain ⟨v, hvi⟩ : ∃ v, R[i]? = some v := ⟨_, gE hil⟩
    obtain ⟨_, hviE⟩ := gS hvi
    obtain ⟨a, hva, hal, hbz, _, hvb, hbl⟩ := views_at hP hm.ok hstk (by rw [hRV]; exact hvi)
    obtain ⟨o1, o2⟩ := r2 i _ hvi
    obtain ⟨e1, e2⟩ := hveach _ (List.mem_of_getElem? hvi)
    have hnl : v.names.length = v.vals.length := by rw [hva]; exact view_len
    have hasc : v.names.Pairwise (· < ·) := by rw [hva]; exact view_asc
    have hwin : ∀ x ∈ v.names, x ∈ seenL p (W.blk a) := by rw [hva]; exact view_in
    clear hva
    obtain ⟨b, hb⟩ : ∃ b, W.blk a = b := ⟨_, rfl⟩
    rw [hb] at hvb hbl hwin
    obtain ⟨k, hk⟩ : ∃ k, p[b]? = some k := ⟨_, gE hbl⟩
    have hse := SeenIn_fn gl p b k hk hs hv0
    have hsl := seenL_len (p := p) (b := b)
    have hwi := within_fn gl v.names (seenL p b) (by omega) (by omega) hwin
    have has := ascends_fn gl v.names (by omega) hasc
    obtain ⟨vb, vn, vv⟩ := v
    simp only at hvb hbz hnl hwi has o1 o2 e1 e2
    subst hvb
    have hll : ((vn.length : Int) == (vv.length : Int)) = true := by simp [hnl]
    rcases Nat.eq_zero_or_pos i with ei | ei
    · have hb1 : ((b : Int) == 0) = true := by simpa using hbz.2 ei
      have hi1 : ((i : Int) == 0) = true := by simp [ei]
      have fx := And.intro h9 <| And.intro h5 <| And.intro r1 <| And.intro h3 <| And.intro hp3 <| And.intro a1 <| And.intro o1 <| And.intro o2 <| And.intro hil <| And.intro hvi <| And.intro hviE <| And.intro hll <| And.intro hb1 <| And.intro hi1 <| @bne_def
      have d1 := hse
      have c1 := hwi
      have c2 := has
      refine k_run ?_
      repeat ((first | refine wSc (id := 12) qsWl0 mixed ?_ | refine wSc (id := 17) qsWl1 mixed ?_); refine k_rund ?_; refine k_run ?_)
      clear fx d1 c1 c2
      exact ⟨R.length - (i + 1), by omega, i + 1, rfl, by omega, by simp; exact wrp (by omega) (by omega), by simp [h5], ⟨by simp [r1], fun q v hq => ⟨by simp [(r2 q v hq).names], by simp [(r2 q v hq).vals]⟩⟩, by simp [h6], by simp [hp6], ⟨by simp [h3], by simp [hp3], ⟨by simp [a1], fun j r hj => by simp [a2 j r hj], fun j r hj => by simp [a3 j r hj]⟩⟩⟩
    · have hb1 : ((b : Int) == 0) = false := by rw [beq_eq_false_iff_ne]; intro e; have := hbz.1 e; omega
      have hi1 : ((i : Int) == 0) = false := by rw [beq_eq_false_iff_ne]; omega
      have fx := And.intro h9 <| And.intro h5 <| And.intro r1 <| And.intro h3 <| And.intro hp3 <| And.intro a1 <| And.intro o1 <| And.intro o2 <| And.intro hil <| And.intro hvi <| And.intro hviE <| And.intro hll <| And.intro hb1 <| And.intro hi1 <| @bne_def
      have d1 := hse
      have c1 := hwi
      have c2 := has
      refine k_run ?_
      repeat ((first | refine wSc (id := 12) qsWl0 mixed ?_ | refine wSc (id := 17) qsWl1 mixed ?_); refine k_rund ?_; refine k_run ?_)
      clear fx d1 c1 c2
      exact ⟨R.length - (i + 1), by omega, i + 1, rfl, by omega, by simp; exact wrp (by omega) (by omega), by simp [h5], ⟨by simp [r1], fun q v hq => ⟨by simp [(r2 q v hq).names], by simp [(r2 q v hq).vals]⟩⟩, by simp [h6], by simp [hp6], ⟨by simp [h3], by simp [hp3], ⟨by simp [a1], fun j r hj => by simp [a2 j r hj], fun j r hj => by simp [a3 j r hj]⟩⟩⟩
  · have hen : (resW W).en = W.en := rfl
    by_cases he : W.en = 0
    · have he1 : ((resW W).en == 0) = true := by simp [hen, he]
      have hl1' : ((R.length : Int) == 1) = true := by simp [hdone he]
      have fx := And.intro h9 <| And.intro h5 <| And.intro h6 <| And.intro hp6 <| And.intro hil <| And.intro he1 <| And.intro hl1' <| @bne_def
      refine k_run ?_
      repeat ((first | refine wSc (id := 12) qsWl0 mixed ?_ | refine wSc (id := 17) qsWl1 mixed ?_); refine k_rund ?_; refine k_run ?_)
      clear fx
      refine e_ret [] .nil (by simp; rfl) (by simp)
    · have he1 : ((resW W).en == 0) = false := by rw [beq_eq_false_iff_ne]; exact he
      have fx := And.intro h9 <| And.intro h5 <| And.intro h6 <| And.intro hp6 <| And.intro hil <| And.intro he1 <| @bne_def
      refine k_run ?_
      repeat ((first | refine wSc (id := 12) qsWl0 mixed ?_ | refine wSc (id := 17) qsWl1 mixed ?_); refine k_rund ?_; refine k_run ?_)
      clear fx
      refine e_ret [] .nil (by simp; rfl) (by simp)
theorem pf_laid : laidOutB Tryz.prog = true := by kernel_rfl
theorem pf_maps : mapsRowed Tryz.prog = true := by kernel_rfl
theorem pf_stops : (Tryz.prog.stops == []) = true := by kernel_rfl
theorem pf_knobs : (Tryz.prog.stopKnobs == []) = true := by kernel_rfl
theorem pf_keys : Tryz.prog.plainKeys = true := by kernel_rfl
theorem pf_heard : Tryz.prog.stopsHeard = true := by kernel_rfl
theorem pf_may : Tryz.prog.mayEnter = true := by kernel_rfl
theorem pf_lifts : Tryz.prog.liftsFinal = false := by kernel_rfl
theorem pf_make : (Tryz.prog.make == some .cut) = true := by kernel_rfl
theorem progFacts : ProgFacts Tryz.prog := ⟨pf_laid, pf_maps, pf_stops, pf_knobs, pf_keys, pf_heard, pf_may, pf_lifts, pf_make⟩
end Go.Proofs.YtcbkblboonkfhaaGreat
end
