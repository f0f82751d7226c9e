/-
  Own texts, joined by mkclaim.py: Rd, Re, Rf, Ur, Uf, Ub, Ux, Jz.
-/
import Derived.Test.YtmaoicgfcngciaaGreatDoorY24
import Derived.Test.YtmaoicgfcngciaaGreatDoorY10
import Derived.Test.YtmaoicgfcngciaaGreatDoorY11
import Derived.Test.YtmaoicgfcngciaaGreatDoorY21
import Derived.Test.YtmaoicgfcngciaaGreatDoorY22
import Derived.Test.YtmaoicgfcngciaaGreatDoorY19
import Derived.Test.YtmaoicgfcngciaaGreatDoorY12
import Derived.Test.YtmaoicgfcngciaaGreatDoorProg
import Derived.Test.YtmaoicgfcngciaaGreatDoorChecked
import Derived.KernelRfl
set_option linter.unusedSimpArgs false
set_option linter.unusedVariables false
set_option maxRecDepth 100000
set_option maxHeartbeats 4000000

section
namespace Go.Proofs.YtmaoicgfcngciaaGreatDoor
open Go Go.Hm Go.Proofs
abbrev qsRd0 : Sch := .q 0 <| .q 1 <| .q 2 <| .q 3 <| .q 4 <| .l 5 [3, 2, 1, 0] <| .l 6 [2, 1, 0] <| .q 7 <| .q 8 <| .l 9 [7] <| .done
abbrev qsRd1 : Sch := .q 0 <| .q 1 <| .q 2 <| .q 3 <| .q 4 <| .q 5 <| .q 6 <| .q 7 <| .q 8 <| .q 9 <| .q 12 <| .l 10 [12, 9, 8, 7, 6, 5, 4, 3, 2, 1, 0] <| .l 11 [12, 8, 7, 6, 5, 4, 3, 2, 1, 0] <| .q 13 <| .l 14 [12, 8, 7, 6, 5, 4, 3, 2, 1, 0] <| .l 15 [12, 7, 6, 5, 4, 3, 2, 1, 0] <| .q 16 <| .q 17 <| .l 18 [16] <| .done
abbrev qsRd2 : Sch := .q 0 <| .q 1 <| .q 2 <| .q 3 <| .q 4 <| .q 5 <| .q 6 <| .q 7 <| .q 8 <| .q 9 <| .l 10 [9, 8, 7, 6, 5, 4, 3, 2, 1, 0] <| .l 11 [8, 7, 6, 5, 4, 3, 2, 1, 0] <| .q 12 <| .l 13 [8, 7, 6, 5, 4, 3, 2, 1, 0] <| .l 14 [7, 6, 5, 4, 3, 2, 1, 0] <| .q 15 <| .q 16 <| .l 17 [15] <| .done
abbrev qsRd3 : Sch := .q 0 <| .q 1 <| .q 2 <| .q 3 <| .l 4 [3, 2, 1, 0] <| .l 5 [2, 1, 0] <| .l 6 [2, 1, 0] <| .q 7 <| .q 8 <| .l 9 [7] <| .done
theorem anyProgram_fn (gl) (H : Nm → Option AO) (bs : List Int) (pos : Nat) (hb : BytesOk bs) (hpos : pos ≤ 600000) (hH : H (.u 1 0 0) = some (rdO bs pos)) (hV : H (.u 2 0 0) = none) (hV4 : H (.u 4 0 0) = none) (hV5 : H (.u 5 0 0) = none) :
    FnE Tryz.prog gl 49 (Nm.under (.u 1 0 0)) [.pt (.u 1 0 0) 0] H (PrgPost bs (fun p pos' => Sml p ∧ (1 ≤ p.length ∧ p.length ≤ 8) ∧ pos' ≤ pos + 3000)) noE := by
  refine FnE.of_sem Tryz.func49 rfl (by kernel_rfl) (rs := [.cell 2 24]) rfl Tryz.ntmps49 (Nat.le_of_ble_eq_true rfl) (fun _ => under_usroot rfl) fun C w g root hroot => ?_
  have hr0 := hroot root (Nm.under_self _)
  have fx := fx0
  refine k_run ?_
  repeat ((first | refine wSc (id := 7) qsRd0 mixed ?_ | refine wSc (id := 9) qsRd1 mixed ?_ | refine wSc (id := 11) qsRd2 mixed ?_ | refine wSc (id := 13) qsRd3 mixed ?_); refine k_rund ?_; refine k_run ?_)
  clear fx
  first | show SemOp _ _ _ _ _ | intro K hK
  refine x_rdo (bs := bs) (hs := by simp [hH]) (ha := by first | (simp; done) | (simp; rfl)) (hF := goodProgram_fn _ _ bs pos hb (by omega) (by simp [hH]) (by simp) (by simp) (by simp)) (h := ?_)
  rintro z H1 ⟨p, q, rfl, ⟨ho1, ho2, ho3⟩, ⟨hg, hq⟩, hU⟩
  refine ⟨q, hU, ?_⟩
  have hgl := hg.len
  have hs := hg.sml
  have fx :=  ho1
  refine k_run ?_
  repeat ((first | refine wSc (id := 7) qsRd0 mixed ?_ | refine wSc (id := 9) qsRd1 mixed ?_ | refine wSc (id := 11) qsRd2 mixed ?_ | refine wSc (id := 13) qsRd3 mixed ?_); refine k_rund ?_; refine k_run ?_)
  clear fx
  first | show SemOp _ _ _ _ _ | intro K hK
  refine x_rd (hs := by simp) (ha := by first | (simp; done) | (simp; rfl)) (hF := pick_rd _ _ bs q p.length hb (by omega) (by omega) (by simp)) (h := ?_)
  rintro x px ⟨hx, rfl⟩
  have hxl : x < p.length := by omega
  have fx := fx0
  refine k_run ?_
  repeat ((first | refine wSc (id := 7) qsRd0 mixed ?_ | refine wSc (id := 9) qsRd1 mixed ?_ | refine wSc (id := 11) qsRd2 mixed ?_ | refine wSc (id := 13) qsRd3 mixed ?_); refine k_rund ?_; refine k_run ?_)
  clear fx
  first | show SemOp _ _ _ _ _ | intro K hK
  refine x_rd (hs := by simp) (ha := by first | (simp; done) | (simp; rfl)) (hF := pick_rd _ _ bs (q + 1) 24 hb (by omega) (by omega) (by simp)) (h := ?_)
  rintro y py ⟨hy, rfl⟩
  have hy24 : y < 24 := by omega
  refine s_abs (fun st => st.tm 0 = .pt (.u 1 0 0) 0 ∧ st.hp (.u 1 0 0) = some (rdO bs (q + 1 + 1)) ∧ st.tm 2 = .pt (.s 2) 0 ∧ st.hp (.s 2) = some (.row 1 [[.hs (.c (.s 2) 0 0) 4 0 0]]) ∧ st.hp (.c (.s 2) 0 0) = some (.row 4 []) ∧ st.tm 3 = .pt (.s 3) 0 ∧ st.hp (.s 3) = some (.row 1 [[.hs (.c (.s 3) 0 0) 4 0 p.length]]) ∧ OwnP st.hp (.c (.s 3) 0 0) p ∧ st.tm 4 = iv x ∧ st.tm 13 = iv y)
    ⟨by simp, by simp, by simp, by simp, by simp, by simp, by simp, ⟨by simp [ho1], fun j r hj => by simp [ho2 j r hj], fun j r hj => by simp [ho3 j r hj]⟩, by simp, by simp⟩ ?_
  clear ho1 ho2 ho3 hU
  rintro st ⟨h0, hU, h2, hp2, hp2', h3, hp3, ⟨ho1, ho2, ho3⟩, h4, h13⟩
  obtain ⟨k, hk⟩ : ∃ k, p[x]? = some k := ⟨_, gE hxl⟩
  obtain ⟨_, hkE⟩ := gS hk
  have hkp := hg.params k (List.mem_of_getElem? hk)
  have hkb := hg.body k (List.mem_of_getElem? hk)
  have hob := ho3 x k hk
  have hyc : y = 0 ∨ y = 1 ∨ y = 2 ∨ y = 3 ∨ y = 4 ∨ 5 ≤ y := by omega
  clear hy hx
  rcases hyc with rfl | rfl | rfl | rfl | rfl | hy5
  · skip
    have fx := And.intro h0 <| h13
    refine k_run ?_
    repeat ((first | refine wSc (id := 7) qsRd0 mixed ?_ | refine wSc (id := 9) qsRd1 mixed ?_ | refine wSc (id := 11) qsRd2 mixed ?_ | refine wSc (id := 13) qsRd3 mixed ?_); refine k_rund ?_; refine k_run ?_)
    clear fx
    first | show SemOp _ _ _ _ _ | intro K hK
    refine x_rdo (bs := bs) (hs := by simp [hU]) (ha := by first | (simp [h0]; done) | (simp [h0]; rfl)) (hF := shapedProgram_fn _ _ bs (q + 1 + 1) hb (by omega) (by simp [hU]) (by simp) (by simp) (by simp)) (h := ?_)
    rintro z H2 ⟨p2, q2, rfl, ⟨hc1, hc2, hc3⟩, ⟨hg2, hq2⟩, hU2⟩
    refine ⟨q2, hU2, ?_⟩
    have fx := And.intro h2 <| And.intro hp2 <| And.intro hp2' <| hc1
    refine k_run ?_
    repeat ((first | refine wSc (id := 7) qsRd0 mixed ?_ | refine wSc (id := 9) qsRd1 mixed ?_ | refine wSc (id := 11) qsRd2 mixed ?_ | refine wSc (id := 13) qsRd3 mixed ?_); refine k_rund ?_; refine k_run ?_)
    clear fx
    refine e_ret [(.c (.s 2) 0 0, root)] (.one rfl) (by simp [h2]; rfl) ⟨p2, q2, by simp, ⟨?_, fun j r hj => ?_, fun j r hj => ?_⟩, ⟨hg2.sml, hg2.len, by omega⟩, by simp⟩
    · simp [hc1, hr0, pRows_tr (n := .c (.s 2) 0 0) (m := root) (f := finf (Nm.under (.u 1 0 0)) [(.c (.s 2) 0 0, root)]) (p := p2) (by simp [hr0])]
    · simp [hc2 j r hj, hr0]
    · simp [hc3 j r hj, hr0]
  · skip
    have fx := And.intro h0 <| And.intro h13 <| And.intro h3 <| And.intro hp3 <| And.intro h4 <| And.intro ho1 <| And.intro hxl <| And.intro hk <| And.intro hkE <| hob
    refine k_run ?_
    repeat ((first | refine wSc (id := 7) qsRd0 mixed ?_ | refine wSc (id := 9) qsRd1 mixed ?_ | refine wSc (id := 11) qsRd2 mixed ?_ | refine wSc (id := 13) qsRd3 mixed ?_); refine k_rund ?_; refine k_run ?_)
    clear fx
    first | show SemOp _ _ _ _ _ | intro K hK
    refine x_one (oneOk _) 25 [-2, (x : Int), 7] (bs := bs) (pos := q + 1 + 1) hb (by omega) (hV := hV) (h0 := by simp [h0]) (h1 := by simp) (hH := by simp [hU]) (hL := by simp [irows]) (h := ?_)
    intro v hv
    have hset := pRows_setPar (n := .c (.s 3) 0 0) (v := v) hk
    have fx := And.intro h0 <| And.intro h13 <| And.intro h3 <| And.intro hp3 <| And.intro h4 <| And.intro ho1 <| And.intro hxl <| And.intro hk <| And.intro hkE <| And.intro hob <| And.intro hset <| And.intro h2 <| And.intro hp2 <| hp2'
    refine k_run ?_
    repeat ((first | refine wSc (id := 7) qsRd0 mixed ?_ | refine wSc (id := 9) qsRd1 mixed ?_ | refine wSc (id := 11) qsRd2 mixed ?_ | refine wSc (id := 13) qsRd3 mixed ?_); refine k_rund ?_; refine k_run ?_)
    clear fx
    refine e_ret [(.c (.s 3) 0 0, root)] (.one rfl) (by simp [h2]; rfl) ⟨p.set x { k with parent := v }, q + 1 + 1 + 1, by simp, ⟨?_, fun j r hj => ?_, fun j r hj => ?_⟩, ⟨hs.set (by show k.params.length ≤ _; omega) (by show k.body.length ≤ _; omega), by simp; omega, by omega⟩, by simp⟩
    · simp [hset, hr0, pRows_tr (n := .c (.s 3) 0 0) (m := root) (f := finf (Nm.under (.u 1 0 0)) [(.c (.s 3) 0 0, root)]) (p := p.set x { k with parent := v }) (by simp [hr0])]
    all_goals
      rw [List.getElem?_set] at hj
      by_cases e : x = j
      · subst e
        rw [if_pos rfl, if_pos hxl] at hj
        obtain rfl := Option.some.inj hj
        simp [ho2 x k hk, ho3 x k hk, hr0]
      · rw [if_neg e] at hj
        simp [ho2 j r hj, ho3 j r hj, hr0, e, show ¬ j = x from fun h => e h.symm]
  · skip
    have fx := And.intro h0 <| And.intro h13 <| And.intro h3 <| And.intro hp3 <| And.intro h4 <| And.intro ho1 <| And.intro hxl <| And.intro hk <| And.intro hkE <| hob
    refine k_run ?_
    repeat ((first | refine wSc (id := 7) qsRd0 mixed ?_ | refine wSc (id := 9) qsRd1 mixed ?_ | refine wSc (id := 11) qsRd2 mixed ?_ | refine wSc (id := 13) qsRd3 mixed ?_); refine k_rund ?_; refine k_run ?_)
    clear fx
    first | show SemOp _ _ _ _ _ | intro K hK
    refine x_one (oneOk _) 41 [-1, 12, 3] (bs := bs) (pos := q + 1 + 1) hb (by omega) (hV := hV) (h0 := by simp [h0]) (h1 := by simp) (hH := by simp [hU]) (hL := by simp [irows]) (h := ?_)
    intro v hv
    have hset := pRows_set (n := .c (.s 3) 0 0) (a := 46) (i := x) (len := k.body.length + 1) (p := p) (L := k.body ++ [⟨v, 0, x, 0⟩]) (by simp) (by simp) (by simp)
    have fx := And.intro h0 <| And.intro h13 <| And.intro h3 <| And.intro hp3 <| And.intro h4 <| And.intro ho1 <| And.intro hxl <| And.intro hk <| And.intro hkE <| And.intro hob <| And.intro hset <| And.intro h2 <| And.intro hp2 <| hp2'
    refine k_run ?_
    repeat ((first | refine wSc (id := 7) qsRd0 mixed ?_ | refine wSc (id := 9) qsRd1 mixed ?_ | refine wSc (id := 11) qsRd2 mixed ?_ | refine wSc (id := 13) qsRd3 mixed ?_); refine k_rund ?_; refine k_run ?_)
    clear fx
    refine e_ret [(.c (.s 3) 0 0, root)] (.one rfl) (by simp [h2]; rfl) ⟨setBody p x (k.body ++ [⟨v, 0, x, 0⟩]), q + 1 + 1 + 1, by simp, ⟨?_, fun j r hj => ?_, fun j r hj => ?_⟩, ⟨setBody_sml hs (by simp; omega), by simp; omega, by omega⟩, by simp⟩
    · simp [hset, hr0, pRows_tr (n := .c (.s 3) 0 0) (m := root) (f := finf (Nm.under (.u 1 0 0)) [(.c (.s 3) 0 0, root)]) (p := setBody p x (k.body ++ [⟨v, 0, x, 0⟩])) (by simp [hr0])]
    all_goals
      have hjl : j < p.length := by
        have := (gS hj).1
        rwa [setBody_len] at this
      obtain ⟨r0, hr0'⟩ : ∃ r0, p[j]? = some r0 := ⟨_, gE hjl⟩
      rw [setBody_get hr0'] at hj
      obtain rfl := Option.some.inj hj
      by_cases e : x = j
      · subst e
        rw [hk] at hr0'
        obtain rfl := Option.some.inj hr0'
        simp [ho2 x k hk, hob, hr0]
      · simp [ho2 j r0 hr0', ho3 j r0 hr0', hr0, e, show ¬ j = x from fun h => e h.symm]
  · skip
    have fx := And.intro h0 <| And.intro h13 <| And.intro h3 <| And.intro hp3 <| And.intro h4 <| And.intro ho1 <| And.intro hxl <| And.intro hk <| And.intro hkE <| hob
    refine k_run ?_
    repeat ((first | refine wSc (id := 7) qsRd0 mixed ?_ | refine wSc (id := 9) qsRd1 mixed ?_ | refine wSc (id := 11) qsRd2 mixed ?_ | refine wSc (id := 13) qsRd3 mixed ?_); refine k_rund ?_; refine k_run ?_)
    clear fx
    first | show SemOp _ _ _ _ _ | intro K hK
    refine x_one (oneOk _) 61 [8, -1] (bs := bs) (pos := q + 1 + 1) hb (by omega) (hV := hV) (h0 := by simp [h0]) (h1 := by simp) (hH := by simp [hU]) (hL := by simp [irows]) (h := ?_)
    intro v hv
    have hset := pRows_set (n := .c (.s 3) 0 0) (a := 65) (i := x) (len := k.body.length + 1) (p := p) (L := k.body ++ [⟨1, v, 0, 0⟩]) (by simp) (by simp) (by simp)
    have fx := And.intro h0 <| And.intro h13 <| And.intro h3 <| And.intro hp3 <| And.intro h4 <| And.intro ho1 <| And.intro hxl <| And.intro hk <| And.intro hkE <| And.intro hob <| And.intro hset <| And.intro h2 <| And.intro hp2 <| hp2'
    refine k_run ?_
    repeat ((first | refine wSc (id := 7) qsRd0 mixed ?_ | refine wSc (id := 9) qsRd1 mixed ?_ | refine wSc (id := 11) qsRd2 mixed ?_ | refine wSc (id := 13) qsRd3 mixed ?_); refine k_rund ?_; refine k_run ?_)
    clear fx
    refine e_ret [(.c (.s 3) 0 0, root)] (.one rfl) (by simp [h2]; rfl) ⟨setBody p x (k.body ++ [⟨1, v, 0, 0⟩]), q + 1 + 1 + 1, by simp, ⟨?_, fun j r hj => ?_, fun j r hj => ?_⟩, ⟨setBody_sml hs (by simp; omega), by simp; omega, by omega⟩, by simp⟩
    · simp [hset, hr0, pRows_tr (n := .c (.s 3) 0 0) (m := root) (f := finf (Nm.under (.u 1 0 0)) [(.c (.s 3) 0 0, root)]) (p := setBody p x (k.body ++ [⟨1, v, 0, 0⟩])) (by simp [hr0])]
    all_goals
      have hjl : j < p.length := by
        have := (gS hj).1
        rwa [setBody_len] at this
      obtain ⟨r0, hr0'⟩ : ∃ r0, p[j]? = some r0 := ⟨_, gE hjl⟩
      rw [setBody_get hr0'] at hj
      obtain rfl := Option.some.inj hj
      by_cases e : x = j
      · subst e
        rw [hk] at hr0'
        obtain rfl := Option.some.inj hr0'
        simp [ho2 x k hk, hob, hr0]
      · simp [ho2 j r0 hr0', ho3 j r0 hr0', hr0, e, show ¬ j = x from fun h => e h.symm]
  · skip
    have fx := And.intro h0 <| And.intro h13 <| And.intro h3 <| And.intro hp3 <| And.intro h4 <| And.intro ho1 <| And.intro hxl <| And.intro hk <| And.intro hkE <| hob
    refine k_run ?_
    repeat ((first | refine wSc (id := 7) qsRd0 mixed ?_ | refine wSc (id := 9) qsRd1 mixed ?_ | refine wSc (id := 11) qsRd2 mixed ?_ | refine wSc (id := 13) qsRd3 mixed ?_); refine k_rund ?_; refine k_run ?_)
    clear fx
    first | show SemOp _ _ _ _ _ | intro K hK
    refine x_one (oneOk _) 74 [8, 1] (bs := bs) (pos := q + 1 + 1) hb (by omega) (hV := hV) (h0 := by simp [h0]) (h1 := by simp) (hH := by simp [hU]) (hL := by simp [irows]) (h := ?_)
    intro v hv
    have hset := pRows_setParams (n := .c (.s 3) 0 0) (a := 76) (len := 2) (L := [v, 2]) hk rfl (by simp) (by simp)
    have fx := And.intro h0 <| And.intro h13 <| And.intro h3 <| And.intro hp3 <| And.intro h4 <| And.intro ho1 <| And.intro hxl <| And.intro hk <| And.intro hkE <| And.intro hob <| And.intro hset <| And.intro h2 <| And.intro hp2 <| hp2'
    refine k_run ?_
    repeat ((first | refine wSc (id := 7) qsRd0 mixed ?_ | refine wSc (id := 9) qsRd1 mixed ?_ | refine wSc (id := 11) qsRd2 mixed ?_ | refine wSc (id := 13) qsRd3 mixed ?_); refine k_rund ?_; refine k_run ?_)
    clear fx
    refine e_ret [(.c (.s 3) 0 0, root)] (.one rfl) (by simp [h2]; rfl) ⟨p.set x { k with params := [v, 2] }, q + 1 + 1 + 1, by simp, ⟨?_, fun j r hj => ?_, fun j r hj => ?_⟩, ⟨hs.set (by show ([v, 2] : List Int).length ≤ _; simp) (by show k.body.length ≤ _; omega), by simp; omega, by omega⟩, by simp⟩
    · simp [hset, hr0, pRows_tr (n := .c (.s 3) 0 0) (m := root) (f := finf (Nm.under (.u 1 0 0)) [(.c (.s 3) 0 0, root)]) (p := p.set x { k with params := [v, 2] }) (by simp [hr0])]
    all_goals
      rw [List.getElem?_set] at hj
      by_cases e : x = j
      · subst e
        rw [if_pos rfl, if_pos hxl] at hj
        obtain rfl := Option.some.inj hj
        simp [ho3 x k hk, irows, hr0]
      · rw [if_neg e] at hj
        simp [ho2 j r hj, ho3 j r hj, hr0, e, show ¬ j = x from fun h => e h.symm]
  · have hy0 : ¬ y = 0 := by omega
    have hy1 : ¬ y = 1 := by omega
    have hy2 : ¬ y = 2 := by omega
    have hy3 : ¬ y = 3 := by omega
    have hy4 : ¬ y = 4 := by omega
    have e0 : ((y : Int) == 0) = false := by rw [beq_eq_false_iff_ne]; omega
    have e1 : ((y : Int) == 1) = false := by rw [beq_eq_false_iff_ne]; omega
    have e2 : ((y : Int) == 2) = false := by rw [beq_eq_false_iff_ne]; omega
    have e3 : ((y : Int) == 3) = false := by rw [beq_eq_false_iff_ne]; omega
    have e4 : ((y : Int) == 4) = false := by rw [beq_eq_false_iff_ne]; omega
    have fx := And.intro h2 <| And.intro hp2 <| And.intro hp2' <| And.intro h3 <| And.intro hp3 <| And.intro h13 <| And.intro hy0 <| And.intro e1 <| And.intro e2 <| And.intro e3 <| e4
    refine k_run ?_
    repeat ((first | refine wSc (id := 7) qsRd0 mixed ?_ | refine wSc (id := 9) qsRd1 mixed ?_ | refine wSc (id := 11) qsRd2 mixed ?_ | refine wSc (id := 13) qsRd3 mixed ?_); refine k_rund ?_; refine k_run ?_)
    clear fx
    refine e_ret [(.c (.s 3) 0 0, root)] (.one rfl) (by simp [h2]; rfl) ⟨p, q + 1 + 1, by simp, ⟨?_, fun j r hj => ?_, fun j r hj => ?_⟩, ⟨hs, hgl, by omega⟩, by simp [hU]⟩
    · simp [ho1, hr0, pRows_tr (n := .c (.s 3) 0 0) (m := root) (f := finf (Nm.under (.u 1 0 0)) [(.c (.s 3) 0 0, root)]) (p := p) (by simp [hr0])]
    · simp [ho2 j r hj, hr0]
    · simp [ho3 j r hj, hr0]
end Go.Proofs.YtmaoicgfcngciaaGreatDoor
end
section
namespace Go.Proofs.YtmaoicgfcngciaaGreatDoor
open Go Go.Hm Go.Proofs
attribute [local simp] slcAV rowsIn
end Go.Proofs.YtmaoicgfcngciaaGreatDoor
end
section
namespace Go.Proofs.YtmaoicgfcngciaaGreatDoor
open Go Go.Hm Go.Proofs
attribute [local simp] slcAV rowsIn
theorem newReader_fn (gl) (code : List Int) (hc : code.length ≤ 1048576) : FnOk Tryz.prog gl 50 [bsl code] (fun r z H' => z = .pt r 0 ∧ H' r = some (rdO (code.take 2000) 0)) := by
  refine FnOk.of_sem Tryz.func50 rfl (by kernel_rfl) (rs := [.tmp 2]) rfl Tryz.ntmps50 (Nat.le_of_ble_eq_true rfl) fun C w g root => ?_
  by_cases hl : 2000 < code.length
  · have hl1 : (2000 : Int) < code.length := by omega
    have hl2 : (2000 : Int) ≤ code.length := by omega
    all_goals have fx := And.intro hl1 <| hl2
    repeat' (first
     | refine w_seq ?_ | refine w_reg fun K hK => ?_
     | ((with_reducible refine s_end hK ?_); clear hK K)
     | (with_reducible first | refine then_normal ?_)
     | refine w_ret ?_
     | (with_reducible first | refine s_none ?_ | refine x_assign (h := ?_) | refine x_box (h := ?_))
     | (with_reducible refine x_q (h := ?_))
     | refine x_condt (h1 := ?_)
     | fail)
    all_goals try clear fx
    refine e_ret [(.s 2, root)] (.one rfl) (by simp; rfl) ⟨by simp, by simp⟩
  · have ht : code.take 2000 = code := List.take_of_length_le (by omega)
    have hl1 : ¬ (2000 : Int) < code.length := by omega
    rw [ht]
    all_goals have fx :=  hl1
    repeat' (first
     | refine w_seq ?_ | refine w_skip ?_ | refine w_reg fun K hK => ?_
     | ((with_reducible refine s_end hK ?_); clear hK K)
     | (with_reducible first | refine then_normal ?_)
     | refine w_ret ?_
     | (with_reducible first | refine s_none ?_ | refine x_assign (h := ?_) | refine x_box (h := ?_))
     | (with_reducible refine x_q (h := ?_))
     | refine x_condf (h1 := ?_)
     | fail)
    all_goals try clear fx
    refine e_ret [(.s 2, root)] (.one rfl) (by simp; rfl) ⟨by simp, by simp⟩
structure CodeOk (code : List Int) : Prop where
  len : code.length ≤ 1048576
  rng : ∀ v ∈ code, 0 ≤ v ∧ v ≤ 255
theorem CodeOk.bytes {code : List Int} (h : CodeOk code) : BytesOk (code.take 2000) := ⟨by simp; omega, fun v hv => h.rng v (List.mem_of_mem_take hv)⟩
end Go.Proofs.YtmaoicgfcngciaaGreatDoor
end
section
namespace Go.Proofs.YtmaoicgfcngciaaGreatDoor
open Go Go.Hm Go.Proofs
theorem count_take {v : Txt} {i : Nat} {c a : UInt8} (h : v[i]? = some c) : (v.take (i + 1)).count a = (v.take i).count a + if c = a then 1 else 0 := by
  rw [List.take_add_one, h, List.count_append]
  by_cases e : c = a
  · simp [e]
  · simp [e]
theorem newlines_fn (gl) (v : Txt) (hv : v.length ≤ 1048577) : FnOk Tryz.prog gl 23 [tx v] (fun _ y _ => y = iv (v.count 10)) := by
  refine FnOk.of_sem Tryz.func23 rfl (by kernel_rfl) (rs := [.tmp 2]) rfl Tryz.ntmps23 (Nat.le_of_ble_eq_true rfl) fun C w g root => ?_
  have fx := fx0
  refine k_run ?_
  clear fx
  refine w_loop (fun n st => ∃ i : Nat, n = v.length - i ∧ i ≤ v.length ∧ st.tm 0 = tx v ∧ st.tm 4 = iv i ∧ st.tm 3 = iv ((v.take i).count 10)) v.length ⟨0, by simp⟩ ?_
  rintro n st - - ⟨i, rfl, hi, h0, h4, h3⟩
  by_cases hil : i < v.length
  · obtain ⟨c, hc⟩ : ∃ c, v[i]? = some c := ⟨_, gE hil⟩
    obtain ⟨_, hcE⟩ := gS hc
    have hct := count_take (a := 10) hc
    have hcl : (v.take i).count 10 ≤ i := Nat.le_trans List.count_le_length (by rw [List.length_take]; omega)
    generalize (v.take i).count 10 = k at h3 hct hcl
    have hw1 : IntKind.i64.wrap ((i : Int) + 1) = (i : Int) + 1 := wrp (by omega) (by omega)
    have hw2 : IntKind.i64.wrap ((k : Int) + 1) = (k : Int) + 1 := wrp (by omega) (by omega)
    by_cases he : c = 10
    · subst he
      have fx := And.intro h0 <| And.intro h4 <| And.intro h3 <| And.intro hil <| And.intro hc <| And.intro hcE <| And.intro hw1 <| hw2
      refine k_run ?_
      clear fx
      exact ⟨v.length - (i + 1), by omega, i + 1, rfl, by omega, by simp [h0], by simp [hw1], by simp [hct, hw2]⟩
    · have hn : ¬ c.toNat = 10 := fun e => he (UInt8.toNat_inj.1 e)
      have hb : ((c.toNat : Int) == 10) = false := by simp; omega
      have fx := And.intro h0 <| And.intro h4 <| And.intro h3 <| And.intro hil <| And.intro hc <| And.intro hcE <| And.intro hw1 <| And.intro hw2 <| And.intro hn <| hb
      refine k_run ?_
      clear fx
      exact ⟨v.length - (i + 1), by omega, i + 1, rfl, by omega, by simp [h0], by simp [hw1], by simp [hct, he, h3]⟩
  · have hge : i = v.length := by omega
    rw [hge, List.take_length] at h3
    have fx := And.intro h0 <| And.intro h4 <| And.intro h3 <| hil
    refine k_run ?_
    clear fx
    refine e_ret [] .nil (by simp [h3]; rfl) (by simp)
abbrev qsUf0 : Sch := .q 0 <| .q 1 <| .q 2 <| .q 3 <| .q 4 <| .l 5 [3, 2, 1, 0] <| .l 6 [2, 1, 0] <| .l 7 [2, 1, 0] <| .done
theorem impl_FormatProgram_fn (gl) (hgl : gl 1 = some ((vtx stmtW).map AV.sc)) (p : Prg) (hs : Sml p) (hv : progOk p = true → TxtB p) : FnOk Tryz.prog gl 19 [pav p] (fun _ y _ => y = tx (if progOk p = true then fmt p else [])) := by
  refine FnOk.of_sem Tryz.func19 rfl (by kernel_rfl) (rs := [.tmp 2]) rfl Tryz.ntmps19 (Nat.le_of_ble_eq_true rfl) fun C w g root => ?_
  cases h : progOk p
  · skip
    have fx :=  h
    have c1 := impl_ValidProgram_fn gl p hs
    refine k_run ?_
    repeat ((first | refine wSc (id := 12) qsUf0 mixed ?_); refine k_rund ?_; refine k_run ?_)
    clear fx c1
    refine e_ret [] .nil (by simp; rfl) (by simp)
  have hp := hv h
  have hl7 := hp.len
  rw [if_pos rfl]
  have fx :=  h
  have c1 := impl_ValidProgram_fn gl p hs
  have b1 := bld_zv
  refine k_runp ?_
  repeat ((first | refine wSc (id := 12) qsUf0 mixed ?_); refine k_rundp ?_; refine k_runp ?_)
  clear fx c1 b1
  refine w_loop (fun n st => ∃ b : Nat, n = p.length - b ∧ b ≤ p.length ∧ st.tm 3 = .pt (.s 3) 0 ∧ st.tm 12 = ksl p ∧ st.tm 13 = iv p.length ∧ st.tm 14 = iv b ∧ BldAt st.hp (.s 3) 73 5 (linesL 10 (fmtTo p b))) p.length ?_ ?_
  · exact ⟨0, by omega, by omega, by simp, by simp, by simp, by simp, .inl ⟨by simp [fmtTo_zero, linesL], by simp⟩⟩
  rintro n st - - ⟨b, rfl, hb, h3, h12, h13, h14, hB⟩
  by_cases hbl : b < p.length
  · obtain ⟨k, hk⟩ : ∃ k, p[b]? = some k := ⟨_, gE hbl⟩
    obtain ⟨_, hkE⟩ := gS hk
    have hkm := List.mem_of_getElem? hk
    have hbody := hp.body k hkm
    have hL0 := fmt_len0 hp hb
    have hb0 : b = 0 ∨ 0 < b := by omega
    rcases hb0 with hb0 | hb0
    case' inl =>
      have hbi : ¬ 0 < b := by omega
      have hbt : blkTo b k 0 = [] := by simp [blkTo, hb0]
      have fx := And.intro h3 <| And.intro h12 <| And.intro h13 <| And.intro h14 <| And.intro hbl <| And.intro hk <| And.intro hkE <| hbi
      refine k_run ?_
      repeat ((first | refine wSc (id := 12) qsUf0 mixed ?_); refine k_rund ?_; refine k_run ?_)
      clear fx
      refine w_abs (fun st => st.tm 3 = .pt (.s 3) 0 ∧ st.tm 12 = ksl p ∧ st.tm 13 = iv p.length ∧ st.tm 14 = iv b ∧ st.tm 25 = ssl k.body ∧ st.tm 26 = iv k.body.length ∧ st.tm 27 = iv (0 : Nat) ∧ BldAt st.hp (.s 3) 73 5 (linesL 10 (fmtTo p b ++ blkTo b k 0))) ⟨by simp [h3], by simp [h12], by simp [h13], by simp [h14], by simp, by simp, by simp, ?_⟩ ?_
      · rw [hbt, List.append_nil]
        exact hB.go (by intro e; simp [e]) (by intro e; simp [e]) (by intro e; simp [e])
    case' inr =>
      have hhd := hp.txt.heads b k hk hb0
      have hhl := showH_len hhd (hp.par k hkm)
      have hbt : blkTo b k 0 = [showH k] := by
        have : ¬ b = 0 := by omega
        simp [blkTo, this]
      have fx := And.intro h3 <| And.intro h12 <| And.intro h13 <| And.intro h14 <| And.intro hbl <| And.intro hk <| And.intro hkE <| hb0
      have c1 := headLine_fn gl k hhd (hp.par k hkm)
      refine k_run ?_
      repeat ((first | refine wSc (id := 12) qsUf0 mixed ?_); refine k_rund ?_; refine k_run ?_)
      clear fx c1
      intro K hK
      have fx := And.intro h3 h3
      refine x_wstr 3 lay166 layB rfl rfl (hB.go (by intro e; simp [e]) (by intro e; simp [e]) (by intro e; simp [e])) (hs := by simp) (hlen := by simp; omega) (h := ?_)
      clear fx
      rintro st' - hg htm hhp f1 f2
      have g3 : st'.tm 3 = .pt (.s 3) 0 := by simp [htm, h3]
      have g5 : st'.tm 5 = .pt (.s 5) 0 := by simp [htm]
      have gp5 : st'.hp (.s 5) = some (.row 4 [k.cells]) := by simp [hhp]
      have g12 := htm 12
      have g13 := htm 13
      have g14 := htm 14
      simp [h12, h13, h14] at g12 g13 g14
      have hB' : BldAt st'.hp (.s 3) 73 5 (linesL 10 (fmtTo p b ++ blkTo b k 0)) := by
        rw [hbt, linesL_snoc]
        exact .inr ⟨by simp, by simpa using f1, f2⟩
      clear htm hhp f1 f2
      have fx := And.intro g3 <| And.intro g5 <| And.intro gp5 <| And.intro g12 <| And.intro g13 <| g14
      refine k_run ?_
      repeat ((first | refine wSc (id := 12) qsUf0 mixed ?_); refine k_rund ?_; refine k_run ?_)
      clear fx
      refine w_abs (fun st => st.tm 3 = .pt (.s 3) 0 ∧ st.tm 12 = ksl p ∧ st.tm 13 = iv p.length ∧ st.tm 14 = iv b ∧ st.tm 25 = ssl k.body ∧ st.tm 26 = iv k.body.length ∧ st.tm 27 = iv (0 : Nat) ∧ BldAt st.hp (.s 3) 73 5 (linesL 10 (fmtTo p b ++ blkTo b k 0))) ⟨by simp [g3], by simp [g12], by simp [g13], by simp [g14], by simp, by simp, by simp, ?_⟩ ?_
      · exact hB'.go (by intro e; simp [e]) (by intro e; simp [e]) (by intro e; simp [e])
    all_goals
      clear h3 h12 h13 h14 hB
      rintro st ⟨h3, h12, h13, h14, h25, h26, h27, hB⟩
      refine w_loop (fun n st => ∃ i : Nat, n = k.body.length - i ∧ i ≤ k.body.length ∧ st.tm 3 = .pt (.s 3) 0 ∧ st.tm 12 = ksl p ∧ st.tm 13 = iv p.length ∧ st.tm 14 = iv b ∧ st.tm 25 = ssl k.body ∧ st.tm 26 = iv k.body.length ∧ st.tm 27 = iv i ∧ BldAt st.hp (.s 3) 73 5 (linesL 10 (fmtTo p b ++ blkTo b k i))) k.body.length ?_ ?_
      · exact ⟨0, by omega, by omega, h3, h12, h13, h14, h25, h26, h27, hB⟩
      clear h3 h12 h13 h14 h25 h26 h27 hB
      rintro n st - hgs ⟨i, rfl, hi, h3, h12, h13, h14, h25, h26, h27, hB⟩
      replace hgs : st.gl = gl := hgs
      by_cases hil : i < k.body.length
      · obtain ⟨s, hs'⟩ : ∃ s, k.body[i]? = some s := ⟨_, gE hil⟩
        obtain ⟨_, hsE⟩ := gS hs'
        have hst := hp.txt.stms k hkm s (List.mem_of_getElem? hs')
        have hsl := showS_len hst
        have hL3 := fmt_len (i := i) hp hk
        have hnext : linesL 10 (fmtTo p b ++ blkTo b k (i + 1)) = linesL 10 (fmtTo p b ++ blkTo b k i) ++ (showS s ++ [10]) := by
          rw [blkTo_succ hs', ← List.append_assoc, linesL_snoc]
        rw [show showS s = wordsL (stmtW.getD s.kind.toNat []) (numsOf s) from rfl] at hnext hsl
        have hnum := hst.nums
        have hkd := hst.kind
        have hn3 := numsOf_len (s := s)
        have hnf := stmtNumbers_fn gl s
        generalize numsOf s = ns at hnum hn3 hnf hnext hsl
        obtain ⟨kd, to, a, b'⟩ := s
        simp only at hkd
        obtain ⟨J, rfl⟩ : ∃ J : Nat, kd = J := ⟨kd.toNat, by omega⟩
        have hK12 : J < 12 := by omega
        have hKl : J < stmtW.length := hK12
        have hKi : (J : Int) < 12 := by omega
        obtain ⟨v, hw⟩ : ∃ v, stmtW[J]? = some v := ⟨_, gE hKl⟩
        obtain ⟨_, hwE⟩ := gS hw
        have hwg : stmtW.getD ((J : Int)).toNat [] = v := by simp [List.getD_eq_getElem?_getD, hw]
        have hwl := stmtW_len J hK12
        rw [show stmtW.getD J [] = v by simp [List.getD_eq_getElem?_getD, hw]] at hwl
        simp only [hwg] at hnext hsl
        have hq := lineOfWords_fn gl v ns (isl ns) (.inl rfl) (fun e => by rw [e] at hwl; simp at hwl) (by omega) hnum (by omega)
        have fx := And.intro h3 <| And.intro h12 <| And.intro h13 <| And.intro h14 <| And.intro h25 <| And.intro h26 <| And.intro h27 <| And.intro hil <| And.intro hs' <| And.intro hsE <| And.intro hgs <| And.intro hgl <| And.intro hw <| And.intro hwE <| And.intro hKl <| And.intro hKi <| hn3
        have d1 := hnf
        have c1 := hq
        refine k_run ?_
        repeat ((first | refine wSc (id := 12) qsUf0 mixed ?_); refine k_rund ?_; refine k_run ?_)
        clear fx d1 c1
        intro K hK
        have fx := And.intro h3 h3
        refine x_wstr 3 lay166 layB rfl rfl (hB.go (by intro e; simp [e]) (by intro e; simp [e]) (by intro e; simp [e])) (hs := by simp) (hlen := by simp; omega) (h := ?_)
        clear fx
        rintro st' - hg htm hhp f1 f2
        have g3 : st'.tm 3 = .pt (.s 3) 0 := by simp [htm, h3]
        have g12 := htm 12
        have g13 := htm 13
        have g14 := htm 14
        have g25 := htm 25
        have g26 := htm 26
        have g27 := htm 27
        have g7 : st'.tm 7 = .pt (.s 7) 0 := by simp [htm]
        have gp7 : st'.hp (.s 7) = some (.row 4 [[iv J, iv to, iv a, iv b']]) := by simp [hhp]
        have g31 := htm 31
        have g32 := htm 32
        have g33 := htm 33
        simp [h12, h13, h14, h25, h26, h27] at g12 g13 g14 g25 g26 g27 g31 g32 g33
        replace hg : st'.gl = gl := by simpa [hgs] using hg
        clear htm hhp
        have fx := And.intro g3 <| And.intro g12 <| And.intro g13 <| And.intro g14 <| And.intro g25 <| And.intro g26 <| And.intro g27 <| And.intro g7 <| And.intro gp7 <| And.intro g31 <| And.intro g32 <| And.intro g33 <| And.intro hg <| And.intro hgl <| And.intro hw <| And.intro hwE <| And.intro hKl <| hKi
        refine k_run ?_
        repeat ((first | refine wSc (id := 12) qsUf0 mixed ?_); refine k_rund ?_; refine k_run ?_)
        clear fx
        refine ⟨k.body.length - (i + 1), by omega, i + 1, rfl, by omega, by simp [g3], by simp [g12], by simp [g13], by simp [g14], by simp [g25], by simp [g26], by simp; exact wrp (by omega) (by omega), ?_⟩
        rw [hnext]
        exact .inr ⟨by simp, by simpa using f1, by simpa using f2⟩
      · obtain rfl : i = k.body.length := by omega
        rw [blkTo_all, ← fmtTo_succ hk] at hB
        have fx := And.intro h3 <| And.intro h12 <| And.intro h13 <| And.intro h14 <| And.intro h25 <| And.intro h26 <| And.intro h27 <| hil
        refine k_run ?_
        repeat ((first | refine wSc (id := 12) qsUf0 mixed ?_); refine k_rund ?_; refine k_run ?_)
        clear fx
        refine ⟨p.length - (b + 1), by omega, b + 1, rfl, by omega, by simp [h3], by simp [h12], by simp [h13], by simp; exact wrp (by omega) (by omega), hB.go (by intro e; simp [e]) (by intro e; simp [e]) (by intro e; simp [e])⟩
  · obtain rfl : b = p.length := by omega
    rw [fmtTo_all] at hB
    have fx := And.intro h3 <| And.intro h12 <| And.intro h13 <| And.intro h14 <| hbl
    refine k_run ?_
    repeat ((first | refine wSc (id := 12) qsUf0 mixed ?_); refine k_rund ?_; refine k_run ?_)
    clear fx
    intro K hK
    have fx := And.intro h3 h3
    refine x_str (l := linesL 10 (fmtLines p)) 3 lay169 layB rfl rfl (hB.go (by intro e; simp [e]) (by intro e; simp [e]) (by intro e; simp [e])) (h := ?_)
    clear fx
    have fx := fx0
    refine k_run ?_
    repeat ((first | refine wSc (id := 12) qsUf0 mixed ?_); refine k_rund ?_; refine k_run ?_)
    clear fx
    refine e_ret [] .nil (by simp; rfl) (by simp [fmt])
end Go.Proofs.YtmaoicgfcngciaaGreatDoor
end
section
namespace Go.Proofs.YtmaoicgfcngciaaGreatDoor
open Go Go.Hm Go.Proofs
theorem spec_FormatProgram_fn (gl) (p : Prg) (hs : Sml p) (hv : progOk p = true → TxtB p) : FnOk Tryz.prog gl 20 [pav p] (fun _ y _ => y = tx (if progOk p = true then fmt p else [])) := by
  refine FnOk.of_sem Tryz.func20 rfl (by kernel_rfl) (rs := [.tmp 2]) rfl Tryz.ntmps20 (Nat.le_of_ble_eq_true rfl) fun C w g root => ?_
  cases h : progOk p
  · skip
    have fx :=  h
    have c1 := validProgram_fn gl p hs
    refine k_run ?_
    clear fx c1
    refine e_ret [] .nil (by simp; rfl) (by simp)
  · skip
    have fx :=  h
    have c1 := validProgram_fn gl p hs
    have c2 := format_fn gl p (hv h)
    refine k_run ?_
    clear fx c1 c2
    refine e_ret [] .nil (by simp; rfl) (by simp)
theorem DrawFormatProgram_fn (gl) (code : List Int) (hc : CodeOk code) : FnOk Tryz.prog gl 18 [bsl code] (fun r z H' => ∃ (p : Prg), z = .agg [.hs r 4 0 p.length] ∧ OwnP H' r p ∧ Sml p ∧ 1 ≤ p.length) := by
  have hb := hc.bytes
  refine FnOk.of_sem Tryz.func18 rfl (by kernel_rfl) (rs := [.cell 2 24]) rfl Tryz.ntmps18 (Nat.le_of_ble_eq_true rfl) fun C w g root => ?_
  have fx := fx0
  refine k_run ?_
  clear fx
  intro K hK
  refine x_own (ha := by simp) (hF := newReader_fn _ code hc.len) (h := ?_)
  rintro z H1 ⟨rfl, hR⟩
  have fx :=  hR
  refine k_run ?_
  clear fx
  refine o_mv (.s 4) (.u 1 0 0) (.inl rfl) (.inr rfl) ?_
  refine x_rdo (bs := code.take 2000) (hs := by simp [hR]) (ha := by first | (simp; done) | (simp; rfl)) (hF := anyProgram_fn _ _ (code.take 2000) 0 hb (by omega) (by simp [hR]) (by simp) (by simp) (by simp)) (h := ?_)
  rintro z H2 ⟨p, q, rfl, ⟨ho1, ho2, ho3⟩, ⟨hs, hpl, hq⟩, hU⟩
  refine ⟨q, hU, ?_⟩
  have fx :=  ho1
  refine k_run ?_
  clear fx
  refine e_ret [(.c (.s 2) 0 0, root)] (.one rfl) (by simp; rfl) ⟨p, by simp, ⟨?_, fun j r hj => ?_, fun j r hj => ?_⟩, hs, hpl.1⟩
  · simp [ho1, pRows_tr (n := .c (.s 2) 0 0) (m := root) (f := finf noD [(.c (.s 2) 0 0, root)]) (p := p) (by simp)]
  · simp [ho2 j r hj]
  · simp [ho3 j r hj]
def bods (p : Prg) (i : Nat) : Nat := ((p.take i).map fun k => k.body.length).sum
theorem bods_succ {p : Prg} {i : Nat} {k : Blk} (hk : p[i]? = some k) : bods p (i + 1) = bods p i + k.body.length := by
  unfold bods
  rw [List.take_add_one, hk]
  simp
theorem bods_le {p : Prg} {c : Nat} (h : ∀ k ∈ p, k.body.length ≤ c) : ∀ i, i ≤ p.length → bods p i ≤ c * i
  | 0, _ => by simp [bods]
  | i + 1, hi => by
    obtain ⟨k, hk⟩ : ∃ k, p[i]? = some k := ⟨_, gE (by omega)⟩
    have h1 := bods_le h i (by omega)
    have h2 := h k (List.mem_of_getElem? hk)
    rw [bods_succ hk, Nat.mul_succ]
    omega
theorem fmtTo_num {p : Prg} : ∀ b, b ≤ p.length → (fmtTo p b).length + (if b = 0 then 0 else 1) = b + bods p b
  | 0, _ => by simp [fmtTo_zero, bods]
  | b + 1, hb => by
    obtain ⟨k, hk⟩ : ∃ k, p[b]? = some k := ⟨_, gE (by omega)⟩
    have h1 := fmtTo_num (p := p) b (by omega)
    rw [fmtTo_succ hk, bods_succ hk, List.length_append]
    by_cases e : b = 0
    · subst e
      simp [blkLines, bods, fmtTo_zero]
      omega
    · simp only [blkLines, if_neg e, if_neg (show ¬ b + 1 = 0 by omega), List.length_append, List.length_map, List.length_singleton] at h1 ⊢
      omega
theorem fmt_num {p : Prg} (h1 : 1 ≤ p.length) : (fmtLines p).length = p.length - 1 + bods p p.length := by
  have := fmtTo_num (p := p) p.length (Nat.le_refl _)
  rw [fmtTo_all, if_neg (show ¬ p.length = 0 by omega)] at this
  omega
theorem fmt_few {p : Prg} (hB : TxtB p) (hb : ∀ k ∈ p, k.body.length ≤ 12) (h1 : 1 ≤ p.length) : (fmt p).length ≤ 1048576 := by
  have hn := fmt_num h1
  have hbd := bods_le hb p.length (Nat.le_refl _)
  have hl := hB.len
  obtain ⟨h2, _⟩ := fmtTo_small hB p.length (Nat.le_refl _)
  rw [fmtTo_all] at h2
  unfold fmt
  refine Nat.le_trans (linesL_len h2) ?_
  omega
theorem FnFormatProgram_fn (gl : Nat → Option (List AV)) {m : Int} (hgm : gl 5 = some [.sc (.int .i64 m)]) (hgl : gl 1 = some ((vtx stmtW).map AV.sc)) (code : List Int) (hcode : ∀ v ∈ code, 0 ≤ v ∧ v ≤ 255) (hbig : code.length ≤ 1152921504606846976) :
    FnOk Tryz.prog gl 5 [bsl code] (fun _ z _ => z = bv true) := by
  refine FnOk.of_sem Tryz.func5 rfl (by kernel_rfl) (rs := [.tmp 2]) rfl Tryz.ntmps5 (Nat.le_of_ble_eq_true rfl) fun C w g root => ?_
  by_cases hlen : 1048576 < code.length
  · have hl1 : (1048576 : Int) < code.length := by omega
    have fx :=  hl1
    refine k_run ?_
    clear fx
    refine e_ret [] .nil (by simp; rfl) (by simp)
  have hl1 : ¬ (1048576 : Int) < code.length := by omega
  have hc : CodeOk code := ⟨by omega, hcode⟩
  have fx :=  hl1
  have e1 := DrawFormatProgram_fn gl code hc
  refine k_run ?_
  clear fx e1
  rintro K hK z H1 ⟨p, rfl, hO, hs, hp1⟩
  obtain ⟨ho1, ho2, ho3⟩ := hO.hcln
  refine ⟨by simp, ?_⟩
  have hpl := hs.len
  have hB := fun h => TxtB.of (ValP.of hs h) hs
  have hsa := spec_FormatProgram_fn gl p hs hB
  have hia := impl_FormatProgram_fn gl hgl p hs hB
  have hvp := impl_ValidProgram_fn gl p hs
  cases hv : progOk p
  · rw [hv] at hvp hsa hia
    have fx := And.intro ho1 <| @bne_def
    have c1 := hia
    have c2 := hsa
    have c3 := hvp
    refine k_run ?_
    clear fx c1 c2 c3
    refine e_ret [] .nil (by simp; rfl) (by simp)
  rw [hv] at hvp hsa hia
  simp only [if_true] at hsa hia
  have hB := hB hv
  have hb12 := (ValP.of hs hv).sh.body
  have hfew := fmt_few hB hb12 hp1
  have hrb := read_back hB.txt hv
  have hct := fmt_count hB.txt
  rw [fmt_num hp1] at hct
  have hbd := bods_le hb12
  have hl7 := hB.len
  have hpp := ParseProgram_fn gl hgm hgl (fmt p) hfew
  rw [hrb] at hpp
  have hnl := newlines_fn gl (fmt p) (by omega)
  rw [hct] at hnl
  have heq := equalProgram_fn gl p p hs hs
  generalize fmt p = v at hia hsa hpp hnl
  have hwl : IntKind.i64.wrap ((p.length : Int) - 1) = ((p.length - 1 : Nat) : Int) := by rw [wrp (by omega) (by omega)]; omega
  have fx := And.intro ho1 <| And.intro @bne_def <| hwl
  have c1 := hia
  have c2 := hsa
  have c3 := hvp
  refine k_run ?_
  clear fx c1 c2 c3
  refine w_loop (fun n st => ∃ i : Nat, n = p.length - i ∧ i ≤ p.length ∧ st.tm 6 = iv i ∧ st.tm 5 = iv ((p.length - 1 + bods p i : Nat) : Int) ∧ st.tm 4 = tx v ∧ BoxP st 3 p) p.length ?_ ?_
  · exact ⟨0, by omega, by omega, by simp, by simp [bods], by simp, ⟨by simp, by simp, ⟨by simp [ho1], fun j r hj => by simp [ho2 j r hj], fun j r hj => by simp [ho3 j r hj]⟩⟩⟩
  clear ho1 ho2 ho3 hO
  rintro n st - - ⟨i, rfl, hi, h6, h5, h4, ⟨h3, hp3, ⟨a1, a2, a3⟩⟩⟩
  by_cases hil : i < p.length
  · obtain ⟨k, hk⟩ : ∃ k, p[i]? = some k := ⟨_, gE hil⟩
    obtain ⟨_, hkE⟩ := gS hk
    have hbs := bods_succ hk
    have hb1 := hbd i hi
    have hk12 := hb12 k (List.mem_of_getElem? hk)
    generalize bods p i = c at h5 hbs hb1
    have hw1 : IntKind.i64.wrap (((p.length - 1 : Nat) : Int) + (c : Int) + (k.body.length : Int)) = ((p.length - 1 : Nat) : Int) + ((bods p (i + 1) : Nat) : Int) := by rw [hbs, wrp (by omega) (by omega)]; omega
    have hw2 : IntKind.i64.wrap ((i : Int) + 1) = (i : Int) + 1 := wrp (by omega) (by omega)
    have fx := And.intro h6 <| And.intro h5 <| And.intro h4 <| And.intro h3 <| And.intro hp3 <| And.intro a1 <| And.intro hil <| And.intro hk <| And.intro hkE <| And.intro hw1 <| hw2
    refine k_run ?_
    clear fx
    exact ⟨p.length - (i + 1), by omega, i + 1, rfl, by omega, by simp [hw2], by simp [hw1], by simp [h4], ⟨by simp [h3], by simp [hp3], ⟨by simp [a1], fun j r hj => by simp [a2 j r hj], fun j r hj => by simp [a3 j r hj]⟩⟩⟩
  · have hge : i = p.length := by omega
    rw [hge] at h5
    have fx := And.intro h6 <| And.intro h5 <| And.intro h4 <| And.intro h3 <| And.intro hp3 <| And.intro a1 <| hil
    have e1 := hpp
    refine k_run ?_
    clear fx e1
    rintro K hK y H2 ⟨q, rfl, hO, hq⟩
    obtain rfl : q = p := hq
    obtain ⟨b1, b2, b3⟩ := hO.hcln
    refine ⟨by simp, ?_⟩
    have fx := And.intro h5 <| And.intro h4 <| And.intro h3 <| And.intro hp3 <| And.intro a1 <| And.intro b1 <| @bne_def
    have c1 := heq
    have c2 := hnl
    refine k_run ?_
    clear fx c1 c2
    refine e_ret [] .nil (by simp; rfl) (by simp)
end Go.Proofs.YtmaoicgfcngciaaGreatDoor
end
