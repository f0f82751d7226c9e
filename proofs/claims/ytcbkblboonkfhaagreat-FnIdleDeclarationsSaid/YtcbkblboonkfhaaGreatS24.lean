/-
  Own texts, joined by mkclaim.py: Rd, Gn, Re, Rf, Gj, Gk, Ha, Hb.
-/
import Derived.Test.YtcbkblboonkfhaaGreatS23
import Derived.Test.YtcbkblboonkfhaaGreatS12
import Derived.Test.YtcbkblboonkfhaaGreatS13
import Derived.Test.YtcbkblboonkfhaaGreatS22
import Derived.Test.YtcbkblboonkfhaaGreatS10
set_option linter.unusedSimpArgs false
set_option linter.unusedVariables false
set_option maxRecDepth 100000
set_option maxHeartbeats 4000000

section
namespace Go.Proofs.YtcbkblboonkfhaaGreat
open Go Go.Hm Go.Proofs
abbrev qsRd0 : Sch := .q 0 <| .q 1 <| .q 2 <| .q 3 <| .q 4 <| .l 5 [3, 2, 1, 0] <| .l 6 [2, 1, 0] <| .q 7 <| .q 8 <| .l 9 [7] <| .done
abbrev qsRd1 : Sch := .q 0 <| .q 1 <| .q 2 <| .q 3 <| .q 4 <| .q 5 <| .q 6 <| .q 7 <| .q 8 <| .q 9 <| .q 12 <| .l 10 [12, 9, 8, 7, 6, 5, 4, 3, 2, 1, 0] <| .l 11 [12, 8, 7, 6, 5, 4, 3, 2, 1, 0] <| .q 13 <| .l 14 [12, 8, 7, 6, 5, 4, 3, 2, 1, 0] <| .l 15 [12, 7, 6, 5, 4, 3, 2, 1, 0] <| .q 16 <| .q 17 <| .l 18 [16] <| .done
abbrev qsRd2 : Sch := .q 0 <| .q 1 <| .q 2 <| .q 3 <| .q 4 <| .q 5 <| .q 6 <| .q 7 <| .q 8 <| .q 9 <| .l 10 [9, 8, 7, 6, 5, 4, 3, 2, 1, 0] <| .l 11 [8, 7, 6, 5, 4, 3, 2, 1, 0] <| .q 12 <| .l 13 [8, 7, 6, 5, 4, 3, 2, 1, 0] <| .l 14 [7, 6, 5, 4, 3, 2, 1, 0] <| .q 15 <| .q 16 <| .l 17 [15] <| .done
abbrev qsRd3 : Sch := .q 0 <| .q 1 <| .q 2 <| .q 3 <| .l 4 [3, 2, 1, 0] <| .l 5 [2, 1, 0] <| .l 6 [2, 1, 0] <| .q 7 <| .q 8 <| .l 9 [7] <| .done
theorem anyProgram_fn (gl) (H : Nm → Option AO) (bs : List Int) (pos : Nat) (hb : BytesOk bs) (hpos : pos ≤ 600000) (hH : H (.u 1 0 0) = some (rdO bs pos)) (hV : H (.u 2 0 0) = none) (hV4 : H (.u 4 0 0) = none) (hV5 : H (.u 5 0 0) = none) :
    FnE Tryz.prog gl 57 (Nm.under (.u 1 0 0)) [.pt (.u 1 0 0) 0] H (PrgPost bs (fun p pos' => Sml p ∧ (1 ≤ p.length ∧ p.length ≤ 8) ∧ pos' ≤ pos + 3000)) noE := by
  refine FnE.of_sem Tryz.func57 rfl (by kernel_rfl) (rs := [.cell 2 29]) rfl Tryz.ntmps57 (Nat.le_of_ble_eq_true rfl) (fun _ => under_usroot rfl) fun C w g root hroot => ?_
  have hr0 := hroot root (Nm.under_self _)
  have fx := fx0
  refine k_run ?_
  repeat ((first | refine wSc (id := 7) qsRd0 mixed ?_ | refine wSc (id := 9) qsRd1 mixed ?_ | refine wSc (id := 11) qsRd2 mixed ?_ | refine wSc (id := 13) qsRd3 mixed ?_); refine k_rund ?_; refine k_run ?_)
  clear fx
  first | show SemOp _ _ _ _ _ | intro K hK
  refine x_rdo (bs := bs) (hs := by simp [hH]) (ha := by first | (simp; done) | (simp; rfl)) (hF := goodProgram_fn _ _ bs pos hb (by omega) (by simp [hH]) (by simp) (by simp) (by simp)) (h := ?_)
  rintro z H1 ⟨p, q, rfl, ⟨ho1, ho2, ho3⟩, ⟨hg, hq⟩, hU⟩
  refine ⟨q, hU, ?_⟩
  have hgl := hg.len
  have hs := hg.sml
  have fx :=  ho1
  refine k_run ?_
  repeat ((first | refine wSc (id := 7) qsRd0 mixed ?_ | refine wSc (id := 9) qsRd1 mixed ?_ | refine wSc (id := 11) qsRd2 mixed ?_ | refine wSc (id := 13) qsRd3 mixed ?_); refine k_rund ?_; refine k_run ?_)
  clear fx
  first | show SemOp _ _ _ _ _ | intro K hK
  refine x_rd (hs := by simp) (ha := by first | (simp; done) | (simp; rfl)) (hF := pick_rd _ _ bs q p.length hb (by omega) (by omega) (by simp)) (h := ?_)
  rintro x px ⟨hx, rfl⟩
  have hxl : x < p.length := by omega
  have fx := fx0
  refine k_run ?_
  repeat ((first | refine wSc (id := 7) qsRd0 mixed ?_ | refine wSc (id := 9) qsRd1 mixed ?_ | refine wSc (id := 11) qsRd2 mixed ?_ | refine wSc (id := 13) qsRd3 mixed ?_); refine k_rund ?_; refine k_run ?_)
  clear fx
  first | show SemOp _ _ _ _ _ | intro K hK
  refine x_rd (hs := by simp) (ha := by first | (simp; done) | (simp; rfl)) (hF := pick_rd _ _ bs (q + 1) 24 hb (by omega) (by omega) (by simp)) (h := ?_)
  rintro y py ⟨hy, rfl⟩
  have hy24 : y < 24 := by omega
  refine s_abs (fun st => st.tm 0 = .pt (.u 1 0 0) 0 ∧ st.hp (.u 1 0 0) = some (rdO bs (q + 1 + 1)) ∧ st.tm 2 = .pt (.s 2) 0 ∧ st.hp (.s 2) = some (.row 1 [[.hs (.c (.s 2) 0 0) 4 0 0]]) ∧ st.hp (.c (.s 2) 0 0) = some (.row 4 []) ∧ st.tm 3 = .pt (.s 3) 0 ∧ st.hp (.s 3) = some (.row 1 [[.hs (.c (.s 3) 0 0) 4 0 p.length]]) ∧ OwnP st.hp (.c (.s 3) 0 0) p ∧ st.tm 4 = iv x ∧ st.tm 13 = iv y)
    ⟨by simp, by simp, by simp, by simp, by simp, by simp, by simp, ⟨by simp [ho1], fun j r hj => by simp [ho2 j r hj], fun j r hj => by simp [ho3 j r hj]⟩, by simp, by simp⟩ ?_
  clear ho1 ho2 ho3 hU
  rintro st ⟨h0, hU, h2, hp2, hp2', h3, hp3, ⟨ho1, ho2, ho3⟩, h4, h13⟩
  obtain ⟨k, hk⟩ : ∃ k, p[x]? = some k := ⟨_, gE hxl⟩
  obtain ⟨_, hkE⟩ := gS hk
  have hkp := hg.params k (List.mem_of_getElem? hk)
  have hkb := hg.body k (List.mem_of_getElem? hk)
  have hob := ho3 x k hk
  have hyc : y = 0 ∨ y = 1 ∨ y = 2 ∨ y = 3 ∨ y = 4 ∨ 5 ≤ y := by omega
  clear hy hx
  rcases hyc with rfl | rfl | rfl | rfl | rfl | hy5
  · skip
    have fx := And.intro h0 <| h13
    refine k_run ?_
    repeat ((first | refine wSc (id := 7) qsRd0 mixed ?_ | refine wSc (id := 9) qsRd1 mixed ?_ | refine wSc (id := 11) qsRd2 mixed ?_ | refine wSc (id := 13) qsRd3 mixed ?_); refine k_rund ?_; refine k_run ?_)
    clear fx
    first | show SemOp _ _ _ _ _ | intro K hK
    refine x_rdo (bs := bs) (hs := by simp [hU]) (ha := by first | (simp [h0]; done) | (simp [h0]; rfl)) (hF := shapedProgram_fn _ _ bs (q + 1 + 1) hb (by omega) (by simp [hU]) (by simp) (by simp) (by simp)) (h := ?_)
    rintro z H2 ⟨p2, q2, rfl, ⟨hc1, hc2, hc3⟩, ⟨hg2, hq2⟩, hU2⟩
    refine ⟨q2, hU2, ?_⟩
    have fx := And.intro h2 <| And.intro hp2 <| And.intro hp2' <| hc1
    refine k_run ?_
    repeat ((first | refine wSc (id := 7) qsRd0 mixed ?_ | refine wSc (id := 9) qsRd1 mixed ?_ | refine wSc (id := 11) qsRd2 mixed ?_ | refine wSc (id := 13) qsRd3 mixed ?_); refine k_rund ?_; refine k_run ?_)
    clear fx
    refine e_ret [(.c (.s 2) 0 0, root)] (.one rfl) (by simp [h2]; rfl) ⟨p2, q2, by simp, ⟨?_, fun j r hj => ?_, fun j r hj => ?_⟩, ⟨hg2.sml, hg2.len, by omega⟩, by simp⟩
    · simp [hc1, hr0, pRows_tr (n := .c (.s 2) 0 0) (m := root) (f := finf (Nm.under (.u 1 0 0)) [(.c (.s 2) 0 0, root)]) (p := p2) (by simp [hr0])]
    · simp [hc2 j r hj, hr0]
    · simp [hc3 j r hj, hr0]
  · skip
    have fx := And.intro h0 <| And.intro h13 <| And.intro h3 <| And.intro hp3 <| And.intro h4 <| And.intro ho1 <| And.intro hxl <| And.intro hk <| And.intro hkE <| hob
    refine k_run ?_
    repeat ((first | refine wSc (id := 7) qsRd0 mixed ?_ | refine wSc (id := 9) qsRd1 mixed ?_ | refine wSc (id := 11) qsRd2 mixed ?_ | refine wSc (id := 13) qsRd3 mixed ?_); refine k_rund ?_; refine k_run ?_)
    clear fx
    first | show SemOp _ _ _ _ _ | intro K hK
    refine x_one (oneOk _) 25 [-2, (x : Int), 7] (bs := bs) (pos := q + 1 + 1) hb (by omega) (hV := hV) (h0 := by simp [h0]) (h1 := by simp) (hH := by simp [hU]) (hL := by simp [irows]) (h := ?_)
    intro v hv
    have hset := pRows_setPar (n := .c (.s 3) 0 0) (v := v) hk
    have fx := And.intro h0 <| And.intro h13 <| And.intro h3 <| And.intro hp3 <| And.intro h4 <| And.intro ho1 <| And.intro hxl <| And.intro hk <| And.intro hkE <| And.intro hob <| And.intro hset <| And.intro h2 <| And.intro hp2 <| hp2'
    refine k_run ?_
    repeat ((first | refine wSc (id := 7) qsRd0 mixed ?_ | refine wSc (id := 9) qsRd1 mixed ?_ | refine wSc (id := 11) qsRd2 mixed ?_ | refine wSc (id := 13) qsRd3 mixed ?_); refine k_rund ?_; refine k_run ?_)
    clear fx
    refine e_ret [(.c (.s 3) 0 0, root)] (.one rfl) (by simp [h2]; rfl) ⟨p.set x { k with parent := v }, q + 1 + 1 + 1, by simp, ⟨?_, fun j r hj => ?_, fun j r hj => ?_⟩, ⟨hs.set (by show k.params.length ≤ _; omega) (by show k.body.length ≤ _; omega), by simp; omega, by omega⟩, by simp⟩
    · simp [hset, hr0, pRows_tr (n := .c (.s 3) 0 0) (m := root) (f := finf (Nm.under (.u 1 0 0)) [(.c (.s 3) 0 0, root)]) (p := p.set x { k with parent := v }) (by simp [hr0])]
    all_goals
      rw [List.getElem?_set] at hj
      by_cases e : x = j
      · subst e
        rw [if_pos rfl, if_pos hxl] at hj
        obtain rfl := Option.some.inj hj
        simp [ho2 x k hk, ho3 x k hk, hr0]
      · rw [if_neg e] at hj
        simp [ho2 j r hj, ho3 j r hj, hr0, e, show ¬ j = x from fun h => e h.symm]
  · skip
    have fx := And.intro h0 <| And.intro h13 <| And.intro h3 <| And.intro hp3 <| And.intro h4 <| And.intro ho1 <| And.intro hxl <| And.intro hk <| And.intro hkE <| hob
    refine k_run ?_
    repeat ((first | refine wSc (id := 7) qsRd0 mixed ?_ | refine wSc (id := 9) qsRd1 mixed ?_ | refine wSc (id := 11) qsRd2 mixed ?_ | refine wSc (id := 13) qsRd3 mixed ?_); refine k_rund ?_; refine k_run ?_)
    clear fx
    first | show SemOp _ _ _ _ _ | intro K hK
    refine x_one (oneOk _) 41 [-1, 12, 3] (bs := bs) (pos := q + 1 + 1) hb (by omega) (hV := hV) (h0 := by simp [h0]) (h1 := by simp) (hH := by simp [hU]) (hL := by simp [irows]) (h := ?_)
    intro v hv
    have hset := pRows_set (n := .c (.s 3) 0 0) (a := 46) (i := x) (len := k.body.length + 1) (p := p) (L := k.body ++ [⟨v, 0, x, 0⟩]) (by simp) (by simp) (by simp)
    have fx := And.intro h0 <| And.intro h13 <| And.intro h3 <| And.intro hp3 <| And.intro h4 <| And.intro ho1 <| And.intro hxl <| And.intro hk <| And.intro hkE <| And.intro hob <| And.intro hset <| And.intro h2 <| And.intro hp2 <| hp2'
    refine k_run ?_
    repeat ((first | refine wSc (id := 7) qsRd0 mixed ?_ | refine wSc (id := 9) qsRd1 mixed ?_ | refine wSc (id := 11) qsRd2 mixed ?_ | refine wSc (id := 13) qsRd3 mixed ?_); refine k_rund ?_; refine k_run ?_)
    clear fx
    refine e_ret [(.c (.s 3) 0 0, root)] (.one rfl) (by simp [h2]; rfl) ⟨setBody p x (k.body ++ [⟨v, 0, x, 0⟩]), q + 1 + 1 + 1, by simp, ⟨?_, fun j r hj => ?_, fun j r hj => ?_⟩, ⟨setBody_sml hs (by simp; omega), by simp; omega, by omega⟩, by simp⟩
    · simp [hset, hr0, pRows_tr (n := .c (.s 3) 0 0) (m := root) (f := finf (Nm.under (.u 1 0 0)) [(.c (.s 3) 0 0, root)]) (p := setBody p x (k.body ++ [⟨v, 0, x, 0⟩])) (by simp [hr0])]
    all_goals
      have hjl : j < p.length := by
        have := (gS hj).1
        rwa [setBody_len] at this
      obtain ⟨r0, hr0'⟩ : ∃ r0, p[j]? = some r0 := ⟨_, gE hjl⟩
      rw [setBody_get hr0'] at hj
      obtain rfl := Option.some.inj hj
      by_cases e : x = j
      · subst e
        rw [hk] at hr0'
        obtain rfl := Option.some.inj hr0'
        simp [ho2 x k hk, hob, hr0]
      · simp [ho2 j r0 hr0', ho3 j r0 hr0', hr0, e, show ¬ j = x from fun h => e h.symm]
  · skip
    have fx := And.intro h0 <| And.intro h13 <| And.intro h3 <| And.intro hp3 <| And.intro h4 <| And.intro ho1 <| And.intro hxl <| And.intro hk <| And.intro hkE <| hob
    refine k_run ?_
    repeat ((first | refine wSc (id := 7) qsRd0 mixed ?_ | refine wSc (id := 9) qsRd1 mixed ?_ | refine wSc (id := 11) qsRd2 mixed ?_ | refine wSc (id := 13) qsRd3 mixed ?_); refine k_rund ?_; refine k_run ?_)
    clear fx
    first | show SemOp _ _ _ _ _ | intro K hK
    refine x_one (oneOk _) 61 [8, -1] (bs := bs) (pos := q + 1 + 1) hb (by omega) (hV := hV) (h0 := by simp [h0]) (h1 := by simp) (hH := by simp [hU]) (hL := by simp [irows]) (h := ?_)
    intro v hv
    have hset := pRows_set (n := .c (.s 3) 0 0) (a := 65) (i := x) (len := k.body.length + 1) (p := p) (L := k.body ++ [⟨1, v, 0, 0⟩]) (by simp) (by simp) (by simp)
    have fx := And.intro h0 <| And.intro h13 <| And.intro h3 <| And.intro hp3 <| And.intro h4 <| And.intro ho1 <| And.intro hxl <| And.intro hk <| And.intro hkE <| And.intro hob <| And.intro hset <| And.intro h2 <| And.intro hp2 <| hp2'
    refine k_run ?_
    repeat ((first | refine wSc (id := 7) qsRd0 mixed ?_ | refine wSc (id := 9) qsRd1 mixed ?_ | refine wSc (id := 11) qsRd2 mixed ?_ | refine wSc (id := 13) qsRd3 mixed ?_); refine k_rund ?_; refine k_run ?_)
    clear fx
    refine e_ret [(.c (.s 3) 0 0, root)] (.one rfl) (by simp [h2]; rfl) ⟨setBody p x (k.body ++ [⟨1, v, 0, 0⟩]), q + 1 + 1 + 1, by simp, ⟨?_, fun j r hj => ?_, fun j r hj => ?_⟩, ⟨setBody_sml hs (by simp; omega), by simp; omega, by omega⟩, by simp⟩
    · simp [hset, hr0, pRows_tr (n := .c (.s 3) 0 0) (m := root) (f := finf (Nm.under (.u 1 0 0)) [(.c (.s 3) 0 0, root)]) (p := setBody p x (k.body ++ [⟨1, v, 0, 0⟩])) (by simp [hr0])]
    all_goals
      have hjl : j < p.length := by
        have := (gS hj).1
        rwa [setBody_len] at this
      obtain ⟨r0, hr0'⟩ : ∃ r0, p[j]? = some r0 := ⟨_, gE hjl⟩
      rw [setBody_get hr0'] at hj
      obtain rfl := Option.some.inj hj
      by_cases e : x = j
      · subst e
        rw [hk] at hr0'
        obtain rfl := Option.some.inj hr0'
        simp [ho2 x k hk, hob, hr0]
      · simp [ho2 j r0 hr0', ho3 j r0 hr0', hr0, e, show ¬ j = x from fun h => e h.symm]
  · skip
    have fx := And.intro h0 <| And.intro h13 <| And.intro h3 <| And.intro hp3 <| And.intro h4 <| And.intro ho1 <| And.intro hxl <| And.intro hk <| And.intro hkE <| hob
    refine k_run ?_
    repeat ((first | refine wSc (id := 7) qsRd0 mixed ?_ | refine wSc (id := 9) qsRd1 mixed ?_ | refine wSc (id := 11) qsRd2 mixed ?_ | refine wSc (id := 13) qsRd3 mixed ?_); refine k_rund ?_; refine k_run ?_)
    clear fx
    first | show SemOp _ _ _ _ _ | intro K hK
    refine x_one (oneOk _) 74 [8, 1] (bs := bs) (pos := q + 1 + 1) hb (by omega) (hV := hV) (h0 := by simp [h0]) (h1 := by simp) (hH := by simp [hU]) (hL := by simp [irows]) (h := ?_)
    intro v hv
    have hset := pRows_setParams (n := .c (.s 3) 0 0) (a := 76) (len := 2) (L := [v, 2]) hk rfl (by simp) (by simp)
    have fx := And.intro h0 <| And.intro h13 <| And.intro h3 <| And.intro hp3 <| And.intro h4 <| And.intro ho1 <| And.intro hxl <| And.intro hk <| And.intro hkE <| And.intro hob <| And.intro hset <| And.intro h2 <| And.intro hp2 <| hp2'
    refine k_run ?_
    repeat ((first | refine wSc (id := 7) qsRd0 mixed ?_ | refine wSc (id := 9) qsRd1 mixed ?_ | refine wSc (id := 11) qsRd2 mixed ?_ | refine wSc (id := 13) qsRd3 mixed ?_); refine k_rund ?_; refine k_run ?_)
    clear fx
    refine e_ret [(.c (.s 3) 0 0, root)] (.one rfl) (by simp [h2]; rfl) ⟨p.set x { k with params := [v, 2] }, q + 1 + 1 + 1, by simp, ⟨?_, fun j r hj => ?_, fun j r hj => ?_⟩, ⟨hs.set (by show ([v, 2] : List Int).length ≤ _; simp) (by show k.body.length ≤ _; omega), by simp; omega, by omega⟩, by simp⟩
    · simp [hset, hr0, pRows_tr (n := .c (.s 3) 0 0) (m := root) (f := finf (Nm.under (.u 1 0 0)) [(.c (.s 3) 0 0, root)]) (p := p.set x { k with params := [v, 2] }) (by simp [hr0])]
    all_goals
      rw [List.getElem?_set] at hj
      by_cases e : x = j
      · subst e
        rw [if_pos rfl, if_pos hxl] at hj
        obtain rfl := Option.some.inj hj
        simp [ho3 x k hk, irows, hr0]
      · rw [if_neg e] at hj
        simp [ho2 j r hj, ho3 j r hj, hr0, e, show ¬ j = x from fun h => e h.symm]
  · have hy0 : ¬ y = 0 := by omega
    have hy1 : ¬ y = 1 := by omega
    have hy2 : ¬ y = 2 := by omega
    have hy3 : ¬ y = 3 := by omega
    have hy4 : ¬ y = 4 := by omega
    have e0 : ((y : Int) == 0) = false := by rw [beq_eq_false_iff_ne]; omega
    have e1 : ((y : Int) == 1) = false := by rw [beq_eq_false_iff_ne]; omega
    have e2 : ((y : Int) == 2) = false := by rw [beq_eq_false_iff_ne]; omega
    have e3 : ((y : Int) == 3) = false := by rw [beq_eq_false_iff_ne]; omega
    have e4 : ((y : Int) == 4) = false := by rw [beq_eq_false_iff_ne]; omega
    have fx := And.intro h2 <| And.intro hp2 <| And.intro hp2' <| And.intro h3 <| And.intro hp3 <| And.intro h13 <| And.intro hy0 <| And.intro e1 <| And.intro e2 <| And.intro e3 <| e4
    refine k_run ?_
    repeat ((first | refine wSc (id := 7) qsRd0 mixed ?_ | refine wSc (id := 9) qsRd1 mixed ?_ | refine wSc (id := 11) qsRd2 mixed ?_ | refine wSc (id := 13) qsRd3 mixed ?_); refine k_rund ?_; refine k_run ?_)
    clear fx
    refine e_ret [(.c (.s 3) 0 0, root)] (.one rfl) (by simp [h2]; rfl) ⟨p, q + 1 + 1, by simp, ⟨?_, fun j r hj => ?_, fun j r hj => ?_⟩, ⟨hs, hgl, by omega⟩, by simp [hU]⟩
    · simp [ho1, hr0, pRows_tr (n := .c (.s 3) 0 0) (m := root) (f := finf (Nm.under (.u 1 0 0)) [(.c (.s 3) 0 0, root)]) (p := p) (by simp [hr0])]
    · simp [ho2 j r hj, hr0]
    · simp [ho3 j r hj, hr0]
end Go.Proofs.YtcbkblboonkfhaaGreat
end
section
namespace Go.Proofs.YtcbkblboonkfhaaGreat
open Go Go.Hm Go.Proofs
attribute [local simp] slcAV rowsIn
end Go.Proofs.YtcbkblboonkfhaaGreat
end
section
namespace Go.Proofs.YtcbkblboonkfhaaGreat
open Go Go.Hm Go.Proofs
attribute [local simp] slcAV rowsIn
theorem newReader_fn (gl) (code : List Int) (hc : code.length ≤ 1048576) : FnOk Tryz.prog gl 56 [bsl code] (fun r z H' => z = .pt r 0 ∧ H' r = some (rdO (code.take 2000) 0)) := by
  refine FnOk.of_sem Tryz.func56 rfl (by kernel_rfl) (rs := [.tmp 2]) rfl Tryz.ntmps56 (Nat.le_of_ble_eq_true rfl) fun C w g root => ?_
  by_cases hl : 2000 < code.length
  · have hl1 : (2000 : Int) < code.length := by omega
    have hl2 : (2000 : Int) ≤ code.length := by omega
    all_goals have fx := And.intro hl1 <| hl2
    repeat' (first
     | refine w_seq ?_ | refine w_reg fun K hK => ?_
     | ((with_reducible refine s_end hK ?_); clear hK K)
     | (with_reducible first | refine then_normal ?_)
     | refine w_ret ?_
     | (with_reducible first | refine s_none ?_ | refine x_assign (h := ?_) | refine x_box (h := ?_))
     | (with_reducible refine x_q (h := ?_))
     | refine x_condt (h1 := ?_)
     | fail)
    all_goals try clear fx
    refine e_ret [(.s 2, root)] (.one rfl) (by simp; rfl) ⟨by simp, by simp⟩
  · have ht : code.take 2000 = code := List.take_of_length_le (by omega)
    have hl1 : ¬ (2000 : Int) < code.length := by omega
    rw [ht]
    all_goals have fx :=  hl1
    repeat' (first
     | refine w_seq ?_ | refine w_skip ?_ | refine w_reg fun K hK => ?_
     | ((with_reducible refine s_end hK ?_); clear hK K)
     | (with_reducible first | refine then_normal ?_)
     | refine w_ret ?_
     | (with_reducible first | refine s_none ?_ | refine x_assign (h := ?_) | refine x_box (h := ?_))
     | (with_reducible refine x_q (h := ?_))
     | refine x_condf (h1 := ?_)
     | fail)
    all_goals try clear fx
    refine e_ret [(.s 2, root)] (.one rfl) (by simp; rfl) ⟨by simp, by simp⟩
structure CodeOk (code : List Int) : Prop where
  len : code.length ≤ 1048576
  rng : ∀ v ∈ code, 0 ≤ v ∧ v ≤ 255
theorem CodeOk.bytes {code : List Int} (h : CodeOk code) : BytesOk (code.take 2000) := ⟨by simp; omega, fun v hv => h.rng v (List.mem_of_mem_take hv)⟩
end Go.Proofs.YtcbkblboonkfhaaGreat
end
section
namespace Go.Proofs.YtcbkblboonkfhaaGreat
open Go Go.Hm Go.Proofs
abbrev qsGj0 : Sch := .q 0 <| .q 1 <| .q 2 <| .q 3 <| .q 4 <| .q 5 <| .q 6 <| .q 7 <| .q 8 <| .q 9 <| .q 10 <| .q 11 <| .q 12 <| .q 13 <| .q 14 <| .done
theorem explicit_fn (gl) (p : Prg) (b : Nat) (k : Blk) (hk : p[b]? = some k) (hs : Sml p) (hh : Heads p) : FnOk Tryz.prog gl 80 [pav p, iv b] (fun r y H' => y = .hs r 4 0 (explicitL p b k).length ∧ H' r = some (.row 4 (srows (explicitL p b k)))) := by
  refine FnOk.of_sem Tryz.func80 rfl (by kernel_rfl) (rs := [.tmp 4]) rfl Tryz.ntmps80 (Nat.le_of_ble_eq_true rfl) fun C w g root => ?_
  all_goals have fx :=  hk
  repeat' (first
   | refine w_seq ?_ | refine w_block ?_ | refine w_skip ?_ | refine w_reg fun K hK => ?_
   | ((with_reducible refine s_end hK ?_); clear hK K)
   | (with_reducible first | refine then_normal ?_ | refine in_normal ?_ | refine then_exit ?_ | refine in_exit ?_ | refine then_ret ?_ | refine in_ret ?_ | refine in_other (by decide) ?_)
   | refine w_exit ?_
   | refine w_ret ?_
   | (with_reducible refine s_none ?_)
   | ((with_reducible refine g_id ?_); refine x_guard (h := ?_))
   | (with_reducible first | refine gx_tt ?_ | refine gx_ff ?_ | refine x_tf (h := ?_) | refine x_ft (h := ?_) | refine x_u (h := ?_) | refine x_assign (h := ?_) | refine x_box (h := ?_) | refine x_append0 (T := 44) (h := ?_) | refine x_append (T := 44) (h := ?_) | refine x_build (h := ?_))
   | ((with_reducible refine o_id 120 rfl ?_); refine x_callh (hF := read_fn _ p b k hk (hs.bsm hk).body) (h := ?_))
   | (with_reducible refine x_q (h := ?_))
   | (with_reducible refine gx_s (fun ht => ?_) (fun ht => ?_))
   | refine x_condt (h1 := ?_) | refine x_condf (h1 := ?_)
   | refine x_if (h1 := fun ht => ?_) (h2 := fun ht => ?_)
   | fail)
  all_goals try clear fx
  · have hb : b = 0 := by simpa using ht
    simp only [explicitL, if_pos hb]
    exact e_list (t := 4) (by first | (simp []; done) | (simp []; rfl)) (by first | (simp []; done) | (simp []; rfl)) (by simp)
  have hb : ¬ b = 0 := by simpa using ht
  have hel : explicitL p b k = k.rd.flatMap (explicitOf p b k) := by simp only [explicitL, if_neg hb]
  rw [hel]
  have hrl := k.rd_len
  refine w_loop (fun n st => ∃ i : Nat, n = k.rd.length - i ∧ i ≤ k.rd.length ∧ st.tm 1 = iv b ∧ st.tm 2 = .pt (.s 2) 0 ∧ st.hp (.s 2) = some (.row 1 [[ksl p]]) ∧ st.tm 6 = .hs (.s 6) 1 0 k.rd.length ∧ st.hp (.s 6) = some (.row 1 (irows k.rd)) ∧ st.tm 7 = iv i ∧ ∃ L : List Stm, L = (k.rd.take i).flatMap (explicitOf p b k) ∧ L.length ≤ i ∧ st.tm 5 = .hs (.s 5) 4 0 L.length ∧ st.hp (.s 5) = some (.row 4 (srows L))) k.rd.length ?_ ?_
  · exact ⟨0, by simp [Blk.rd]⟩
  clear ht
  rintro n st - - ⟨i, rfl, hi, h1, h2, hp2, h6, hp6, h7, L, hL, hLi, h5, hp5⟩
  have fx := And.intro h1 <| And.intro h2 <| And.intro hp2 <| And.intro h6 <| And.intro hp6 <| And.intro h7 <| And.intro h5 <| hp5
  refine k_run ?_
  clear fx
  refine w_if (by simp []; first | done | rfl | exact (Bool.not_not _).symm) (fun ht => ?_) (fun hf => ?_)
  · have hlt : i < k.rd.length := by simpa using ht
    obtain ⟨x, hx⟩ : ∃ x, k.rd[i]? = some x := ⟨_, gE hlt⟩
    obtain ⟨_, hx'⟩ := gS hx
    clear ht
    all_goals have fx := And.intro h1 <| And.intro h2 <| And.intro hp2 <| And.intro h6 <| And.intro hp6 <| And.intro h7 <| And.intro h5 <| And.intro hp5 <| And.intro hx' <| hlt
    repeat' (first
     | refine w_seq ?_ | refine w_block ?_ | refine w_skip ?_ | refine w_reg fun K hK => ?_
     | ((with_reducible refine s_end hK ?_); clear hK K)
     | (with_reducible first | refine then_normal ?_ | refine in_normal ?_ | refine then_exit ?_ | refine in_exit ?_ | refine then_ret ?_ | refine in_ret ?_ | refine in_other (by decide) ?_)
     | refine w_exit ?_
     | refine w_ret ?_
     | (with_reducible refine s_none ?_)
     | ((with_reducible refine g_id ?_); refine x_guard (h := ?_))
     | (with_reducible first | refine gx_tt ?_ | refine gx_ff ?_ | refine x_tf (h := ?_) | refine x_ft (h := ?_) | refine x_u (h := ?_) | refine x_assign (h := ?_) | refine x_box (h := ?_) | refine x_append0 (T := 44) (h := ?_) | refine x_append (T := 44) (h := ?_) | refine x_build (h := ?_))
     | ((with_reducible refine o_id 122 rfl ?_); refine x_call (hF := owner_fn _ p b k _ hk hs hh) (h := ?_))
     | ((with_reducible refine o_id 111 rfl ?_); refine x_callh (hF := declared_fn _ p b k _ hk (hs.bsm hk)) (h := ?_))
     | ((with_reducible refine o_id 112 rfl ?_); refine x_call (hF := has_fn _ _ _ (Nat.le_trans (Blk.dc_len _ _) (by decide))) (h := ?_))
     | (with_reducible refine x_q (h := ?_))
     | (with_reducible refine gx_s (fun ht => ?_) (fun ht => ?_))
     | refine x_condt (h1 := ?_) | refine x_condf (h1 := ?_)
     | refine x_if (h1 := fun ht => ?_) (h2 := fun ht => ?_)
     | fail)
    all_goals try clear fx
    all_goals refine ⟨k.rd.length - (i + 1), by omega, i + 1, rfl, by omega, by simp [h1], by simp [h2], by simp [hp2], by simp [h6], by simp [hp6], by simp; exact wrp (by omega) (by omega), L ++ explicitOf p b k x, by rw [flatMap_take_succ hx, hL], by have := explicitOf_len (p := p) (b := b) (k := k) (x := x); simp only [List.length_append]; omega, ?_⟩
    all_goals clear hL hLi hel hh hs
    all_goals simp_all [explicitOf]
    all_goals rw [if_neg (by omega)]
  · have hge : i = k.rd.length := by
      have : ¬ i < k.rd.length := by simpa using hf
      omega
    subst hge
    rw [List.take_length] at hL
    rw [← hL]
    have fx := And.intro h5 <| hp5
    refine k_run ?_
    clear fx
    exact e_list (t := 4) (by first | (simp [hp5]; done) | (simp [hp5]; rfl)) (by first | (simp [hp5]; done) | (simp [hp5]; rfl)) (by simp)
theorem sameTable_fn (gl) (s t : List (List Int)) (hst : s.length = t.length) (hsl : s.length ≤ 1048576) (hrr : ∀ (i : Nat) r r', s[i]? = some r → t[i]? = some r' → r.length = r'.length ∧ r.length ≤ 1048576) : FnOk Tryz.prog gl 66 [tsl s, tsl t] (fun _ y _ => y = bv (decide (s = t))) := by
  refine FnOk.of_sem Tryz.func66 rfl (by kernel_rfl) (rs := [.tmp 4]) rfl Tryz.ntmps66 (Nat.le_of_ble_eq_true rfl) fun C w g root => ?_
  have fx := fx0
  refine k_run ?_
  repeat ((first | refine wSc (id := 7) qsGj0 mixed ?_); refine k_rund ?_; refine k_run ?_)
  clear fx
  refine w_loop (fun n st => ∃ i : Nat, n = s.length - i ∧ i ≤ s.length ∧ st.tm 0 = tsl s ∧ st.tm 1 = tsl t ∧ st.tm 5 = iv i ∧ ∀ j < i, s[j]? = t[j]?) s.length ?_ ?_
  · exact ⟨0, by simp⟩
  rintro n st - - ⟨i, rfl, hi, h0, h1, h5, heq⟩
  have fx := And.intro h0 <| And.intro h1 <| h5
  refine k_run ?_
  repeat ((first | refine wSc (id := 7) qsGj0 mixed ?_); refine k_rund ?_; refine k_run ?_)
  clear fx
  refine w_if (by simp []; first | done | rfl | exact (Bool.not_not _).symm) (fun ht => ?_) (fun hf => ?_)
  · have hlt : i < s.length := by simpa using ht
    obtain ⟨r, hr⟩ : ∃ r, s[i]? = some r := ⟨_, gE hlt⟩
    obtain ⟨r', hr'⟩ : ∃ r', t[i]? = some r' := ⟨_, gE (by omega)⟩
    obtain ⟨hl, hl2⟩ := hrr i r r' hr hr'
    clear ht
    have fx := And.intro h0 <| And.intro h1 <| h5
    refine k_run ?_
    repeat ((first | refine wSc (id := 7) qsGj0 mixed ?_); refine k_rund ?_; refine k_run ?_)
    clear fx
    refine w_loop (fun n st => ∃ j : Nat, n = r.length - j ∧ j ≤ r.length ∧ st.tm 0 = tsl s ∧ st.tm 1 = tsl t ∧ st.tm 5 = iv i ∧ st.tm 6 = iv j ∧ ∀ a < j, r[a]? = r'[a]?) r.length ?_ ?_
    · exact ⟨0, by simp [h0, h1, h5]⟩
    clear h0 h1 h5
    rintro n st - - ⟨j, rfl, hj, h0, h1, h5, h6, hej⟩
    have fx := And.intro h0 <| And.intro h1 <| And.intro h5 <| And.intro h6 <| hr
    refine k_run ?_
    repeat ((first | refine wSc (id := 7) qsGj0 mixed ?_); refine k_rund ?_; refine k_run ?_)
    clear fx
    refine w_if (by simp []; first | done | rfl | exact (Bool.not_not _).symm) (fun ht => ?_) (fun hf => ?_)
    · have hlj : j < r.length := by simpa using ht
      obtain ⟨x, hx⟩ : ∃ x, r[j]? = some x := ⟨_, gE hlj⟩
      obtain ⟨y, hy⟩ : ∃ y, r'[j]? = some y := ⟨_, gE (by omega)⟩
      clear ht
      all_goals have fx := And.intro h0 <| And.intro h1 <| And.intro h5 <| And.intro h6 <| And.intro hr <| And.intro hr' <| And.intro hx <| hy
      repeat' (first
       | refine w_seq ?_ | refine w_block ?_ | refine w_skip ?_ | refine w_reg fun K hK => ?_
       | ((with_reducible refine s_end hK ?_); clear hK K)
       | (with_reducible first | refine then_normal ?_ | refine in_normal ?_ | refine then_exit ?_ | refine in_exit ?_ | refine then_ret ?_ | refine in_ret ?_ | refine s_nil ?_ | refine in_other (by decide) ?_)
       | refine w_exit ?_
       | refine w_ret ?_
       | (with_reducible first | refine s_none ?_ | refine x_assign (h := ?_))
       | (with_reducible refine x_q (h := ?_))
       | refine x_condt (h1 := ?_) | refine x_condf (h1 := ?_)
       | (refine wSc (id := 7) qsGj0 mixed fun K hK => ?_)
       | ((with_reducible refine a_end hK ?_); clear hK K)
       | ((with_reducible refine a_id ?_); first | refine xa_q (h := ?_) | refine xa_qt (h := ?_) | refine xa_qf (h := ?_) | refine xa_qu (h := ?_))
       | ((with_reducible refine a_id ?_); refine xa_gq (h1 := fun ht => ?_) (h2 := fun ht => ?_))
       | refine a_l rfl ?_ | refine a_l2 ?_ ?_ | (with_reducible refine And.intro ?_ ?_) | exact st_nil | refine xa_st (h2 := ?_)
       | refine x_if (h1 := fun ht => ?_) (h2 := fun ht => ?_)
       | fail)
      all_goals try clear fx
      · refine e_ret [] .nil (by simp; rfl) ?_
        have : s ≠ t := by
          rintro rfl
          rw [hr] at hr'
          obtain rfl := Option.some.inj hr'
          rw [hx] at hy
          obtain rfl := Option.some.inj hy
          simp at ht
        simp [this]
      · refine ⟨r.length - (j + 1), by omega, j + 1, rfl, by omega, by simp [h0], by simp [h1], by simp [h5], by simp; exact wrp (by omega) (by omega), fun a ha => ?_⟩
        rcases Nat.lt_succ_iff_lt_or_eq.1 ha with h | rfl
        · exact hej a h
        · rw [hx, hy]
          simpa using ht
    · have hge : j = r.length := by
        have : ¬ j < r.length := by simpa using hf
        omega
      subst hge
      have hre : r = r' := by
        apply List.ext_getElem?
        intro a
        by_cases ha : a < r.length
        · exact hej a ha
        · rw [List.getElem?_eq_none (by omega), List.getElem?_eq_none (by omega)]
      have fx := And.intro h0 <| And.intro h1 <| And.intro h5 <| h6
      refine k_run ?_
      repeat ((first | refine wSc (id := 7) qsGj0 mixed ?_); refine k_rund ?_; refine k_run ?_)
      clear fx
      refine ⟨s.length - (i + 1), by omega, i + 1, rfl, by omega, by simp [h0], by simp [h1], by simp; exact wrp (by omega) (by omega), fun a ha => ?_⟩
      rcases Nat.lt_succ_iff_lt_or_eq.1 ha with h | rfl
      · exact heq a h
      · rw [hr, hr', hre]
  · have hge : i = s.length := by
      have : ¬ i < s.length := by simpa using hf
      omega
    subst hge
    have hee : s = t := by
      apply List.ext_getElem?
      intro a
      by_cases ha : a < s.length
      · exact heq a ha
      · rw [List.getElem?_eq_none (by omega), List.getElem?_eq_none (by omega)]
    have fx := And.intro h0 <| h1
    refine k_run ?_
    repeat ((first | refine wSc (id := 7) qsGj0 mixed ?_); refine k_rund ?_; refine k_run ?_)
    clear fx
    refine e_ret [] .nil (by simp; rfl) (by simp [hee])
abbrev qsGk0 : Sch := .q 0 <| .q 1 <| .q 3 <| .q 4 <| .l 2 [4, 3] <| .l 5 [] <| .l 6 [] <| .l 7 [] <| .done
theorem read_fn' (gl) (p : Prg) (b : Nat) (k : Blk) (hk : p[b]? = some k) (hs : BSm k) : FnOk Tryz.prog gl 120 [pav p, iv b] (fun r y H' => y = .hs r 1 0 k.rd.length ∧ H' r = some (.row 1 (irows k.rd))) := read_fn gl p b k hk hs.body
theorem ownersOf_fn (gl) (p : Prg) (hs : Sml p) (hh : Heads p) : FnOk Tryz.prog gl 67 [pav p] (fun r y H' => y = .hs r 1 0 (ownersOf p).length ∧ IsTab H' r (ownersOf p)) := by
  have hpl := hs.len
  refine FnOk.of_sem Tryz.func67 rfl (by kernel_rfl) (rs := [.tmp 2]) rfl Tryz.ntmps67 (Nat.le_of_ble_eq_true rfl) fun C w g root => ?_
  have fx := fx0
  refine k_run ?_
  repeat ((first | refine wSc (id := 6) qsGk0 mixed ?_); refine k_rund ?_; refine k_run ?_)
  clear fx
  refine w_loop (fun n st => ∃ i : Nat, n = p.length - i ∧ i ≤ p.length ∧ st.tm 1 = .pt (.s 1) 0 ∧ st.hp (.s 1) = some (.row 1 [[ksl p]]) ∧ st.tm 4 = iv i ∧ ∃ T : List (List Int), T = (List.range i).map (ownersAt p) ∧ T.length = i ∧ st.tm 3 = .hs (.s 3) 1 0 T.length ∧ IsTab st.hp (.s 3) T) p.length ?_ ?_
  · exact ⟨0, by omega, by omega, by simp, by simp, by simp, [], rfl, rfl, by simp, by simp, by simp⟩
  rintro n st - - ⟨i, rfl, hi, h1, hp1, h4, T, hT, hTl, h3, ⟨hp3, hpr⟩⟩
  have fx := And.intro h1 <| And.intro hp1 <| h4
  refine k_run ?_
  repeat ((first | refine wSc (id := 6) qsGk0 mixed ?_); refine k_rund ?_; refine k_run ?_)
  clear fx
  refine w_if (by simp []; first | done | rfl | exact (Bool.not_not _).symm) (fun ht => ?_) (fun hf => ?_)
  · have hlt : i < p.length := by simpa using ht
    obtain ⟨k, hk⟩ : ∃ k, p[i]? = some k := ⟨_, gE hlt⟩
    clear ht
    have hrl := k.rd_len
    have hbl := k.bd_len
    all_goals have fx := And.intro h1 <| And.intro hp1 <| And.intro h4 <| hk
    repeat' (first
     | refine w_seq ?_ | refine w_block ?_ | refine w_skip ?_ | refine w_reg fun K hK => ?_
     | ((with_reducible refine s_end hK ?_); clear hK K)
     | (with_reducible first | refine then_normal ?_ | refine in_normal ?_ | refine then_exit ?_ | refine in_exit ?_ | refine then_ret ?_ | refine in_ret ?_ | refine s_nil ?_ | refine in_other (by decide) ?_)
     | refine w_exit ?_
     | refine w_ret ?_
     | (with_reducible first | refine s_none ?_ | refine x_assign (h := ?_) | refine x_box (h := ?_) | refine x_append0 (T := 41) (h := ?_) | refine x_append (T := 41) (h := ?_) | refine x_append0 (T := 38) (h := ?_) | refine x_appendC (T := 38) (h := ?_) | refine x_build (h := ?_))
     | ((with_reducible refine o_id 120 rfl ?_); refine x_callh (hF := read_fn' _ p i k hk (hs.bsm hk)) (h := ?_))
     | ((with_reducible refine o_id 121 rfl ?_); refine x_callh (hF := bound_fn _ p i k hk (hs.bsm hk)) (h := ?_))
     | (with_reducible refine x_q (h := ?_))
     | refine x_condt (h1 := ?_) | refine x_condf (h1 := ?_)
     | (refine wSc (id := 6) qsGk0 mixed fun K hK => ?_)
     | ((with_reducible refine a_end hK ?_); clear hK K)
     | ((with_reducible refine a_id ?_); first | refine xa_q (h := ?_) | refine xa_qt (h := ?_) | refine xa_qf (h := ?_) | refine xa_qu (h := ?_))
     | ((with_reducible refine a_id ?_); refine xa_gq (h1 := fun ht => ?_) (h2 := fun ht => ?_))
     | refine a_l rfl ?_ | refine a_l2 ?_ ?_ | (with_reducible refine And.intro ?_ ?_) | exact st_nil | refine xa_st (h2 := ?_)
     | fail)
    all_goals try clear fx
    refine w_loop (fun n st => ∃ x : Nat, n = 8 - x ∧ x ≤ 8 ∧ st.tm 1 = .pt (.s 1) 0 ∧ st.hp (.s 1) = some (.row 1 [[ksl p]]) ∧ st.tm 4 = iv i ∧ st.tm 3 = .hs (.s 3) 1 0 T.length ∧ IsTab st.hp (.s 3) T ∧ st.tm 6 = .hs (.s 6) 1 0 (k.rd ++ k.bd).length ∧ st.hp (.s 6) = some (.row 1 (irows (k.rd ++ k.bd))) ∧ st.tm 7 = iv x ∧
      ∃ R : List Int, R = (List.range x).map (fun x : Nat => if (x : Int) ∈ k.rd ++ k.bd then owner p i (x : Int) else -2) ∧ R.length = x ∧ st.tm 5 = .hs (.s 5) 1 0 R.length ∧ st.hp (.s 5) = some (.row 1 (irows R))) 8 ?_ ?_
    · refine ⟨0, by omega, by omega, by simp [h1], by simp [hp1], by simp [h4], by simp [h3], ⟨by simp [hp3], fun j r hj => by simp [hpr j r hj]⟩, by simp, by simp, by simp, [], rfl, rfl, by simp, by simp⟩
    clear h1 hp1 h4 h3 hp3 hpr
    rintro n st - - ⟨x, rfl, hx, h1, hp1, h4, h3, ⟨hp3, hpr⟩, h6, hp6, h7, R, hR, hRl, h5, hp5⟩
    have fx := And.intro h1 <| And.intro hp1 <| And.intro h4 <| And.intro h6 <| And.intro hp6 <| h7
    refine k_run ?_
    repeat ((first | refine wSc (id := 6) qsGk0 mixed ?_); refine k_rund ?_; refine k_run ?_)
    clear fx
    refine w_if (by simp []; first | done | rfl | exact (Bool.not_not _).symm) (fun ht => ?_) (fun hf => ?_)
    · have hx7 : (x : Int) ≤ 7 := by simpa using ht
      clear ht
      all_goals have fx := And.intro h1 <| And.intro hp1 <| And.intro h4 <| And.intro h6 <| And.intro hp6 <| And.intro h7 <| And.intro h5 <| And.intro hp5 <| hk
      repeat' (first
       | refine w_seq ?_ | refine w_block ?_ | refine w_skip ?_ | refine w_reg fun K hK => ?_
       | ((with_reducible refine s_end hK ?_); clear hK K)
       | (with_reducible first | refine then_normal ?_ | refine in_normal ?_ | refine then_exit ?_ | refine in_exit ?_ | refine then_ret ?_ | refine in_ret ?_ | refine s_nil ?_ | refine in_other (by decide) ?_)
       | refine w_exit ?_
       | refine w_ret ?_
       | (with_reducible first | refine s_none ?_ | refine x_assign (h := ?_) | refine x_box (h := ?_) | refine x_append0 (T := 41) (h := ?_) | refine x_append (T := 41) (h := ?_) | refine x_append0 (T := 38) (h := ?_) | refine x_appendC (T := 38) (h := ?_) | refine x_build (h := ?_))
       | ((with_reducible refine o_id 112 rfl ?_); refine x_call (hF := has_fn _ _ _ (by simp; omega)) (h := ?_))
       | ((with_reducible refine o_id 122 rfl ?_); refine x_call (hF := owner_fn _ p i k _ hk hs hh) (h := ?_))
       | (with_reducible refine x_q (h := ?_))
       | refine x_condt (h1 := ?_) | refine x_condf (h1 := ?_)
       | (refine wSc (id := 6) qsGk0 mixed fun K hK => ?_)
       | ((with_reducible refine a_end hK ?_); clear hK K)
       | ((with_reducible refine a_id ?_); first | refine xa_q (h := ?_) | refine xa_qt (h := ?_) | refine xa_qf (h := ?_) | refine xa_qu (h := ?_))
       | ((with_reducible refine a_id ?_); refine xa_gq (h1 := fun ht => ?_) (h2 := fun ht => ?_))
       | refine a_l rfl ?_ | refine a_l2 ?_ ?_ | (with_reducible refine And.intro ?_ ?_) | exact st_nil | refine xa_st (h2 := ?_)
       | refine x_if (h1 := fun ht => ?_) (h2 := fun ht => ?_)
       | fail)
      all_goals try clear fx
      all_goals simp at ht
      all_goals refine ⟨8 - (x + 1), by omega, x + 1, rfl, by omega, by simp [h1], by simp [hp1], by simp [h4], by simp [h3], ⟨by simp [hp3], fun j r hj => by simp [hpr j r hj]⟩, by simp [h6], by simp [hp6], by simp; exact wrp (by omega) (by omega), R ++ [if (x : Int) ∈ k.rd ++ k.bd then owner p i (x : Int) else -2], by rw [List.range_succ, List.map_append, ← hR]; rfl, by simp [hRl], by simp, by simp [ht]⟩
    · have hge : x = 8 := by
        have : ¬ (x : Int) ≤ 7 := by simpa using hf
        omega
      subst hge
      have hrow : ownersAt p i = R := by rw [hR]; simp only [ownersAt, hk, ownersRow]
      have fx := And.intro h1 <| And.intro hp1 <| And.intro h4 <| And.intro h3 <| And.intro hp3 <| And.intro h5 <| hp5
      refine k_run ?_
      repeat ((first | refine wSc (id := 6) qsGk0 mixed ?_); refine k_rund ?_; refine k_run ?_)
      clear fx
      refine ⟨p.length - (i + 1), by omega, i + 1, rfl, by omega, by simp [h1], by simp [hp1], by simp [h4]; exact wrp (by omega) (by omega), T ++ [R], by rw [List.range_succ, List.map_append, hT]; simp [hrow], by simp [hTl], by simp, ⟨?_, ?_⟩⟩
      · simp [tabRows_app]
      · intro j r hj
        rcases Nat.lt_or_ge j T.length with hlj | hgj
        · rw [List.getElem?_append_left hlj] at hj
          have hne : ¬ j = T.length := by omega
          simp [hpr j r hj, hne]
        · rw [List.getElem?_append_right hgj] at hj
          obtain rfl : j = T.length := by
            have := (gS hj).1
            simp at this
            omega
          simp at hj
          subst hj
          simp [hp5]
  · have hge : i = p.length := by
      have : ¬ i < p.length := by simpa using hf
      omega
    have hTo : T = ownersOf p := by rw [hT, hge]; rfl
    subst hTo
    have fx := And.intro h3 <| hp3
    refine k_run ?_
    repeat ((first | refine wSc (id := 6) qsGk0 mixed ?_); refine k_rund ?_; refine k_run ?_)
    clear fx
    exact e_tab (t := 2) (by simp) ⟨by simp [hp3], fun j r hj => by simp [hpr j r hj]⟩
def formAV (s : Stm) : AV :=
  if s.kind = 0 then .ifc 182 (.agg [iv s.a]) else if s.kind = 1 then .ifc 184 (.agg [iv s.a]) else if s.kind = 2 then .ifc 186 (.agg [iv s.a, iv s.b])
  else if s.kind = 3 then .ifc 157 (.agg [iv 1, iv s.a]) else if s.kind = 4 then .ifc 157 (.agg [iv 2, iv s.a]) else if s.kind = 5 then .ifc 188 (.agg [iv s.a, iv s.b])
  else if s.kind = 6 then .ifc 190 (.agg [iv s.a, iv s.b]) else if s.kind = 7 then .ifc 192 (.agg [iv s.a]) else if s.kind = 8 then .ifc 193 (.agg [iv s.a])
  else if s.kind = 9 ∨ s.kind = 10 then .ifc 195 (.agg []) else if s.kind = 11 then .ifc 196 (.agg []) else .sc .nilIface
@[simp] theorem formAV_cln (s : Stm) : (formAV s).cln = true := by
  unfold formAV
  repeat' split
  all_goals simp
section
variable {n : Int} {to a b : Int}
@[simp] theorem formAV_0 : formAV ⟨0, to, a, b⟩ = .ifc 182 (.agg [iv a]) := by simp [formAV]
@[simp] theorem formAV_1 : formAV ⟨1, to, a, b⟩ = .ifc 184 (.agg [iv a]) := by simp [formAV]
@[simp] theorem formAV_2 : formAV ⟨2, to, a, b⟩ = .ifc 186 (.agg [iv a, iv b]) := by simp [formAV]
@[simp] theorem formAV_3 : formAV ⟨3, to, a, b⟩ = .ifc 157 (.agg [iv 1, iv a]) := by simp [formAV]
@[simp] theorem formAV_4 : formAV ⟨4, to, a, b⟩ = .ifc 157 (.agg [iv 2, iv a]) := by simp [formAV]
@[simp] theorem formAV_5 : formAV ⟨5, to, a, b⟩ = .ifc 188 (.agg [iv a, iv b]) := by simp [formAV]
@[simp] theorem formAV_6 : formAV ⟨6, to, a, b⟩ = .ifc 190 (.agg [iv a, iv b]) := by simp [formAV]
@[simp] theorem formAV_7 : formAV ⟨7, to, a, b⟩ = .ifc 192 (.agg [iv a]) := by simp [formAV]
@[simp] theorem formAV_8 : formAV ⟨8, to, a, b⟩ = .ifc 193 (.agg [iv a]) := by simp [formAV]
@[simp] theorem formAV_9 : formAV ⟨9, to, a, b⟩ = .ifc 195 (.agg []) := by simp [formAV]
@[simp] theorem formAV_10 : formAV ⟨10, to, a, b⟩ = .ifc 195 (.agg []) := by simp [formAV]
@[simp] theorem formAV_11 : formAV ⟨11, to, a, b⟩ = .ifc 196 (.agg []) := by simp [formAV]
theorem formAV_no {s : Stm} (h : ¬ (0 ≤ s.kind ∧ s.kind ≤ 11)) : formAV s = .sc .nilIface := by
  unfold formAV
  repeat' split
  all_goals first | rfl | omega
theorem kind_cases (n : Int) : n = 0 ∨ n = 1 ∨ n = 2 ∨ n = 3 ∨ n = 4 ∨ n = 5 ∨ n = 6 ∨ n = 7 ∨ n = 8 ∨ n = 9 ∨ n = 10 ∨ n = 11 ∨ ¬ (0 ≤ n ∧ n ≤ 11) := by omega
end
theorem formOf_fn (gl) (s : Stm) : FnOk Tryz.prog gl 129 [s.av] (fun _ x _ => x = formAV s) := by
  refine FnOk.of_sem Tryz.func129 rfl (by kernel_rfl) (rs := [.tmp 2]) rfl Tryz.ntmps129 (Nat.le_of_ble_eq_true rfl) fun C w g root => ?_
  all_goals have fx := fx0
  repeat' (first
   | refine w_seq ?_ | refine w_block ?_ | refine w_skip ?_ | refine w_reg fun K hK => ?_
   | ((with_reducible refine s_end hK ?_); clear hK K)
   | (with_reducible first | refine then_normal ?_ | refine then_ret ?_ | refine in_ret ?_)
   | refine w_ret ?_
   | (with_reducible first | refine s_none ?_ | refine x_assign (h := ?_) | refine x_box (h := ?_))
   | (with_reducible refine x_q (h := ?_))
   | refine x_condt (h1 := ?_)
   | refine x_if (h1 := fun ht => ?_) (h2 := fun ht => ?_)
   | fail)
  all_goals try clear fx
  all_goals refine e_ret [] .nil (by simp; rfl) ?_
  all_goals simp_all [formAV]
theorem binds_fn (gl) (s : Stm) : FnOk Tryz.prog gl 165 [s.av] (fun _ x _ => x = bv (decide (s.sets ∨ s.kind = 11))) := by
  obtain ⟨n, to, a, b⟩ := s
  refine FnOk.of_sem Tryz.func165 rfl (by kernel_rfl) (rs := [.tmp 2]) rfl Tryz.ntmps165 (Nat.le_of_ble_eq_true rfl) fun C w g root => ?_
  rcases kind_cases n with rfl | rfl | rfl | rfl | rfl | rfl | rfl | rfl | rfl | rfl | rfl | rfl | hn
  case inr.inr.inr.inr.inr.inr.inr.inr.inr.inr.inr.inr =>
    have hf : formAV ⟨n, to, a, b⟩ = .sc .nilIface := formAV_no hn
    have fx :=  hf
    have c1 := formOf_fn gl ⟨n, to, a, b⟩
    refine k_run ?_
    clear fx c1
    refine e_ret [] .nil (by simp; rfl) ?_
    have h1 : ¬ (0 ≤ n ∧ n ≤ 6 ∨ n = 11) := by omega
    simp [h1]
  all_goals
    all_goals have fx := fx0
    repeat' (first
     | refine w_seq ?_ | refine w_block ?_ | refine w_skip ?_ | refine w_reg fun K hK => ?_
     | ((with_reducible refine s_end hK ?_); clear hK K)
     | (with_reducible first | refine then_normal ?_ | refine in_normal ?_ | refine then_ret ?_ | refine in_ret ?_)
     | refine w_ret ?_
     | (with_reducible first | refine s_none ?_ | refine x_assign (h := ?_) | refine x_box (h := ?_))
     | ((with_reducible refine o_id 129 rfl ?_); refine x_call (hF := formOf_fn _ ⟨_, to, a, b⟩) (h := ?_))
     | (with_reducible refine x_q (h := ?_))
     | refine x_condt (h1 := ?_) | refine x_condf (h1 := ?_)
     | fail)
    all_goals try clear fx
  all_goals refine e_ret [] .nil (by simp; rfl) ?_
  all_goals simp
theorem isDeclaration_fn (gl) (s : Stm) : FnOk Tryz.prog gl 119 [s.av] (fun _ x _ => x = bv (decide (s.kind = 9 ∨ s.kind = 10))) := by
  refine FnOk.of_sem Tryz.func119 rfl (by kernel_rfl) (rs := [.tmp 2]) rfl Tryz.ntmps119 (Nat.le_of_ble_eq_true rfl) fun C w g root => ?_
  all_goals have fx := fx0
  repeat' (first
   | refine w_seq ?_ | refine w_reg fun K hK => ?_
   | ((with_reducible refine s_end hK ?_); clear hK K)
   | (with_reducible first | refine then_normal ?_)
   | refine w_ret ?_
   | (with_reducible refine s_none ?_)
   | ((with_reducible refine g_id ?_); refine x_guard (h := ?_))
   | (with_reducible first | refine gx_ff ?_ | refine x_ft (h := ?_) | refine x_assign (h := ?_) | refine x_box (h := ?_))
   | (with_reducible refine x_q (h := ?_))
   | (with_reducible refine gx_s (fun ht => ?_) (fun ht => ?_))
   | fail)
  all_goals try clear fx
  all_goals refine e_ret [] .nil (by simp; rfl) ?_
  all_goals simp_all [Bool.beq_eq_decide_eq]
theorem impl_isBlock_fn (gl) (p : Prg) (b : Int) : FnOk Tryz.prog gl 82 [pav p, iv b] (fun _ x _ => x = bv (decide (0 ≤ b ∧ b < p.length))) := by
  refine FnOk.of_sem Tryz.func82 rfl (by kernel_rfl) (rs := [.tmp 4]) rfl Tryz.ntmps82 (Nat.le_of_ble_eq_true rfl) fun C w g root => ?_
  all_goals have fx := fx0
  repeat' (first
   | refine w_seq ?_ | refine w_reg fun K hK => ?_
   | ((with_reducible refine s_end hK ?_); clear hK K)
   | (with_reducible first | refine then_normal ?_)
   | refine w_ret ?_
   | (with_reducible refine s_none ?_)
   | ((with_reducible refine g_id ?_); refine x_guard (h := ?_))
   | (with_reducible first | refine gx_tt ?_ | refine x_tf (h := ?_) | refine x_assign (h := ?_) | refine x_box (h := ?_))
   | (with_reducible refine x_q (h := ?_))
   | (with_reducible refine gx_s (fun ht => ?_) (fun ht => ?_))
   | fail)
  all_goals try clear fx
  all_goals refine e_ret [] .nil (by simp; rfl) ?_
  all_goals simp_all
  all_goals omega
theorem fitsHead_fn (gl) (i : Nat) (k : Blk) : FnOk Tryz.prog gl 127 [iv i, k.av] (fun _ x _ => x = bv (headOk i k)) := by
  obtain ⟨kind, parent, params, body⟩ := k
  refine FnOk.of_sem Tryz.func127 rfl (by kernel_rfl) (rs := [.tmp 4]) rfl Tryz.ntmps127 (Nat.le_of_ble_eq_true rfl) fun C w g root => ?_
  rcases params with _ | ⟨x, _ | ⟨y, l⟩⟩
  · skip
    all_goals have fx := fx0
    repeat' (first
     | refine w_seq ?_ | refine w_block ?_ | refine w_skip ?_ | refine w_reg fun K hK => ?_
     | ((with_reducible refine s_end hK ?_); clear hK K)
     | (with_reducible first | refine then_normal ?_ | refine then_ret ?_ | refine in_ret ?_)
     | refine w_ret ?_
     | (with_reducible refine s_none ?_)
     | ((with_reducible refine g_id ?_); refine x_guard (h := ?_))
     | (with_reducible first | refine gx_tt ?_ | refine gx_ff ?_ | refine x_tf (h := ?_) | refine x_ft (h := ?_) | refine x_u (h := ?_) | refine x_assign (h := ?_) | refine x_box (h := ?_))
     | (with_reducible refine x_q (h := ?_))
     | (with_reducible refine gx_s (fun ht => ?_) (fun ht => ?_))
     | refine x_condt (h1 := ?_)
     | refine x_if (h1 := fun ht => ?_) (h2 := fun ht => ?_)
     | fail)
    all_goals try clear fx
    all_goals refine e_ret [] .nil (by simp; rfl) ?_
    all_goals simp_all [headOk, HeadOk]
    all_goals grind
  · skip
    all_goals have fx := fx0
    repeat' (first
     | refine w_seq ?_ | refine w_block ?_ | refine w_skip ?_ | refine w_reg fun K hK => ?_
     | ((with_reducible refine s_end hK ?_); clear hK K)
     | (with_reducible first | refine then_normal ?_ | refine then_ret ?_ | refine in_ret ?_)
     | refine w_ret ?_
     | (with_reducible refine s_none ?_)
     | ((with_reducible refine g_id ?_); refine x_guard (h := ?_))
     | (with_reducible first | refine gx_tt ?_ | refine gx_ff ?_ | refine x_tf (h := ?_) | refine x_ft (h := ?_) | refine x_assign (h := ?_) | refine x_box (h := ?_))
     | ((with_reducible refine o_id 85 rfl ?_); refine x_call (hF := impl_isName_fn _ x) (h := ?_))
     | (with_reducible refine x_q (h := ?_))
     | (with_reducible refine gx_s (fun ht => ?_) (fun ht => ?_))
     | refine x_condt (h1 := ?_)
     | refine x_if (h1 := fun ht => ?_) (h2 := fun ht => ?_)
     | fail)
    all_goals try clear fx
    all_goals refine e_ret [] .nil (by simp; rfl) ?_
    all_goals simp_all [headOk, HeadOk]
    all_goals grind
  · have h1 : ((l.length : Int) + 1 + 1 == 1) = false := by simp; omega
    have h0 : ((l.length : Int) + 1 + 1 == 0) = false := by simp; omega
    all_goals have fx := And.intro h0 <| h1
    repeat' (first
     | refine w_seq ?_ | refine w_block ?_ | refine w_skip ?_ | refine w_reg fun K hK => ?_
     | ((with_reducible refine s_end hK ?_); clear hK K)
     | (with_reducible first | refine then_normal ?_ | refine then_ret ?_ | refine in_ret ?_)
     | refine w_ret ?_
     | (with_reducible refine s_none ?_)
     | ((with_reducible refine g_id ?_); refine x_guard (h := ?_))
     | (with_reducible first | refine gx_tt ?_ | refine gx_ff ?_ | refine x_tf (h := ?_) | refine x_ft (h := ?_) | refine x_assign (h := ?_) | refine x_box (h := ?_))
     | (with_reducible refine x_q (h := ?_))
     | (with_reducible refine gx_s (fun ht => ?_) (fun ht => ?_))
     | refine x_condt (h1 := ?_)
     | refine x_if (h1 := fun ht => ?_) (h2 := fun ht => ?_)
     | fail)
    all_goals try clear fx
    all_goals refine e_ret [] .nil (by simp; rfl) ?_
    all_goals simp_all [headOk, HeadOk]
    all_goals grind
end Go.Proofs.YtcbkblboonkfhaaGreat
end
