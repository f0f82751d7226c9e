/-
  Own texts, joined by mkclaim.py: Rd, Re, Rf, Ura, Xe.
-/
import Derived.Test.YtmaoicgfcngciaaDoorQ22
import Derived.Test.YtmaoicgfcngciaaDoorQ10
import Derived.Test.YtmaoicgfcngciaaDoorQ11
import Derived.Test.YtmaoicgfcngciaaDoorQ17
import Derived.Test.YtmaoicgfcngciaaDoorQ18
import Derived.Test.YtmaoicgfcngciaaDoorQ14
import Derived.Test.YtmaoicgfcngciaaDoorQ19
import Derived.Test.YtmaoicgfcngciaaDoorQ20
set_option linter.unusedSimpArgs false
set_option linter.unusedVariables false
set_option maxRecDepth 100000
set_option maxHeartbeats 4000000

section
namespace Go.Proofs.YtmaoicgfcngciaaDoor
open Go Go.Hm Go.Proofs
abbrev qsRd0 : Sch := .q 0 <| .q 1 <| .q 2 <| .q 3 <| .q 4 <| .l 5 [3, 2, 1, 0] <| .l 6 [2, 1, 0] <| .q 7 <| .q 8 <| .l 9 [7] <| .done
abbrev qsRd1 : Sch := .q 0 <| .q 1 <| .q 2 <| .q 3 <| .q 4 <| .q 5 <| .q 6 <| .q 7 <| .q 8 <| .q 9 <| .q 12 <| .l 10 [12, 9, 8, 7, 6, 5, 4, 3, 2, 1, 0] <| .l 11 [12, 8, 7, 6, 5, 4, 3, 2, 1, 0] <| .q 13 <| .l 14 [12, 8, 7, 6, 5, 4, 3, 2, 1, 0] <| .l 15 [12, 7, 6, 5, 4, 3, 2, 1, 0] <| .q 16 <| .q 17 <| .l 18 [16] <| .done
abbrev qsRd2 : Sch := .q 0 <| .q 1 <| .q 2 <| .q 3 <| .q 4 <| .q 5 <| .q 6 <| .q 7 <| .q 8 <| .q 9 <| .l 10 [9, 8, 7, 6, 5, 4, 3, 2, 1, 0] <| .l 11 [8, 7, 6, 5, 4, 3, 2, 1, 0] <| .q 12 <| .l 13 [8, 7, 6, 5, 4, 3, 2, 1, 0] <| .l 14 [7, 6, 5, 4, 3, 2, 1, 0] <| .q 15 <| .q 16 <| .l 17 [15] <| .done
abbrev qsRd3 : Sch := .q 0 <| .q 1 <| .q 2 <| .q 3 <| .l 4 [3, 2, 1, 0] <| .l 5 [2, 1, 0] <| .l 6 [2, 1, 0] <| .q 7 <| .q 8 <| .l 9 [7] <| .done
theorem anyProgram_fn (gl) (H : Nm → Option AO) (bs : List Int) (pos : Nat) (hb : BytesOk bs) (hpos : pos ≤ 600000) (hH : H (.u 1 0 0) = some (rdO bs pos)) (hV : H (.u 2 0 0) = none) (hV4 : H (.u 4 0 0) = none) (hV5 : H (.u 5 0 0) = none) :
    FnE Tryd.prog gl 49 (Nm.under (.u 1 0 0)) [.pt (.u 1 0 0) 0] H (PrgPost bs (fun p pos' => Sml p ∧ (1 ≤ p.length ∧ p.length ≤ 8) ∧ pos' ≤ pos + 3000)) noE := by
  refine FnE.of_sem Tryd.func49 rfl (by kernel_rfl) (rs := [.cell 2 29]) rfl Tryd.ntmps49 (Nat.le_of_ble_eq_true rfl) (fun _ => under_usroot rfl) fun C w g root hroot => ?_
  have hr0 := hroot root (Nm.under_self _)
  have fx := fx0
  refine k_run ?_
  repeat ((first | refine wSc (id := 7) qsRd0 mixed ?_ | refine wSc (id := 9) qsRd1 mixed ?_ | refine wSc (id := 11) qsRd2 mixed ?_ | refine wSc (id := 13) qsRd3 mixed ?_); refine k_rund ?_; refine k_run ?_)
  clear fx
  first | show SemOp _ _ _ _ _ | intro K hK
  refine x_rdo (bs := bs) (hs := by simp [hH]) (ha := by first | (simp; done) | (simp; rfl)) (hF := goodProgram_fn _ _ bs pos hb (by omega) (by simp [hH]) (by simp) (by simp) (by simp)) (h := ?_)
  rintro z H1 ⟨p, q, rfl, ⟨ho1, ho2, ho3⟩, ⟨hg, hq⟩, hU⟩
  refine ⟨q, hU, ?_⟩
  have hgl := hg.len
  have hs := hg.sml
  have fx :=  ho1
  refine k_run ?_
  repeat ((first | refine wSc (id := 7) qsRd0 mixed ?_ | refine wSc (id := 9) qsRd1 mixed ?_ | refine wSc (id := 11) qsRd2 mixed ?_ | refine wSc (id := 13) qsRd3 mixed ?_); refine k_rund ?_; refine k_run ?_)
  clear fx
  first | show SemOp _ _ _ _ _ | intro K hK
  refine x_rd (hs := by simp) (ha := by first | (simp; done) | (simp; rfl)) (hF := pick_rd _ _ bs q p.length hb (by omega) (by omega) (by simp)) (h := ?_)
  rintro x px ⟨hx, rfl⟩
  have hxl : x < p.length := by omega
  have fx := fx0
  refine k_run ?_
  repeat ((first | refine wSc (id := 7) qsRd0 mixed ?_ | refine wSc (id := 9) qsRd1 mixed ?_ | refine wSc (id := 11) qsRd2 mixed ?_ | refine wSc (id := 13) qsRd3 mixed ?_); refine k_rund ?_; refine k_run ?_)
  clear fx
  first | show SemOp _ _ _ _ _ | intro K hK
  refine x_rd (hs := by simp) (ha := by first | (simp; done) | (simp; rfl)) (hF := pick_rd _ _ bs (q + 1) 24 hb (by omega) (by omega) (by simp)) (h := ?_)
  rintro y py ⟨hy, rfl⟩
  have hy24 : y < 24 := by omega
  refine s_abs (fun st => st.tm 0 = .pt (.u 1 0 0) 0 ∧ st.hp (.u 1 0 0) = some (rdO bs (q + 1 + 1)) ∧ st.tm 2 = .pt (.s 2) 0 ∧ st.hp (.s 2) = some (.row 1 [[.hs (.c (.s 2) 0 0) 4 0 0]]) ∧ st.hp (.c (.s 2) 0 0) = some (.row 4 []) ∧ st.tm 3 = .pt (.s 3) 0 ∧ st.hp (.s 3) = some (.row 1 [[.hs (.c (.s 3) 0 0) 4 0 p.length]]) ∧ OwnP st.hp (.c (.s 3) 0 0) p ∧ st.tm 4 = iv x ∧ st.tm 13 = iv y)
    ⟨by simp, by simp, by simp, by simp, by simp, by simp, by simp, ⟨by simp [ho1], fun j r hj => by simp [ho2 j r hj], fun j r hj => by simp [ho3 j r hj]⟩, by simp, by simp⟩ ?_
  clear ho1 ho2 ho3 hU
  rintro st ⟨h0, hU, h2, hp2, hp2', h3, hp3, ⟨ho1, ho2, ho3⟩, h4, h13⟩
  obtain ⟨k, hk⟩ : ∃ k, p[x]? = some k := ⟨_, gE hxl⟩
  obtain ⟨_, hkE⟩ := gS hk
  have hkp := hg.params k (List.mem_of_getElem? hk)
  have hkb := hg.body k (List.mem_of_getElem? hk)
  have hob := ho3 x k hk
  have hyc : y = 0 ∨ y = 1 ∨ y = 2 ∨ y = 3 ∨ y = 4 ∨ 5 ≤ y := by omega
  clear hy hx
  rcases hyc with rfl | rfl | rfl | rfl | rfl | hy5
  · skip
    have fx := And.intro h0 <| h13
    refine k_run ?_
    repeat ((first | refine wSc (id := 7) qsRd0 mixed ?_ | refine wSc (id := 9) qsRd1 mixed ?_ | refine wSc (id := 11) qsRd2 mixed ?_ | refine wSc (id := 13) qsRd3 mixed ?_); refine k_rund ?_; refine k_run ?_)
    clear fx
    first | show SemOp _ _ _ _ _ | intro K hK
    refine x_rdo (bs := bs) (hs := by simp [hU]) (ha := by first | (simp [h0]; done) | (simp [h0]; rfl)) (hF := shapedProgram_fn _ _ bs (q + 1 + 1) hb (by omega) (by simp [hU]) (by simp) (by simp) (by simp)) (h := ?_)
    rintro z H2 ⟨p2, q2, rfl, ⟨hc1, hc2, hc3⟩, ⟨hg2, hq2⟩, hU2⟩
    refine ⟨q2, hU2, ?_⟩
    have fx := And.intro h2 <| And.intro hp2 <| And.intro hp2' <| hc1
    refine k_run ?_
    repeat ((first | refine wSc (id := 7) qsRd0 mixed ?_ | refine wSc (id := 9) qsRd1 mixed ?_ | refine wSc (id := 11) qsRd2 mixed ?_ | refine wSc (id := 13) qsRd3 mixed ?_); refine k_rund ?_; refine k_run ?_)
    clear fx
    refine e_ret [(.c (.s 2) 0 0, root)] (.one rfl) (by simp [h2]; rfl) ⟨p2, q2, by simp, ⟨?_, fun j r hj => ?_, fun j r hj => ?_⟩, ⟨hg2.sml, hg2.len, by omega⟩, by simp⟩
    · simp [hc1, hr0, pRows_tr (n := .c (.s 2) 0 0) (m := root) (f := finf (Nm.under (.u 1 0 0)) [(.c (.s 2) 0 0, root)]) (p := p2) (by simp [hr0])]
    · simp [hc2 j r hj, hr0]
    · simp [hc3 j r hj, hr0]
  · skip
    have fx := And.intro h0 <| And.intro h13 <| And.intro h3 <| And.intro hp3 <| And.intro h4 <| And.intro ho1 <| And.intro hxl <| And.intro hk <| And.intro hkE <| hob
    refine k_run ?_
    repeat ((first | refine wSc (id := 7) qsRd0 mixed ?_ | refine wSc (id := 9) qsRd1 mixed ?_ | refine wSc (id := 11) qsRd2 mixed ?_ | refine wSc (id := 13) qsRd3 mixed ?_); refine k_rund ?_; refine k_run ?_)
    clear fx
    first | show SemOp _ _ _ _ _ | intro K hK
    refine x_one (oneOk _) 25 [-2, (x : Int), 7] (bs := bs) (pos := q + 1 + 1) hb (by omega) (hV := hV) (h0 := by simp [h0]) (h1 := by simp) (hH := by simp [hU]) (hL := by simp [irows]) (h := ?_)
    intro v hv
    have hset := pRows_setPar (n := .c (.s 3) 0 0) (v := v) hk
    have fx := And.intro h0 <| And.intro h13 <| And.intro h3 <| And.intro hp3 <| And.intro h4 <| And.intro ho1 <| And.intro hxl <| And.intro hk <| And.intro hkE <| And.intro hob <| And.intro hset <| And.intro h2 <| And.intro hp2 <| hp2'
    refine k_run ?_
    repeat ((first | refine wSc (id := 7) qsRd0 mixed ?_ | refine wSc (id := 9) qsRd1 mixed ?_ | refine wSc (id := 11) qsRd2 mixed ?_ | refine wSc (id := 13) qsRd3 mixed ?_); refine k_rund ?_; refine k_run ?_)
    clear fx
    refine e_ret [(.c (.s 3) 0 0, root)] (.one rfl) (by simp [h2]; rfl) ⟨p.set x { k with parent := v }, q + 1 + 1 + 1, by simp, ⟨?_, fun j r hj => ?_, fun j r hj => ?_⟩, ⟨hs.set (by show k.params.length ≤ _; omega) (by show k.body.length ≤ _; omega), by simp; omega, by omega⟩, by simp⟩
    · simp [hset, hr0, pRows_tr (n := .c (.s 3) 0 0) (m := root) (f := finf (Nm.under (.u 1 0 0)) [(.c (.s 3) 0 0, root)]) (p := p.set x { k with parent := v }) (by simp [hr0])]
    all_goals
      rw [List.getElem?_set] at hj
      by_cases e : x = j
      · subst e
        rw [if_pos rfl, if_pos hxl] at hj
        obtain rfl := Option.some.inj hj
        simp [ho2 x k hk, ho3 x k hk, hr0]
      · rw [if_neg e] at hj
        simp [ho2 j r hj, ho3 j r hj, hr0, e, show ¬ j = x from fun h => e h.symm]
  · skip
    have fx := And.intro h0 <| And.intro h13 <| And.intro h3 <| And.intro hp3 <| And.intro h4 <| And.intro ho1 <| And.intro hxl <| And.intro hk <| And.intro hkE <| hob
    refine k_run ?_
    repeat ((first | refine wSc (id := 7) qsRd0 mixed ?_ | refine wSc (id := 9) qsRd1 mixed ?_ | refine wSc (id := 11) qsRd2 mixed ?_ | refine wSc (id := 13) qsRd3 mixed ?_); refine k_rund ?_; refine k_run ?_)
    clear fx
    first | show SemOp _ _ _ _ _ | intro K hK
    refine x_one (oneOk _) 41 [-1, 12, 3] (bs := bs) (pos := q + 1 + 1) hb (by omega) (hV := hV) (h0 := by simp [h0]) (h1 := by simp) (hH := by simp [hU]) (hL := by simp [irows]) (h := ?_)
    intro v hv
    have hset := pRows_set (n := .c (.s 3) 0 0) (a := 46) (i := x) (len := k.body.length + 1) (p := p) (L := k.body ++ [⟨v, 0, x, 0⟩]) (by simp) (by simp) (by simp)
    have fx := And.intro h0 <| And.intro h13 <| And.intro h3 <| And.intro hp3 <| And.intro h4 <| And.intro ho1 <| And.intro hxl <| And.intro hk <| And.intro hkE <| And.intro hob <| And.intro hset <| And.intro h2 <| And.intro hp2 <| hp2'
    refine k_run ?_
    repeat ((first | refine wSc (id := 7) qsRd0 mixed ?_ | refine wSc (id := 9) qsRd1 mixed ?_ | refine wSc (id := 11) qsRd2 mixed ?_ | refine wSc (id := 13) qsRd3 mixed ?_); refine k_rund ?_; refine k_run ?_)
    clear fx
    refine e_ret [(.c (.s 3) 0 0, root)] (.one rfl) (by simp [h2]; rfl) ⟨setBody p x (k.body ++ [⟨v, 0, x, 0⟩]), q + 1 + 1 + 1, by simp, ⟨?_, fun j r hj => ?_, fun j r hj => ?_⟩, ⟨setBody_sml hs (by simp; omega), by simp; omega, by omega⟩, by simp⟩
    · simp [hset, hr0, pRows_tr (n := .c (.s 3) 0 0) (m := root) (f := finf (Nm.under (.u 1 0 0)) [(.c (.s 3) 0 0, root)]) (p := setBody p x (k.body ++ [⟨v, 0, x, 0⟩])) (by simp [hr0])]
    all_goals
      have hjl : j < p.length := by
        have := (gS hj).1
        rwa [setBody_len] at this
      obtain ⟨r0, hr0'⟩ : ∃ r0, p[j]? = some r0 := ⟨_, gE hjl⟩
      rw [setBody_get hr0'] at hj
      obtain rfl := Option.some.inj hj
      by_cases e : x = j
      · subst e
        rw [hk] at hr0'
        obtain rfl := Option.some.inj hr0'
        simp [ho2 x k hk, hob, hr0]
      · simp [ho2 j r0 hr0', ho3 j r0 hr0', hr0, e, show ¬ j = x from fun h => e h.symm]
  · skip
    have fx := And.intro h0 <| And.intro h13 <| And.intro h3 <| And.intro hp3 <| And.intro h4 <| And.intro ho1 <| And.intro hxl <| And.intro hk <| And.intro hkE <| hob
    refine k_run ?_
    repeat ((first | refine wSc (id := 7) qsRd0 mixed ?_ | refine wSc (id := 9) qsRd1 mixed ?_ | refine wSc (id := 11) qsRd2 mixed ?_ | refine wSc (id := 13) qsRd3 mixed ?_); refine k_rund ?_; refine k_run ?_)
    clear fx
    first | show SemOp _ _ _ _ _ | intro K hK
    refine x_one (oneOk _) 61 [8, -1] (bs := bs) (pos := q + 1 + 1) hb (by omega) (hV := hV) (h0 := by simp [h0]) (h1 := by simp) (hH := by simp [hU]) (hL := by simp [irows]) (h := ?_)
    intro v hv
    have hset := pRows_set (n := .c (.s 3) 0 0) (a := 65) (i := x) (len := k.body.length + 1) (p := p) (L := k.body ++ [⟨1, v, 0, 0⟩]) (by simp) (by simp) (by simp)
    have fx := And.intro h0 <| And.intro h13 <| And.intro h3 <| And.intro hp3 <| And.intro h4 <| And.intro ho1 <| And.intro hxl <| And.intro hk <| And.intro hkE <| And.intro hob <| And.intro hset <| And.intro h2 <| And.intro hp2 <| hp2'
    refine k_run ?_
    repeat ((first | refine wSc (id := 7) qsRd0 mixed ?_ | refine wSc (id := 9) qsRd1 mixed ?_ | refine wSc (id := 11) qsRd2 mixed ?_ | refine wSc (id := 13) qsRd3 mixed ?_); refine k_rund ?_; refine k_run ?_)
    clear fx
    refine e_ret [(.c (.s 3) 0 0, root)] (.one rfl) (by simp [h2]; rfl) ⟨setBody p x (k.body ++ [⟨1, v, 0, 0⟩]), q + 1 + 1 + 1, by simp, ⟨?_, fun j r hj => ?_, fun j r hj => ?_⟩, ⟨setBody_sml hs (by simp; omega), by simp; omega, by omega⟩, by simp⟩
    · simp [hset, hr0, pRows_tr (n := .c (.s 3) 0 0) (m := root) (f := finf (Nm.under (.u 1 0 0)) [(.c (.s 3) 0 0, root)]) (p := setBody p x (k.body ++ [⟨1, v, 0, 0⟩])) (by simp [hr0])]
    all_goals
      have hjl : j < p.length := by
        have := (gS hj).1
        rwa [setBody_len] at this
      obtain ⟨r0, hr0'⟩ : ∃ r0, p[j]? = some r0 := ⟨_, gE hjl⟩
      rw [setBody_get hr0'] at hj
      obtain rfl := Option.some.inj hj
      by_cases e : x = j
      · subst e
        rw [hk] at hr0'
        obtain rfl := Option.some.inj hr0'
        simp [ho2 x k hk, hob, hr0]
      · simp [ho2 j r0 hr0', ho3 j r0 hr0', hr0, e, show ¬ j = x from fun h => e h.symm]
  · skip
    have fx := And.intro h0 <| And.intro h13 <| And.intro h3 <| And.intro hp3 <| And.intro h4 <| And.intro ho1 <| And.intro hxl <| And.intro hk <| And.intro hkE <| hob
    refine k_run ?_
    repeat ((first | refine wSc (id := 7) qsRd0 mixed ?_ | refine wSc (id := 9) qsRd1 mixed ?_ | refine wSc (id := 11) qsRd2 mixed ?_ | refine wSc (id := 13) qsRd3 mixed ?_); refine k_rund ?_; refine k_run ?_)
    clear fx
    first | show SemOp _ _ _ _ _ | intro K hK
    refine x_one (oneOk _) 74 [8, 1] (bs := bs) (pos := q + 1 + 1) hb (by omega) (hV := hV) (h0 := by simp [h0]) (h1 := by simp) (hH := by simp [hU]) (hL := by simp [irows]) (h := ?_)
    intro v hv
    have hset := pRows_setParams (n := .c (.s 3) 0 0) (a := 76) (len := 2) (L := [v, 2]) hk rfl (by simp) (by simp)
    have fx := And.intro h0 <| And.intro h13 <| And.intro h3 <| And.intro hp3 <| And.intro h4 <| And.intro ho1 <| And.intro hxl <| And.intro hk <| And.intro hkE <| And.intro hob <| And.intro hset <| And.intro h2 <| And.intro hp2 <| hp2'
    refine k_run ?_
    repeat ((first | refine wSc (id := 7) qsRd0 mixed ?_ | refine wSc (id := 9) qsRd1 mixed ?_ | refine wSc (id := 11) qsRd2 mixed ?_ | refine wSc (id := 13) qsRd3 mixed ?_); refine k_rund ?_; refine k_run ?_)
    clear fx
    refine e_ret [(.c (.s 3) 0 0, root)] (.one rfl) (by simp [h2]; rfl) ⟨p.set x { k with params := [v, 2] }, q + 1 + 1 + 1, by simp, ⟨?_, fun j r hj => ?_, fun j r hj => ?_⟩, ⟨hs.set (by show ([v, 2] : List Int).length ≤ _; simp) (by show k.body.length ≤ _; omega), by simp; omega, by omega⟩, by simp⟩
    · simp [hset, hr0, pRows_tr (n := .c (.s 3) 0 0) (m := root) (f := finf (Nm.under (.u 1 0 0)) [(.c (.s 3) 0 0, root)]) (p := p.set x { k with params := [v, 2] }) (by simp [hr0])]
    all_goals
      rw [List.getElem?_set] at hj
      by_cases e : x = j
      · subst e
        rw [if_pos rfl, if_pos hxl] at hj
        obtain rfl := Option.some.inj hj
        simp [ho3 x k hk, irows, hr0]
      · rw [if_neg e] at hj
        simp [ho2 j r hj, ho3 j r hj, hr0, e, show ¬ j = x from fun h => e h.symm]
  · have hy0 : ¬ y = 0 := by omega
    have hy1 : ¬ y = 1 := by omega
    have hy2 : ¬ y = 2 := by omega
    have hy3 : ¬ y = 3 := by omega
    have hy4 : ¬ y = 4 := by omega
    have e0 : ((y : Int) == 0) = false := by rw [beq_eq_false_iff_ne]; omega
    have e1 : ((y : Int) == 1) = false := by rw [beq_eq_false_iff_ne]; omega
    have e2 : ((y : Int) == 2) = false := by rw [beq_eq_false_iff_ne]; omega
    have e3 : ((y : Int) == 3) = false := by rw [beq_eq_false_iff_ne]; omega
    have e4 : ((y : Int) == 4) = false := by rw [beq_eq_false_iff_ne]; omega
    have fx := And.intro h2 <| And.intro hp2 <| And.intro hp2' <| And.intro h3 <| And.intro hp3 <| And.intro h13 <| And.intro hy0 <| And.intro e1 <| And.intro e2 <| And.intro e3 <| e4
    refine k_run ?_
    repeat ((first | refine wSc (id := 7) qsRd0 mixed ?_ | refine wSc (id := 9) qsRd1 mixed ?_ | refine wSc (id := 11) qsRd2 mixed ?_ | refine wSc (id := 13) qsRd3 mixed ?_); refine k_rund ?_; refine k_run ?_)
    clear fx
    refine e_ret [(.c (.s 3) 0 0, root)] (.one rfl) (by simp [h2]; rfl) ⟨p, q + 1 + 1, by simp, ⟨?_, fun j r hj => ?_, fun j r hj => ?_⟩, ⟨hs, hgl, by omega⟩, by simp [hU]⟩
    · simp [ho1, hr0, pRows_tr (n := .c (.s 3) 0 0) (m := root) (f := finf (Nm.under (.u 1 0 0)) [(.c (.s 3) 0 0, root)]) (p := p) (by simp [hr0])]
    · simp [ho2 j r hj, hr0]
    · simp [ho3 j r hj, hr0]
end Go.Proofs.YtmaoicgfcngciaaDoor
end
section
namespace Go.Proofs.YtmaoicgfcngciaaDoor
open Go Go.Hm Go.Proofs
attribute [local simp] slcAV rowsIn
def BlkOfPost (bs : List Int) (m : Nat) : Nm → AV → (Nm → Option AO) → Prop := fun r z H' => ∃ (p : Prg) (b : Int) (pos' : Nat), z = .tup [.agg [.hs r 4 0 p.length], iv b] ∧ OwnP H' r p ∧ Sml p ∧ (1 ≤ p.length ∧ p.length ≤ 8) ∧ pos' ≤ m ∧ H' (.u 1 0 0) = some (rdO bs pos')
theorem blockOf_fn (gl) (H : Nm → Option AO) (bs : List Int) (pos : Nat) (hb : BytesOk bs) (hpos : pos ≤ 500000) (hH : H (.u 1 0 0) = some (rdO bs pos)) (hV : H (.u 2 0 0) = none) (hV4 : H (.u 4 0 0) = none) (hV5 : H (.u 5 0 0) = none) :
    FnE Tryd.prog gl 27 (Nm.under (.u 1 0 0)) [.pt (.u 1 0 0) 0] H (BlkOfPost bs (pos + 4000)) noE := by
  refine FnE.of_sem Tryd.func27 rfl (by kernel_rfl) (rs := [.cell 2 29, .tmp 3]) rfl Tryd.ntmps27 (Nat.le_of_ble_eq_true rfl) (fun _ => under_usroot rfl) fun C w g root hroot => ?_
  have hr0 := hroot root (Nm.under_self _)
  all_goals have fx := fx0
  repeat' (first
   | refine w_seq ?_ | refine w_reg fun K hK => ?_
   | ((with_reducible refine s_end hK ?_); clear hK K)
   | (with_reducible first | refine s_none ?_ | refine x_assign (h := ?_) | refine x_alloc (h := ?_))
   | (with_reducible refine x_q (h := ?_))
   | fail)
  all_goals try clear fx
  refine x_rdo (bs := bs) (hs := by simp [hH]) (ha := by first | (simp; done) | (simp; rfl)) (hF := anyProgram_fn _ _ bs pos hb (by omega) (by simp [hH]) (by simp) (by simp) (by simp)) (h := ?_)
  rintro z H1 ⟨p, q, rfl, ⟨ho1, ho2, ho3⟩, ⟨hs, hpl, hq⟩, hU⟩
  refine ⟨q, hU, ?_⟩
  all_goals have fx :=  ho1
  repeat' (first
   | refine w_seq ?_ | refine w_reg fun K hK => ?_
   | ((with_reducible refine s_end hK ?_); clear hK K)
   | (with_reducible first | refine s_none ?_ | refine x_alloc (h := ?_) | refine x_store0 (h := ?_))
   | (with_reducible refine x_q (h := ?_))
   | fail)
  all_goals try clear fx
  refine x_rd (hs := by simp) (ha := by first | (simp; done) | (simp; rfl)) (hF := pick_rd _ _ bs q 16 hb (by omega) (by omega) (by simp)) (h := ?_)
  rintro x px ⟨hx, rfl⟩
  refine s_abs (fun st => st.tm 0 = .pt (.u 1 0 0) 0 ∧ st.hp (.u 1 0 0) = some (rdO bs (q + 1)) ∧ st.tm 2 = .pt (.s 2) 0 ∧ st.hp (.s 2) = some (.row 1 [[.hs (.c (.s 2) 0 0) 4 0 0]]) ∧ st.hp (.c (.s 2) 0 0) = some (.row 4 []) ∧ st.tm 4 = .pt (.s 4) 0 ∧ st.hp (.s 4) = some (.row 1 [[.hs (.c (.s 4) 0 0) 4 0 p.length]]) ∧ OwnP st.hp (.c (.s 4) 0 0) p ∧ st.tm 8 = iv x)
    ⟨by simp, by simp, by simp, by simp, by simp, by simp, by simp, ⟨by simp [ho1], fun j r hj => by simp [ho2 j r hj], fun j r hj => by simp [ho3 j r hj]⟩, by simp⟩ ?_
  clear ho1 ho2 ho3 hU
  rintro st ⟨h0, hU, h2, hp2, hp2', h4, hp4, ⟨ho1, ho2, ho3⟩, h8⟩
  have hwl : IntKind.i64.wrap ((p.length : Int) - 1) = ((p.length - 1 : Nat) : Int) := by rw [wrp (by omega) (by omega)]; omega
  have hxc : x = 0 ∨ ¬ x = 0 := by omega
  rcases hxc with rfl | hx0
  · skip
    all_goals have fx := And.intro h0 <| And.intro h2 <| And.intro hp2 <| And.intro hp2' <| And.intro h4 <| And.intro hp4 <| h8
    repeat' (first
     | refine w_seq ?_
     | ((with_reducible refine s_end hK ?_); clear hK K)
     | (with_reducible first | refine then_normal ?_ | refine s_nil ?_)
     | (with_reducible first | refine s_none ?_ | refine x_build (h := ?_))
     | (with_reducible refine x_q (h := ?_))
     | refine x_condt (h1 := ?_)
     | (refine wSc (id := 3) (.q 0 <| .q 1 <| .l 2 [1, 0] <| .l 3 [0] <| .l 4 [] <| .l 5 [] <| .done) mixed fun K hK => ?_)
     | ((with_reducible refine a_id ?_); first | refine xa_q (h := ?_))
     | refine a_l rfl ?_ | (with_reducible refine And.intro ?_ ?_) | exact st_nil | refine xa_st (h2 := ?_)
     | fail)
    all_goals try clear fx
    refine x_one (oneOk _) 12 [-1, 7] (bs := bs) (pos := q + 1) hb (by omega) (hV := hV) (h0 := by simp [h0]) (h1 := by simp) (hH := by simp [hU]) (hL := by simp [irows]) (h := ?_)
    intro v hv
    all_goals have fx := And.intro h0 <| And.intro h2 <| And.intro hp2 <| And.intro hp2' <| And.intro h4 <| And.intro hp4 <| h8
    repeat' (first
     | (with_reducible first | refine then_normal ?_ | refine then_ret ?_ | refine s_nil ?_)
     | refine w_ret ?_
     | (with_reducible first | refine s_none ?_ | refine x_assign (h := ?_) | refine x_store0 (h := ?_))
     | ((with_reducible refine a_end hK ?_); clear hK K)
     | refine a_l rfl ?_ | (with_reducible refine And.intro ?_ ?_) | exact st_nil | refine xa_st (h2 := ?_)
     | fail)
    all_goals try clear fx
    refine e_ret [(.c (.s 4) 0 0, root)] (.one rfl) (by simp [h2]; rfl) ⟨p, v, q + 1 + 1, by simp, ⟨?_, fun j r hj => ?_, fun j r hj => ?_⟩, hs, hpl, by omega, by simp⟩
    · simp [ho1, hr0, pRows_tr (n := .c (.s 4) 0 0) (m := root) (f := finf (Nm.under (.u 1 0 0)) [(.c (.s 4) 0 0, root)]) (p := p) (by simp [hr0])]
    · simp [ho2 j r hj, hr0]
    · simp [ho3 j r hj, hr0]
  · skip
    all_goals have fx := And.intro h0 <| And.intro h2 <| And.intro hp2 <| And.intro hp2' <| And.intro h4 <| And.intro hp4 <| And.intro h8 <| And.intro hx0 <| hwl
    repeat' (first
     | refine w_seq ?_ | refine w_skip ?_
     | ((with_reducible refine s_end hK ?_); clear hK K)
     | (with_reducible first | refine then_normal ?_)
     | (with_reducible first | refine s_none ?_)
     | (with_reducible refine x_q (h := ?_))
     | refine x_condf (h1 := ?_)
     | (refine wSc (id := 4) (.q 0 <| .q 1 <| .q 2 <| .q 3 <| .q 4 <| .q 5 <| .q 6 <| .q 7 <| .q 8 <| .q 9 <| .l 10 [8, 7, 5, 4, 3, 2, 1, 0] <| .l 11 [8, 7, 4, 3, 2, 1, 0] <| .l 12 [8, 7, 4, 3, 2, 0] <| .l 13 [8, 7, 4, 3, 2] <| .l 14 [] <| .done) mixed fun K hK => ?_)
     | ((with_reducible refine a_id ?_); first | refine xa_q (h := ?_))
     | refine a_l rfl ?_
     | fail)
    all_goals try clear fx
    refine x_rd (hs := by simp [hU]) (ha := by first | (simp [h0]; done) | (simp [h0]; rfl)) (hF := pick_rd _ _ bs (q + 1) p.length hb (by omega) (by omega) (by simp [hU])) (h := ?_)
    rintro y py ⟨hy, rfl⟩
    all_goals have fx := And.intro h0 <| And.intro h2 <| And.intro hp2 <| And.intro hp2' <| And.intro h4 <| And.intro hp4 <| And.intro h8 <| And.intro hx0 <| hwl
    repeat' (first
     | (with_reducible first | refine s_nil ?_)
     | (with_reducible first | refine s_none ?_ | refine x_build (h := ?_))
     | refine a_l rfl ?_ | (with_reducible refine And.intro ?_ ?_) | exact st_nil | refine xa_st (h2 := ?_)
     | fail)
    all_goals try clear fx
    refine x_one (oneOk _) 25 [((p.length - 1 : Nat) : Int), (y : Int)] (bs := bs) (pos := q + 1 + 1) hb (by omega) (hV := hV) (h0 := by simp [h0]) (h1 := by simp) (hH := by simp) (hL := by simp [irows]) (h := ?_)
    intro v hv
    all_goals have fx := And.intro h0 <| And.intro h2 <| And.intro hp2 <| And.intro hp2' <| And.intro h4 <| And.intro hp4 <| And.intro h8 <| And.intro hx0 <| hwl
    repeat' (first
     | (with_reducible first | refine then_normal ?_ | refine s_nil ?_)
     | refine w_ret ?_
     | (with_reducible first | refine s_none ?_ | refine x_assign (h := ?_) | refine x_store0 (h := ?_))
     | ((with_reducible refine a_end hK ?_); clear hK K)
     | refine a_l rfl ?_ | (with_reducible refine And.intro ?_ ?_) | exact st_nil | refine xa_st (h2 := ?_)
     | fail)
    all_goals try clear fx
    refine e_ret [(.c (.s 4) 0 0, root)] (.one rfl) (by simp [h2]; rfl) ⟨p, v, q + 1 + 1 + 1, by simp, ⟨?_, fun j r hj => ?_, fun j r hj => ?_⟩, hs, hpl, by omega, by simp⟩
    · simp [ho1, hr0, pRows_tr (n := .c (.s 4) 0 0) (m := root) (f := finf (Nm.under (.u 1 0 0)) [(.c (.s 4) 0 0, root)]) (p := p) (by simp [hr0])]
    · simp [ho2 j r hj, hr0]
    · simp [ho3 j r hj, hr0]
end Go.Proofs.YtmaoicgfcngciaaDoor
end
section
namespace Go.Proofs.YtmaoicgfcngciaaDoor
open Go Go.Hm Go.Proofs
attribute [local simp] slcAV rowsIn
theorem newReader_fn (gl) (code : List Int) (hc : code.length ≤ 1048576) : FnOk Tryd.prog gl 26 [bsl code] (fun r z H' => z = .pt r 0 ∧ H' r = some (rdO (code.take 2000) 0)) := by
  refine FnOk.of_sem Tryd.func26 rfl (by kernel_rfl) (rs := [.tmp 2]) rfl Tryd.ntmps26 (Nat.le_of_ble_eq_true rfl) fun C w g root => ?_
  by_cases hl : 2000 < code.length
  · have hl1 : (2000 : Int) < code.length := by omega
    have hl2 : (2000 : Int) ≤ code.length := by omega
    all_goals have fx := And.intro hl1 <| hl2
    repeat' (first
     | refine w_seq ?_ | refine w_reg fun K hK => ?_
     | ((with_reducible refine s_end hK ?_); clear hK K)
     | (with_reducible first | refine then_normal ?_)
     | refine w_ret ?_
     | (with_reducible first | refine s_none ?_ | refine x_assign (h := ?_) | refine x_box (h := ?_))
     | (with_reducible refine x_q (h := ?_))
     | refine x_condt (h1 := ?_)
     | fail)
    all_goals try clear fx
    refine e_ret [(.s 2, root)] (.one rfl) (by simp; rfl) ⟨by simp, by simp⟩
  · have ht : code.take 2000 = code := List.take_of_length_le (by omega)
    have hl1 : ¬ (2000 : Int) < code.length := by omega
    rw [ht]
    all_goals have fx :=  hl1
    repeat' (first
     | refine w_seq ?_ | refine w_skip ?_ | refine w_reg fun K hK => ?_
     | ((with_reducible refine s_end hK ?_); clear hK K)
     | (with_reducible first | refine then_normal ?_)
     | refine w_ret ?_
     | (with_reducible first | refine s_none ?_ | refine x_assign (h := ?_) | refine x_box (h := ?_))
     | (with_reducible refine x_q (h := ?_))
     | refine x_condf (h1 := ?_)
     | fail)
    all_goals try clear fx
    refine e_ret [(.s 2, root)] (.one rfl) (by simp; rfl) ⟨by simp, by simp⟩
structure CodeOk (code : List Int) : Prop where
  len : code.length ≤ 1048576
  rng : ∀ v ∈ code, 0 ≤ v ∧ v ≤ 255
theorem CodeOk.bytes {code : List Int} (h : CodeOk code) : BytesOk (code.take 2000) := ⟨by simp; omega, fun v hv => h.rng v (List.mem_of_mem_take hv)⟩
end Go.Proofs.YtmaoicgfcngciaaDoor
end
section
namespace Go.Proofs.YtmaoicgfcngciaaDoor
open Go Go.Hm Go.Proofs
abbrev qsUra0 : Sch := .q 0 <| .q 1 <| .q 2 <| .q 3 <| .q 4 <| .q 5 <| .q 6 <| .q 7 <| .q 8 <| .done
theorem eqOps_fn (gl) (l : List (Int × Int)) (hl : l.length ≤ 1048576) : FnOk Tryd.prog gl 13 [osl l, osl l] (fun _ z _ => z = bv true) := by
  refine FnOk.of_sem Tryd.func13 rfl (by kernel_rfl) (rs := [.tmp 4]) rfl Tryd.ntmps13 (Nat.le_of_ble_eq_true rfl) fun C w g root => ?_
  have fx :=  @bne_def
  refine k_run ?_
  repeat ((first | refine wSc (id := 6) qsUra0 mixed ?_); refine k_rund ?_; refine k_run ?_)
  clear fx
  refine w_loop (fun n st => ∃ i : Nat, n = l.length - i ∧ i ≤ l.length ∧ st.tm 0 = osl l ∧ st.tm 1 = osl l ∧ st.tm 5 = iv i) l.length ⟨0, by simp⟩ ?_
  rintro n st - - ⟨i, rfl, hi, h0, h1, h5⟩
  by_cases hil : i < l.length
  · obtain ⟨o, ho⟩ : ∃ o, l[i]? = some o := ⟨_, gE hil⟩
    obtain ⟨_, hoE⟩ := gS ho
    have fx := And.intro h0 <| And.intro h1 <| And.intro h5 <| And.intro hil <| And.intro ho <| And.intro hoE <| @bne_def
    refine k_run ?_
    repeat ((first | refine wSc (id := 6) qsUra0 mixed ?_); refine k_rund ?_; refine k_run ?_)
    clear fx
    exact ⟨l.length - (i + 1), by omega, i + 1, rfl, by omega, by simp [h0], by simp [h1], by simp; exact wrp (by omega) (by omega)⟩
  · skip
    have fx := And.intro h0 <| And.intro h1 <| And.intro h5 <| hil
    refine k_run ?_
    repeat ((first | refine wSc (id := 6) qsUra0 mixed ?_); refine k_rund ?_; refine k_run ?_)
    clear fx
    refine e_ret [] .nil (by simp; rfl) (by simp)
theorem count_take {v : Txt} {i : Nat} {c a : UInt8} (h : v[i]? = some c) : (v.take (i + 1)).count a = (v.take i).count a + if c = a then 1 else 0 := by
  rw [List.take_add_one, h, List.count_append]
  by_cases e : c = a
  · simp [e]
  · simp [e]
theorem newlines_fn (gl) (v : Txt) (hv : v.length ≤ 1048577) : FnOk Tryd.prog gl 14 [tx v] (fun _ y _ => y = iv (v.count 10)) := by
  refine FnOk.of_sem Tryd.func14 rfl (by kernel_rfl) (rs := [.tmp 2]) rfl Tryd.ntmps14 (Nat.le_of_ble_eq_true rfl) fun C w g root => ?_
  have fx := fx0
  refine k_run ?_
  clear fx
  refine w_loop (fun n st => ∃ i : Nat, n = v.length - i ∧ i ≤ v.length ∧ st.tm 0 = tx v ∧ st.tm 4 = iv i ∧ st.tm 3 = iv ((v.take i).count 10)) v.length ⟨0, by simp⟩ ?_
  rintro n st - - ⟨i, rfl, hi, h0, h4, h3⟩
  by_cases hil : i < v.length
  · obtain ⟨c, hc⟩ : ∃ c, v[i]? = some c := ⟨_, gE hil⟩
    obtain ⟨_, hcE⟩ := gS hc
    have hct := count_take (a := 10) hc
    have hcl : (v.take i).count 10 ≤ i := Nat.le_trans List.count_le_length (by rw [List.length_take]; omega)
    generalize (v.take i).count 10 = k at h3 hct hcl
    have hw1 : IntKind.i64.wrap ((i : Int) + 1) = (i : Int) + 1 := wrp (by omega) (by omega)
    have hw2 : IntKind.i64.wrap ((k : Int) + 1) = (k : Int) + 1 := wrp (by omega) (by omega)
    by_cases he : c = 10
    · subst he
      have fx := And.intro h0 <| And.intro h4 <| And.intro h3 <| And.intro hil <| And.intro hc <| And.intro hcE <| And.intro hw1 <| hw2
      refine k_run ?_
      clear fx
      exact ⟨v.length - (i + 1), by omega, i + 1, rfl, by omega, by simp [h0], by simp [hw1], by simp [hct, hw2]⟩
    · have hn : ¬ c.toNat = 10 := fun e => he (UInt8.toNat_inj.1 e)
      have hb : ((c.toNat : Int) == 10) = false := by simp; omega
      have fx := And.intro h0 <| And.intro h4 <| And.intro h3 <| And.intro hil <| And.intro hc <| And.intro hcE <| And.intro hw1 <| And.intro hw2 <| And.intro hn <| hb
      refine k_run ?_
      clear fx
      exact ⟨v.length - (i + 1), by omega, i + 1, rfl, by omega, by simp [h0], by simp [hw1], by simp [hct, he, h3]⟩
  · have hge : i = v.length := by omega
    rw [hge, List.take_length] at h3
    have fx := And.intro h0 <| And.intro h4 <| And.intro h3 <| hil
    refine k_run ?_
    clear fx
    refine e_ret [] .nil (by simp [h3]; rfl) (by simp)
end Go.Proofs.YtmaoicgfcngciaaDoor
end
section
namespace Go.Proofs.YtmaoicgfcngciaaDoor
open Go Go.Hm Go.Proofs
attribute [local simp] slcAV
theorem DrawReadCode_fn (gl) (code : List Int) (hc : CodeOk code) : FnOk Tryd.prog gl 10 [bsl code] (fun _ z _ => ∃ v : Txt, z = tx v ∧ v.length ≤ 20001) := by
  have hb := hc.bytes
  refine FnOk.of_sem Tryd.func10 rfl (by kernel_rfl) (rs := [.tmp 2]) rfl Tryd.ntmps10 (Nat.le_of_ble_eq_true rfl) fun C w g root => ?_
  have fx := fx0
  refine k_run ?_
  clear fx
  intro K hK
  refine x_own (ha := by simp) (hF := newReader_fn _ code hc.len) (h := ?_)
  rintro z H1 ⟨rfl, hR⟩
  have fx :=  hR
  refine k_run ?_
  clear fx
  intro K hK
  refine o_mv (.s 3) (.u 1 0 0) (.inl rfl) (.inr rfl) ?_
  refine x_rdo (bs := code.take 2000) (hs := by simp [hR]) (ha := by first | (simp; done) | (simp; rfl)) (hF := blockOf_fn _ _ (code.take 2000) 0 hb (by omega) (by simp [hR]) (by simp) (by simp) (by simp)) (h := ?_)
  rintro z H2 ⟨p, b, q, rfl, ⟨ho1, ho2, ho3⟩, hs, hpl, hq, hU⟩
  refine ⟨q, hU, ?_⟩
  obtain ⟨hot, hol⟩ := codeOps_txt (b := b) hs
  have hfl := fmtO_len hot (i := (codeG p b).ops.length)
  rw [List.take_length] at hfl
  have hsh := spec_ShowCode_fn gl p b hs
  generalize fmtO (codeG p b).ops = v at hsh hfl
  have hvl : v.length ≤ 20000 := by omega
  have fx :=  ho1
  have c1 := hsh
  refine k_run ?_
  clear fx c1
  intro K hK
  refine o_abs (fun st => st.hp (.u 1 0 0) = some (rdO (code.take 2000) q) ∧ st.tm 3 = .pt (.u 1 0 0) 0 ∧ st.tm 6 = tx v ∧ st.tm 17 = .pt (.u 1 0 0) 0) ⟨by simp, by simp, by simp, by simp⟩ ?_
  clear ho1 ho2 ho3 hU
  rintro st ⟨hU, h3, h6, h17⟩
  refine x_rd (hs := by simp [hU]) (ha := by first | (simp [h17]; done) | (simp [h17]; rfl)) (hF := pick_rd _ _ (code.take 2000) q 2 hb (by omega) (by omega) (by simp [hU])) (h := ?_)
  rintro x px ⟨hx, rfl⟩
  rcases Nat.eq_zero_or_pos x with rfl | hx0
  · skip
    have fx := And.intro h3 <| h6
    refine k_run ?_
    clear fx
    intro K hK
    refine x_rd (hs := by simp) (ha := by first | (simp [h3, h6]; done) | (simp [h3, h6]; rfl)) (hF := mutate_fn _ _ (code.take 2000) (q + 1) v (by omega) hb (by omega) (by simp) (by simp)) (h := ?_)
    rintro u pu ⟨hul, hpu⟩
    have fx := And.intro h3 <| h6
    refine k_run ?_
    clear fx
    exact e_ret [] .nil (by simp; rfl) ⟨u, by simp, by omega⟩
  · have hxn : ((x : Int) == 0) = false := by rw [beq_eq_false_iff_ne]; omega
    have hxn2 : ¬ x = 0 := by omega
    have fx := And.intro h3 <| And.intro h6 <| And.intro hxn <| hxn2
    refine k_run ?_
    clear fx
    exact e_ret [] .nil (by simp; rfl) ⟨v, by simp, by omega⟩
theorem FnReadCode_fn (gl : Nat → Option (List AV)) {m : Int} (hgm : gl 3 = some [.sc (.int .i64 m)]) (hgo : gl 1 = some ((vtx opW).map AV.sc)) (code : List Int) (hcode : ∀ v ∈ code, 0 ≤ v ∧ v ≤ 255) (hbig : code.length ≤ 1152921504606846976) :
    FnOk Tryd.prog gl 4 [bsl code] (fun _ z _ => z = bv true) := by
  refine FnOk.of_sem Tryd.func4 rfl (by kernel_rfl) (rs := [.tmp 2]) rfl Tryd.ntmps4 (Nat.le_of_ble_eq_true rfl) fun C w g root => ?_
  by_cases hlen : 1048576 < code.length
  · have hl1 : (1048576 : Int) < code.length := by omega
    have fx :=  hl1
    refine k_run ?_
    clear fx
    refine e_ret [] .nil (by simp; rfl) (by simp)
  have hl1 : ¬ (1048576 : Int) < code.length := by omega
  have hc : CodeOk code := ⟨by omega, hcode⟩
  have fx :=  hl1
  have e1 := DrawReadCode_fn gl code hc
  refine k_run ?_
  clear fx e1
  rintro K hK z H1 ⟨s, rfl, hsl⟩
  refine ⟨by simp, ?_⟩
  have hia := ReadCode_fn gl hgm hgo s (by omega)
  have hsa := spec_ReadCode_fn gl s (by omega)
  cases hr : readCode s with
  | none =>
    rw [hr] at hia hsa
    have heq := eqOps_fn gl [] (by simp)
    have fx := fx0
    have e1 := hia
    refine k_run ?_
    clear fx e1
    rintro K hK y H2 ⟨rfl, hH2⟩
    have g1 := hcln_row hH2 (by simp)
    refine ⟨by simp, ?_⟩
    have fx :=  g1
    have e1 := hsa
    refine k_run ?_
    clear fx e1
    rintro K hK y H3 ⟨rfl, hH3⟩
    have g2 := hcln_row hH3 (by simp)
    refine ⟨by simp, ?_⟩
    have fx := And.intro g1 <| And.intro g2 <| @bne_def
    have c1 := heq
    refine k_run ?_
    clear fx c1
    refine e_ret [] .nil (by simp; rfl) (by simp)
  | some os =>
    rw [hr] at hia hsa
    have hct := code_of hr
    have hol : os.length ≤ 20001 := by
      have h1 := code_count hct.2
      rw [hct.1] at h1
      have h2 := List.count_le_length (a := (10 : UInt8)) (l := s)
      omega
    have hcn : s.count 10 = os.length := by rw [← code_count hct.2, hct.1]
    have heq := eqOps_fn gl os (by omega)
    have hnl := newlines_fn gl s (by omega)
    rw [hcn] at hnl
    have fx := fx0
    have e1 := hia
    refine k_run ?_
    clear fx e1
    rintro K hK y H2 ⟨rfl, hH2⟩
    have g1 := hcln_row hH2 (by simp)
    refine ⟨by simp, ?_⟩
    have fx :=  g1
    have e1 := hsa
    refine k_run ?_
    clear fx e1
    rintro K hK y H3 ⟨rfl, hH3⟩
    have g2 := hcln_row hH3 (by simp)
    refine ⟨by simp, ?_⟩
    have fx := And.intro g1 <| And.intro g2 <| @bne_def
    have c1 := heq
    refine k_run ?_
    clear fx c1
    refine w_loop (fun n st => ∃ i : Nat, n = s.length - i ∧ i ≤ s.length ∧ st.tm 8 = iv i ∧ st.tm 3 = tx s ∧ st.tm 4 = .hs (.s 4) 2 0 os.length ∧ st.hp (.s 4) = some (.row 2 (orows os))) s.length ?_ ?_
    · exact ⟨0, by omega, by omega, by simp, by simp, by simp, by simp [g1]⟩
    clear hH2 hH3 g1 g2
    rintro n st - - ⟨i, rfl, hi, h8, h3, h4, hp4⟩
    by_cases hil : i < s.length
    · obtain ⟨c, hc⟩ : ∃ c, s[i]? = some c := ⟨_, gE hil⟩
      obtain ⟨_, hcE⟩ := gS hc
      have hw1 : IntKind.i64.wrap ((i : Int) + 1) = (i : Int) + 1 := wrp (by omega) (by omega)
      by_cases he : c = 10
      · subst he
        obtain ⟨j, hj, hre⟩ := code_early hr hc
        have hie := ReadCode_fn gl hgm hgo (s.take (i + 1)) (by simp; omega)
        rw [hre] at hie
        obtain ⟨e, hej⟩ : ∃ e, e = os.take j := ⟨_, rfl⟩
        have hel : e.length ≤ os.length := by rw [hej]; simp; omega
        have hte : os.take e.length = e := by rw [hej]; simp [Nat.min_eq_left hj]
        rw [← hej] at hie
        simp only at hie
        have heqe := eqOps_fn gl e (by omega)
        have h0i : (0 : Int) ≤ (i : Int) + 1 := by omega
        have hle : (i : Int) + 1 ≤ (s.length : Int) := by omega
        have htn : ((i : Int) + 1).toNat = i + 1 := by omega
        have helI : ¬ os.length < e.length := by omega
        have fx := And.intro h8 <| And.intro h3 <| And.intro h4 <| And.intro hp4 <| And.intro hil <| And.intro hc <| And.intro hcE <| And.intro hw1 <| And.intro h0i <| And.intro hle <| And.intro htn <| @bne_def
        have e1 := hie
        refine k_run ?_
        clear fx e1
        rintro K hK y H4 ⟨rfl, hH4⟩
        have g4 := hcln_row hH4 (by simp)
        refine ⟨by simp, ?_⟩
        all_goals have fx := And.intro h8 <| And.intro h3 <| And.intro h4 <| And.intro hp4 <| And.intro g4 <| And.intro hel <| And.intro hte <| And.intro helI <| And.intro hw1 <| @bne_def
        repeat' (first
         | refine w_seq ?_ | refine w_block ?_ | refine w_skip ?_ | refine w_reg fun K hK => ?_
         | ((with_reducible refine s_end hK ?_); clear hK K)
         | (with_reducible first | refine then_normal ?_ | refine in_normal ?_ | refine then_exit ?_ | refine in_exit ?_ | refine then_ret ?_ | refine in_ret ?_ | refine in_other (by decide) ?_)
         | refine w_exit ?_
         | refine w_ret ?_
         | (with_reducible refine s_none ?_)
         | ((with_reducible refine g_id ?_); refine x_guard (h := ?_))
         | (with_reducible first | refine gx_tt ?_ | refine gx_ff ?_ | refine x_tf (h := ?_) | refine x_ft (h := ?_) | refine x_u (h := ?_) | refine x_assign (h := ?_))
         | ((with_reducible refine o_id 13 rfl ?_); refine x_call (hB := (by first | ((repeat' (first | exact .nil | refine .cons ?_ ?_ | exact .refl _ | exact bw_ints (by simp [fx]; first | done | rfl) (by first | (simp [fx]; done) | (simp [fx]; omega) | omega) | exact bw_list (by simp [fx]; first | done | rfl) (by first | (simp [fx]; done) | (simp [fx]; omega) | omega) (by first | (simp; done) | fail) | exact bw_ordsP (n := .s 4) (l := os) (by simp [hp4]) hel hte | exact bw_ords (n := .s 9) (l := e) (by simp [g4]) rfl)); done) | fail)) (hF := heqe) (h := ?_))
         | (with_reducible refine x_q (h := ?_))
         | (with_reducible refine gx_s (fun ht => ?_) (fun ht => ?_))
         | refine x_condt (h1 := ?_) | refine x_condf (h1 := ?_)
         | fail)
        all_goals try clear fx
        exact ⟨s.length - (i + 1), by omega, i + 1, rfl, by omega, by simp [hw1], by simp [h3], by simp [h4], by simp [hp4]⟩
      · have hn : ¬ c.toNat = 10 := fun e => he (UInt8.toNat_inj.1 e)
        have hb : ((c.toNat : Int) == 10) = false := by simp; omega
        have fx := And.intro h8 <| And.intro h3 <| And.intro hil <| And.intro hc <| And.intro hcE <| And.intro hw1 <| And.intro hn <| And.intro hb <| @bne_def
        refine k_run ?_
        clear fx
        exact ⟨s.length - (i + 1), by omega, i + 1, rfl, by omega, by simp [hw1], by simp [h3], by simp [h4], by simp [hp4]⟩
    · have hge : i = s.length := by omega
      have fx := And.intro h8 <| And.intro h3 <| And.intro h4 <| hil
      have c1 := hnl
      refine k_run ?_
      clear fx c1
      refine e_ret [] .nil (by simp; rfl) (by simp)
end Go.Proofs.YtmaoicgfcngciaaDoor
end
