/-
  Own texts, joined by mkclaim.py: Rd, Gn, Re, Rf.
-/
import Derived.Test.YtmpbjmihjelhgaaDoorM19
import Derived.Test.YtmpbjmihjelhgaaDoorM11
import Derived.Test.YtmpbjmihjelhgaaDoorM18
import Derived.Test.YtmpbjmihjelhgaaDoorM10
set_option linter.unusedSimpArgs false
set_option linter.unusedVariables false

section
/-
  The generator's programs, with a fault now and then: what they are.
-/
set_option maxRecDepth 100000
set_option maxHeartbeats 2000000
set_option linter.unusedSimpArgs false
namespace Go.Proofs.YtmpbjmihjelhgaaDoor
open Go Go.Hm Go.Proofs

theorem anyProgram_fn (gl) (H : Nm → Option AO) (bs : List Int) (pos : Nat) (hb : BytesOk bs) (hpos : pos ≤ 600000) (hH : H (.u 1 0 0) = some (rdO bs pos)) (hV : H (.u 2 0 0) = none) (hV4 : H (.u 4 0 0) = none) (hV5 : H (.u 5 0 0) = none) :
    FnE Tryd.prog gl 82 (Nm.under (.u 1 0 0)) [.pt (.u 1 0 0) 0] H (PrgPost bs (fun p pos' => Sml p ∧ (1 ≤ p.length ∧ p.length ≤ 8) ∧ pos' ≤ pos + 3000)) noE := by
  refine FnE.of_sem Tryd.func82 rfl (by kernel_rfl) (rs := [.cell 2 25]) rfl Tryd.ntmps82 (Nat.le_of_ble_eq_true rfl) (fun _ => under_usroot rfl) fun C w g root hroot => ?_
  have hr0 := hroot root (Nm.under_self _)
  all_goals have fx := fx0
  repeat' (first
   | refine w_seq ?_ | refine w_reg fun K hK => ?_
   | ((with_reducible refine s_end hK ?_); clear hK K)
   | (with_reducible first | refine s_none ?_ | refine x_alloc (h := ?_))
   | (with_reducible refine x_q (h := ?_))
   | fail)
  all_goals try clear fx
  refine x_rdo (bs := bs) (hs := by simp [hH]) (ha := by first | (simp; done) | (simp; rfl)) (hF := goodProgram_fn _ _ bs pos hb (by omega) (by simp [hH]) (by simp) (by simp) (by simp)) (h := ?_)
  rintro z H1 ⟨p, q, rfl, ⟨ho1, ho2, ho3⟩, ⟨hg, hq⟩, hU⟩
  refine ⟨q, hU, ?_⟩
  have hgl := hg.len
  have hs := hg.sml
  all_goals have fx :=  ho1
  repeat' (first
   | refine w_seq ?_ | refine w_reg fun K hK => ?_
   | ((with_reducible refine s_end hK ?_); clear hK K)
   | (with_reducible first | refine s_none ?_ | refine x_alloc (h := ?_) | refine x_store0 (h := ?_))
   | (with_reducible refine x_q (h := ?_))
   | fail)
  all_goals try clear fx
  refine x_rd (hs := by simp) (ha := by first | (simp; done) | (simp; rfl)) (hF := pick_rd _ _ bs q p.length hb (by omega) (by omega) (by simp)) (h := ?_)
  rintro x px ⟨hx, rfl⟩
  have hxl : x < p.length := by omega
  all_goals have fx := fx0
  repeat' (first
   | refine w_seq ?_ | refine w_reg fun K hK => ?_
   | ((with_reducible refine s_end hK ?_); clear hK K)
   | (with_reducible first | refine s_none ?_ | refine x_assign (h := ?_))
   | (with_reducible refine x_q (h := ?_))
   | fail)
  all_goals try clear fx
  refine x_rd (hs := by simp) (ha := by first | (simp; done) | (simp; rfl)) (hF := pick_rd _ _ bs (q + 1) 24 hb (by omega) (by omega) (by simp)) (h := ?_)
  rintro y py ⟨hy, rfl⟩
  have hy24 : y < 24 := by omega
  refine s_abs (fun st => st.tm 0 = .pt (.u 1 0 0) 0 ∧ st.hp (.u 1 0 0) = some (rdO bs (q + 1 + 1)) ∧ st.tm 2 = .pt (.s 2) 0 ∧ st.hp (.s 2) = some (.row 1 [[.hs (.c (.s 2) 0 0) 4 0 0]]) ∧ st.hp (.c (.s 2) 0 0) = some (.row 4 []) ∧ st.tm 3 = .pt (.s 3) 0 ∧ st.hp (.s 3) = some (.row 1 [[.hs (.c (.s 3) 0 0) 4 0 p.length]]) ∧ OwnP st.hp (.c (.s 3) 0 0) p ∧ st.tm 4 = iv x ∧ st.tm 13 = iv y)
    ⟨by simp, by simp, by simp, by simp, by simp, by simp, by simp, ⟨by simp [ho1], fun j r hj => by simp [ho2 j r hj], fun j r hj => by simp [ho3 j r hj]⟩, by simp, by simp⟩ ?_
  clear ho1 ho2 ho3 hU
  rintro st ⟨h0, hU, h2, hp2, hp2', h3, hp3, ⟨ho1, ho2, ho3⟩, h4, h13⟩
  obtain ⟨k, hk⟩ : ∃ k, p[x]? = some k := ⟨_, List.getElem?_eq_getElem hxl⟩
  obtain ⟨_, hkE⟩ := List.getElem?_eq_some_iff.1 hk
  have hkp := hg.params k (List.mem_of_getElem? hk)
  have hkb := hg.body k (List.mem_of_getElem? hk)
  have hob := ho3 x k hk
  have hyc : y = 0 ∨ y = 1 ∨ y = 2 ∨ y = 3 ∨ y = 4 ∨ 5 ≤ y := by omega
  clear hy hx
  rcases hyc with rfl | rfl | rfl | rfl | rfl | hy5
  · skip
    all_goals have fx := And.intro h0 <| h13
    repeat' (first
     | refine w_seq ?_ | refine w_block ?_ | refine w_reg fun K hK => ?_
     | ((with_reducible refine s_end hK ?_); clear hK K)
     | (with_reducible first | refine then_normal ?_)
     | (with_reducible first | refine s_none ?_ | refine x_assign (h := ?_))
     | (with_reducible refine x_q (h := ?_))
     | refine x_condt (h1 := ?_)
     | fail)
    all_goals try clear fx
    refine x_rdo (bs := bs) (hs := by simp [hU]) (ha := by first | (simp [h0]; done) | (simp [h0]; rfl)) (hF := shapedProgram_fn _ _ bs (q + 1 + 1) hb (by omega) (by simp [hU]) (by simp) (by simp) (by simp)) (h := ?_)
    rintro z H2 ⟨p2, q2, rfl, ⟨hc1, hc2, hc3⟩, ⟨hg2, hq2⟩, hU2⟩
    refine ⟨q2, hU2, ?_⟩
    all_goals have fx := And.intro h2 <| And.intro hp2 <| And.intro hp2' <| hc1
    repeat' (first
     | ((with_reducible refine s_end hK ?_); clear hK K)
     | (with_reducible first | refine then_normal ?_ | refine then_ret ?_ | refine in_ret ?_)
     | refine w_ret ?_
     | (with_reducible first | refine s_none ?_ | refine x_store0 (h := ?_))
     | fail)
    all_goals try clear fx
    refine e_ret [(.c (.s 2) 0 0, root)] (.one rfl) (by simp [h2]; rfl) ⟨p2, q2, by simp, ⟨?_, fun j r hj => ?_, fun j r hj => ?_⟩, ⟨hg2.sml, hg2.len, by omega⟩, by simp⟩
    · simp [hc1, hr0, pRows_tr (n := .c (.s 2) 0 0) (m := root) (f := finf (Nm.under (.u 1 0 0)) [(.c (.s 2) 0 0, root)]) (p := p2) (by simp [hr0])]
    · simp [hc2 j r hj, hr0]
    · simp [hc3 j r hj, hr0]
  · skip
    all_goals have fx := And.intro h0 <| And.intro h13 <| And.intro h3 <| And.intro hp3 <| And.intro h4 <| And.intro ho1 <| And.intro hxl <| And.intro hk <| And.intro hkE <| hob
    repeat' (first
     | refine w_seq ?_ | refine w_block ?_ | refine w_reg fun K hK => ?_
     | ((with_reducible refine s_end hK ?_); clear hK K)
     | (with_reducible first | refine then_normal ?_ | refine s_nil ?_)
     | (with_reducible first | refine s_none ?_ | refine x_assign (h := ?_) | refine x_build (h := ?_))
     | (with_reducible refine x_q (h := ?_))
     | refine x_condt (h1 := ?_) | refine x_condf (h1 := ?_)
     | (refine w_sch (id := 7) (.q 0 <| .q 1 <| .q 2 <| .q 3 <| .q 4 <| .l 5 [3, 2, 1, 0] <| .l 6 [2, 1, 0] <| .q 7 <| .q 8 <| .l 9 [7] <| .done) mixed (by kernel_rfl) (by kernel_rfl) fun K hK => ?_)
     | ((with_reducible refine a_id ?_); first | refine xa_q (h := ?_))
     | refine a_l rfl ?_ | (with_reducible refine And.intro ?_ ?_) | exact st_nil | refine xa_st (h2 := ?_)
     | fail)
    all_goals try clear fx
    refine x_one (oneOk _) 25 [-2, (x : Int), 7] (bs := bs) (pos := q + 1 + 1) hb (by omega) (hV := hV) (h0 := by simp [h0]) (h1 := by simp) (hH := by simp [hU]) (hL := by simp [irows]) (h := ?_)
    intro v hv
    have hset := pRows_setPar (n := .c (.s 3) 0 0) (v := v) hk
    all_goals have fx := And.intro h0 <| And.intro h13 <| And.intro h3 <| And.intro hp3 <| And.intro h4 <| And.intro ho1 <| And.intro hxl <| And.intro hk <| And.intro hkE <| And.intro hob <| And.intro hset <| And.intro h2 <| And.intro hp2 <| hp2'
    repeat' (first
     | refine w_seq ?_ | refine w_reg fun K hK => ?_
     | ((with_reducible refine s_end hK ?_); clear hK K)
     | (with_reducible first | refine then_normal ?_ | refine s_nil ?_)
     | refine w_ret ?_
     | (with_reducible first | refine s_none ?_ | refine x_store0 (h := ?_))
     | (with_reducible refine x_q (h := ?_))
     | ((with_reducible refine a_end hK ?_); clear hK K)
     | ((with_reducible refine a_id ?_); first | refine xa_q (h := ?_))
     | refine a_l rfl ?_ | (with_reducible refine And.intro ?_ ?_) | exact st_nil | refine xa_st (h2 := ?_)
     | fail)
    all_goals try clear fx
    refine e_ret [(.c (.s 3) 0 0, root)] (.one rfl) (by simp [h2]; rfl) ⟨p.set x { k with parent := v }, q + 1 + 1 + 1, by simp, ⟨?_, fun j r hj => ?_, fun j r hj => ?_⟩, ⟨hs.set (by show k.params.length ≤ _; omega) (by show k.body.length ≤ _; omega), by simp; omega, by omega⟩, by simp⟩
    · simp [hset, hr0, pRows_tr (n := .c (.s 3) 0 0) (m := root) (f := finf (Nm.under (.u 1 0 0)) [(.c (.s 3) 0 0, root)]) (p := p.set x { k with parent := v }) (by simp [hr0])]
    all_goals
      rw [List.getElem?_set] at hj
      by_cases e : x = j
      · subst e
        rw [if_pos rfl, if_pos hxl] at hj
        obtain rfl := Option.some.inj hj
        simp [ho2 x k hk, ho3 x k hk, hr0]
      · rw [if_neg e] at hj
        simp [ho2 j r hj, ho3 j r hj, hr0, e, show ¬ j = x from fun h => e h.symm]
  · skip
    all_goals have fx := And.intro h0 <| And.intro h13 <| And.intro h3 <| And.intro hp3 <| And.intro h4 <| And.intro ho1 <| And.intro hxl <| And.intro hk <| And.intro hkE <| hob
    repeat' (first
     | refine w_seq ?_ | refine w_block ?_ | refine w_reg fun K hK => ?_
     | ((with_reducible refine s_end hK ?_); clear hK K)
     | (with_reducible first | refine then_normal ?_ | refine s_nil ?_)
     | (with_reducible first | refine s_none ?_ | refine x_assign (h := ?_) | refine x_build (h := ?_))
     | (with_reducible refine x_q (h := ?_))
     | refine x_condt (h1 := ?_) | refine x_condf (h1 := ?_)
     | (refine w_sch (id := 9) (.q 0 <| .q 1 <| .q 2 <| .q 3 <| .q 4 <| .q 5 <| .q 6 <| .q 7 <| .q 8 <| .q 9 <| .q 12 <| .l 10 [12, 9, 8, 7, 6, 5, 4, 3, 2, 1, 0] <| .l 11 [12, 8, 7, 6, 5, 4, 3, 2, 1, 0] <| .q 13 <| .l 14 [12, 8, 7, 6, 5, 4, 3, 2, 1, 0] <| .l 15 [12, 7, 6, 5, 4, 3, 2, 1, 0] <| .q 16 <| .q 17 <| .l 18 [16] <| .done) mixed (by kernel_rfl) (by kernel_rfl) fun K hK => ?_)
     | ((with_reducible refine a_id ?_); first | refine xa_q (h := ?_))
     | refine a_l rfl ?_ | (with_reducible refine And.intro ?_ ?_) | exact st_nil | refine xa_st (h2 := ?_)
     | fail)
    all_goals try clear fx
    refine x_one (oneOk _) 41 [-1, 12, 3] (bs := bs) (pos := q + 1 + 1) hb (by omega) (hV := hV) (h0 := by simp [h0]) (h1 := by simp) (hH := by simp [hU]) (hL := by simp [irows]) (h := ?_)
    intro v hv
    have hset := pRows_set (n := .c (.s 3) 0 0) (a := 46) (i := x) (len := k.body.length + 1) (p := p) (L := k.body ++ [⟨v, 0, x, 0⟩]) (by simp) (by simp) (by simp)
    all_goals have fx := And.intro h0 <| And.intro h13 <| And.intro h3 <| And.intro hp3 <| And.intro h4 <| And.intro ho1 <| And.intro hxl <| And.intro hk <| And.intro hkE <| And.intro hob <| And.intro hset <| And.intro h2 <| And.intro hp2 <| hp2'
    repeat' (first
     | refine w_seq ?_ | refine w_reg fun K hK => ?_
     | ((with_reducible refine s_end hK ?_); clear hK K)
     | (with_reducible first | refine then_normal ?_ | refine s_nil ?_)
     | refine w_ret ?_
     | (with_reducible first | refine s_none ?_ | refine x_store0 (h := ?_) | refine x_append (T := 50) (h := ?_) | refine x_build (h := ?_))
     | (with_reducible refine x_q (h := ?_))
     | ((with_reducible refine a_end hK ?_); clear hK K)
     | ((with_reducible refine a_id ?_); first | refine xa_q (h := ?_))
     | refine a_l rfl ?_ | (with_reducible refine And.intro ?_ ?_) | exact st_nil | refine xa_st (h2 := ?_)
     | fail)
    all_goals try clear fx
    refine e_ret [(.c (.s 3) 0 0, root)] (.one rfl) (by simp [h2]; rfl) ⟨setBody p x (k.body ++ [⟨v, 0, x, 0⟩]), q + 1 + 1 + 1, by simp, ⟨?_, fun j r hj => ?_, fun j r hj => ?_⟩, ⟨setBody_sml hs (by simp; omega), by simp; omega, by omega⟩, by simp⟩
    · simp [hset, hr0, pRows_tr (n := .c (.s 3) 0 0) (m := root) (f := finf (Nm.under (.u 1 0 0)) [(.c (.s 3) 0 0, root)]) (p := setBody p x (k.body ++ [⟨v, 0, x, 0⟩])) (by simp [hr0])]
    all_goals
      have hjl : j < p.length := by
        have := (List.getElem?_eq_some_iff.1 hj).1
        rwa [setBody_len] at this
      obtain ⟨r0, hr0'⟩ : ∃ r0, p[j]? = some r0 := ⟨_, List.getElem?_eq_getElem hjl⟩
      rw [setBody_get hr0'] at hj
      obtain rfl := Option.some.inj hj
      by_cases e : x = j
      · subst e
        rw [hk] at hr0'
        obtain rfl := Option.some.inj hr0'
        simp [ho2 x k hk, hob, hr0]
      · simp [ho2 j r0 hr0', ho3 j r0 hr0', hr0, e, show ¬ j = x from fun h => e h.symm]
  · skip
    all_goals have fx := And.intro h0 <| And.intro h13 <| And.intro h3 <| And.intro hp3 <| And.intro h4 <| And.intro ho1 <| And.intro hxl <| And.intro hk <| And.intro hkE <| hob
    repeat' (first
     | refine w_seq ?_ | refine w_block ?_ | refine w_reg fun K hK => ?_
     | ((with_reducible refine s_end hK ?_); clear hK K)
     | (with_reducible first | refine then_normal ?_ | refine s_nil ?_)
     | (with_reducible first | refine s_none ?_ | refine x_assign (h := ?_) | refine x_build (h := ?_))
     | (with_reducible refine x_q (h := ?_))
     | refine x_condt (h1 := ?_) | refine x_condf (h1 := ?_)
     | (refine w_sch (id := 11) (.q 0 <| .q 1 <| .q 2 <| .q 3 <| .q 4 <| .q 5 <| .q 6 <| .q 7 <| .q 8 <| .q 9 <| .l 10 [9, 8, 7, 6, 5, 4, 3, 2, 1, 0] <| .l 11 [8, 7, 6, 5, 4, 3, 2, 1, 0] <| .q 12 <| .l 13 [8, 7, 6, 5, 4, 3, 2, 1, 0] <| .l 14 [7, 6, 5, 4, 3, 2, 1, 0] <| .q 15 <| .q 16 <| .l 17 [15] <| .done) mixed (by kernel_rfl) (by kernel_rfl) fun K hK => ?_)
     | ((with_reducible refine a_id ?_); first | refine xa_q (h := ?_))
     | refine a_l rfl ?_ | (with_reducible refine And.intro ?_ ?_) | exact st_nil | refine xa_st (h2 := ?_)
     | fail)
    all_goals try clear fx
    refine x_one (oneOk _) 61 [8, -1] (bs := bs) (pos := q + 1 + 1) hb (by omega) (hV := hV) (h0 := by simp [h0]) (h1 := by simp) (hH := by simp [hU]) (hL := by simp [irows]) (h := ?_)
    intro v hv
    have hset := pRows_set (n := .c (.s 3) 0 0) (a := 65) (i := x) (len := k.body.length + 1) (p := p) (L := k.body ++ [⟨1, v, 0, 0⟩]) (by simp) (by simp) (by simp)
    all_goals have fx := And.intro h0 <| And.intro h13 <| And.intro h3 <| And.intro hp3 <| And.intro h4 <| And.intro ho1 <| And.intro hxl <| And.intro hk <| And.intro hkE <| And.intro hob <| And.intro hset <| And.intro h2 <| And.intro hp2 <| hp2'
    repeat' (first
     | refine w_seq ?_ | refine w_reg fun K hK => ?_
     | ((with_reducible refine s_end hK ?_); clear hK K)
     | (with_reducible first | refine then_normal ?_ | refine s_nil ?_)
     | refine w_ret ?_
     | (with_reducible first | refine s_none ?_ | refine x_store0 (h := ?_) | refine x_append (T := 50) (h := ?_) | refine x_build (h := ?_))
     | (with_reducible refine x_q (h := ?_))
     | ((with_reducible refine a_end hK ?_); clear hK K)
     | ((with_reducible refine a_id ?_); first | refine xa_q (h := ?_))
     | refine a_l rfl ?_ | (with_reducible refine And.intro ?_ ?_) | exact st_nil | refine xa_st (h2 := ?_)
     | fail)
    all_goals try clear fx
    refine e_ret [(.c (.s 3) 0 0, root)] (.one rfl) (by simp [h2]; rfl) ⟨setBody p x (k.body ++ [⟨1, v, 0, 0⟩]), q + 1 + 1 + 1, by simp, ⟨?_, fun j r hj => ?_, fun j r hj => ?_⟩, ⟨setBody_sml hs (by simp; omega), by simp; omega, by omega⟩, by simp⟩
    · simp [hset, hr0, pRows_tr (n := .c (.s 3) 0 0) (m := root) (f := finf (Nm.under (.u 1 0 0)) [(.c (.s 3) 0 0, root)]) (p := setBody p x (k.body ++ [⟨1, v, 0, 0⟩])) (by simp [hr0])]
    all_goals
      have hjl : j < p.length := by
        have := (List.getElem?_eq_some_iff.1 hj).1
        rwa [setBody_len] at this
      obtain ⟨r0, hr0'⟩ : ∃ r0, p[j]? = some r0 := ⟨_, List.getElem?_eq_getElem hjl⟩
      rw [setBody_get hr0'] at hj
      obtain rfl := Option.some.inj hj
      by_cases e : x = j
      · subst e
        rw [hk] at hr0'
        obtain rfl := Option.some.inj hr0'
        simp [ho2 x k hk, hob, hr0]
      · simp [ho2 j r0 hr0', ho3 j r0 hr0', hr0, e, show ¬ j = x from fun h => e h.symm]
  · skip
    all_goals have fx := And.intro h0 <| And.intro h13 <| And.intro h3 <| And.intro hp3 <| And.intro h4 <| And.intro ho1 <| And.intro hxl <| And.intro hk <| And.intro hkE <| hob
    repeat' (first
     | refine w_seq ?_ | refine w_block ?_ | refine w_reg fun K hK => ?_
     | ((with_reducible refine s_end hK ?_); clear hK K)
     | (with_reducible first | refine then_normal ?_ | refine s_nil ?_)
     | (with_reducible first | refine s_none ?_ | refine x_assign (h := ?_) | refine x_build (h := ?_))
     | (with_reducible refine x_q (h := ?_))
     | refine x_condt (h1 := ?_) | refine x_condf (h1 := ?_)
     | (refine w_sch (id := 13) (.q 0 <| .q 1 <| .q 2 <| .q 3 <| .l 4 [3, 2, 1, 0] <| .l 5 [2, 1, 0] <| .l 6 [2, 1, 0] <| .q 7 <| .q 8 <| .l 9 [7] <| .done) mixed (by kernel_rfl) (by kernel_rfl) fun K hK => ?_)
     | ((with_reducible refine a_id ?_); first | refine xa_q (h := ?_))
     | refine a_l rfl ?_ | (with_reducible refine And.intro ?_ ?_) | exact st_nil | refine xa_st (h2 := ?_)
     | fail)
    all_goals try clear fx
    refine x_one (oneOk _) 74 [8, 1] (bs := bs) (pos := q + 1 + 1) hb (by omega) (hV := hV) (h0 := by simp [h0]) (h1 := by simp) (hH := by simp [hU]) (hL := by simp [irows]) (h := ?_)
    intro v hv
    have hset := pRows_setParams (n := .c (.s 3) 0 0) (a := 76) (len := 2) (L := [v, 2]) hk rfl (by simp) (by simp)
    all_goals have fx := And.intro h0 <| And.intro h13 <| And.intro h3 <| And.intro hp3 <| And.intro h4 <| And.intro ho1 <| And.intro hxl <| And.intro hk <| And.intro hkE <| And.intro hob <| And.intro hset <| And.intro h2 <| And.intro hp2 <| hp2'
    repeat' (first
     | refine w_seq ?_ | refine w_reg fun K hK => ?_
     | ((with_reducible refine s_end hK ?_); clear hK K)
     | (with_reducible first | refine then_normal ?_ | refine s_nil ?_)
     | refine w_ret ?_
     | (with_reducible first | refine s_none ?_ | refine x_store0 (h := ?_) | refine x_build (h := ?_))
     | (with_reducible refine x_q (h := ?_))
     | ((with_reducible refine a_end hK ?_); clear hK K)
     | ((with_reducible refine a_id ?_); first | refine xa_q (h := ?_))
     | refine a_l rfl ?_ | (with_reducible refine And.intro ?_ ?_) | exact st_nil | refine xa_st (h2 := ?_)
     | fail)
    all_goals try clear fx
    refine e_ret [(.c (.s 3) 0 0, root)] (.one rfl) (by simp [h2]; rfl) ⟨p.set x { k with params := [v, 2] }, q + 1 + 1 + 1, by simp, ⟨?_, fun j r hj => ?_, fun j r hj => ?_⟩, ⟨hs.set (by show ([v, 2] : List Int).length ≤ _; simp) (by show k.body.length ≤ _; omega), by simp; omega, by omega⟩, by simp⟩
    · simp [hset, hr0, pRows_tr (n := .c (.s 3) 0 0) (m := root) (f := finf (Nm.under (.u 1 0 0)) [(.c (.s 3) 0 0, root)]) (p := p.set x { k with params := [v, 2] }) (by simp [hr0])]
    all_goals
      rw [List.getElem?_set] at hj
      by_cases e : x = j
      · subst e
        rw [if_pos rfl, if_pos hxl] at hj
        obtain rfl := Option.some.inj hj
        simp [ho3 x k hk, irows, hr0]
      · rw [if_neg e] at hj
        simp [ho2 j r hj, ho3 j r hj, hr0, e, show ¬ j = x from fun h => e h.symm]
  · have hy0 : ¬ y = 0 := by omega
    have hy1 : ¬ y = 1 := by omega
    have hy2 : ¬ y = 2 := by omega
    have hy3 : ¬ y = 3 := by omega
    have hy4 : ¬ y = 4 := by omega
    have e0 : ((y : Int) == 0) = false := by rw [beq_eq_false_iff_ne]; omega
    have e1 : ((y : Int) == 1) = false := by rw [beq_eq_false_iff_ne]; omega
    have e2 : ((y : Int) == 2) = false := by rw [beq_eq_false_iff_ne]; omega
    have e3 : ((y : Int) == 3) = false := by rw [beq_eq_false_iff_ne]; omega
    have e4 : ((y : Int) == 4) = false := by rw [beq_eq_false_iff_ne]; omega
    all_goals have fx := And.intro h2 <| And.intro hp2 <| And.intro hp2' <| And.intro h3 <| And.intro hp3 <| And.intro h13 <| And.intro hy0 <| And.intro e1 <| And.intro e2 <| And.intro e3 <| e4
    repeat' (first
     | refine w_seq ?_ | refine w_block ?_ | refine w_skip ?_ | refine w_reg fun K hK => ?_
     | ((with_reducible refine s_end hK ?_); clear hK K)
     | (with_reducible first | refine then_normal ?_)
     | refine w_ret ?_
     | (with_reducible first | refine s_none ?_ | refine x_assign (h := ?_) | refine x_store0 (h := ?_))
     | (with_reducible refine x_q (h := ?_))
     | refine x_condf (h1 := ?_)
     | fail)
    all_goals try clear fx
    refine e_ret [(.c (.s 3) 0 0, root)] (.one rfl) (by simp [h2]; rfl) ⟨p, q + 1 + 1, by simp, ⟨?_, fun j r hj => ?_, fun j r hj => ?_⟩, ⟨hs, hgl, by omega⟩, by simp [hU]⟩
    · simp [ho1, hr0, pRows_tr (n := .c (.s 3) 0 0) (m := root) (f := finf (Nm.under (.u 1 0 0)) [(.c (.s 3) 0 0, root)]) (p := p) (by simp [hr0])]
    · simp [ho2 j r hj, hr0]
    · simp [ho3 j r hj, hr0]
end Go.Proofs.YtmpbjmihjelhgaaDoor
end

section
/-
  The reference's small functions behind RenameIn: what they return.
-/
set_option maxRecDepth 100000
set_option maxHeartbeats 1000000
set_option linter.unusedSimpArgs false
namespace Go.Proofs.YtmpbjmihjelhgaaDoor
open Go Go.Hm Go.Proofs

theorem inside_fn (gl) (p : Prg) (c b : Nat) (hs : Sml p) (hh : Heads p) (hc : c < p.length) : FnOk Tryd.prog gl 136 [pav p, iv c, iv b] (fun _ z _ => z = bv (inside p c b)) := by
  refine FnOk.of_sem Tryd.func136 rfl (by kernel_rfl) (rs := [.tmp 6]) rfl Tryd.ntmps136 (Nat.le_of_ble_eq_true rfl) fun C w g root => ?_
  all_goals have fx := fx0
  repeat' (first
   | refine w_seq ?_ | refine w_block ?_ | refine w_reg fun K hK => ?_
   | ((with_reducible refine s_end hK ?_); clear hK K)
   | (with_reducible first | refine s_none ?_ | refine x_assign (h := ?_) | refine x_box (h := ?_))
   | fail)
  all_goals try clear fx
  refine w_loop (fun n st => ∃ j : Int, n = (j + 1).toNat ∧ -1 ≤ j ∧ j < p.length ∧ inside p j b = inside p c b ∧ st.tm 1 = iv j ∧ st.tm 2 = iv b ∧ st.tm 3 = .pt (.s 3) 0 ∧ st.hp (.s 3) = some (.row 1 [[ksl p]])) (c + 1) ?_ ?_
  · exact ⟨c, by omega, by omega, by omega, rfl, by simp⟩
  rintro n st - - ⟨j, rfl, hj1, hj2, ho, h1, h2, h3, hp3⟩
  all_goals have fx := And.intro h1 <| And.intro h2 <| And.intro h3 <| hp3
  repeat' (first
   | refine w_seq ?_ | refine w_reg fun K hK => ?_
   | ((with_reducible refine s_end hK ?_); clear hK K)
   | (with_reducible first | refine then_normal ?_)
   | (with_reducible first | refine s_none ?_)
   | (with_reducible refine x_q (h := ?_))
   | fail)
  all_goals try clear fx
  refine w_if (by simp []; first | done | rfl | exact (Bool.not_not _).symm) (fun ht => ?_) (fun hf => ?_)
  · have hj0 : (b : Int) < j := by simpa using ht
    obtain ⟨j, rfl⟩ : ∃ i : Nat, j = i := ⟨j.toNat, by omega⟩
    obtain ⟨q, hq⟩ : ∃ q, p[j]? = some q := ⟨_, List.getElem?_eq_getElem (by omega)⟩
    obtain ⟨hq1, hq2, _⟩ := hh j q hq
    all_goals have fx := And.intro h1 <| And.intro h2 <| And.intro h3 <| And.intro hp3 <| hq
    repeat' (first
     | refine w_block ?_ | refine w_skip ?_ | refine w_reg fun K hK => ?_
     | ((with_reducible refine s_end hK ?_); clear hK K)
     | (with_reducible first | refine then_normal ?_ | refine in_normal ?_)
     | (with_reducible first | refine s_none ?_ | refine x_assign (h := ?_))
     | (with_reducible refine x_q (h := ?_))
     | fail)
    all_goals try clear fx
    refine ⟨(q.parent + 1).toNat, by omega, q.parent, rfl, hq1, by omega, ?_, by simp [h2, h3, hp3]⟩
    rw [← ho, inside_step hh (by omega) hq hj0]
  · have hj : j ≤ b := by simpa using hf
    all_goals have fx := And.intro h1 <| h2
    repeat' (first
     | refine w_seq ?_ | refine w_reg fun K hK => ?_
     | ((with_reducible refine s_end hK ?_); clear hK K)
     | (with_reducible first | refine then_normal ?_)
     | refine w_exit ?_
     | refine w_ret ?_
     | (with_reducible first | refine s_none ?_ | refine x_assign (h := ?_))
     | (with_reducible refine x_q (h := ?_))
     | fail)
    all_goals try clear fx
    rw [inside_end hj] at ho
    refine e_ret [] .nil (by simp; rfl) ?_
    rw [← ho]
    rfl

theorem read_fnU (gl) (p : Prg) (b : Nat) (k : Blk) (hk : p[b]? = some k) (hs : BSm k) : FnOk Tryd.prog gl 121 [pav p, iv b] (fun r y H' => y = .hs r 1 0 k.rd.length ∧ H' r = some (.row 1 (irows k.rd))) := read_fn gl p b k hk hs.body
theorem used_fn (gl) (p : Prg) (b : Nat) (k : Blk) (hk : p[b]? = some k) (hs : BSm k) : FnOk Tryd.prog gl 87 [pav p, iv b] (fun r y H' => y = .hs r 1 0 k.us.length ∧ H' r = some (.row 1 (irows k.us))) := by
  have l1 := k.rd_len
  have l2 := k.bd_len
  have l3 := k.dc_len 9
  have l4 := k.dc_len 10
  have t1 : (k.rd ++ k.bd).take (k.rd.length + k.bd.length) = k.rd ++ k.bd := List.take_of_length_le (by simp)
  have t2 : (k.rd ++ (k.bd ++ k.dc 9)).take (k.rd.length + k.bd.length + (k.dc 9).length) = k.rd ++ (k.bd ++ k.dc 9) := List.take_of_length_le (by simp; omega)
  have hu : k.us = sorted (k.rd ++ (k.bd ++ (k.dc 9 ++ k.dc 10))) := by simp [Blk.us]
  rw [hu]
  refine FnOk.of_sem Tryd.func87 rfl (by kernel_rfl) (rs := [.tmp 4]) rfl Tryd.ntmps87 (Nat.le_of_ble_eq_true rfl) fun C w g root => ?_
  all_goals have fx := And.intro hk <| And.intro t1 <| t2
  repeat' (first
   | refine w_seq ?_ | refine w_reg fun K hK => ?_
   | ((with_reducible refine s_end hK ?_); clear hK K)
   | (with_reducible first | refine then_normal ?_ | refine s_nil ?_)
   | refine w_ret ?_
   | (with_reducible first | refine s_none ?_ | refine x_assign (h := ?_) | refine x_box (h := ?_) | refine x_append (T := 34) (h := ?_))
   | ((with_reducible refine o_id 121 rfl ?_); refine x_callh (hF := read_fnU _ p b k hk hs) (h := ?_))
   | ((with_reducible refine o_id 122 rfl ?_); refine x_callh (hF := bound_fn _ p b k hk hs) (h := ?_))
   | ((with_reducible refine o_id 108 rfl ?_); refine x_callh (hF := declared_fn _ p b k _ hk hs) (h := ?_))
   | ((with_reducible refine o_id 120 rfl ?_); refine x_callh (hF := sorted_fn _ (k.rd ++ (k.bd ++ (k.dc 9 ++ k.dc 10))) (by simp; omega)) (h := ?_))
   | (refine w_sch (id := 1) (.q 0 <| .q 1 <| .q 3 <| .q 4 <| .q 7 <| .q 8 <| .q 11 <| .q 12 <| .l 2 [12, 11, 8, 7, 4, 3] <| .l 5 [12, 11, 8, 7] <| .l 6 [12, 11, 8, 7] <| .l 9 [12, 11] <| .l 10 [12, 11] <| .l 13 [] <| .l 14 [] <| .l 15 [] <| .l 16 [] <| .done) mixed (by kernel_rfl) (by kernel_rfl) fun K hK => ?_)
   | ((with_reducible refine a_end hK ?_); clear hK K)
   | ((with_reducible refine a_id ?_); first | refine xa_q (h := ?_))
   | refine a_l rfl ?_ | (with_reducible refine And.intro ?_ ?_) | exact st_nil | refine xa_st (h2 := ?_)
   | fail)
  all_goals try clear fx
  all_goals
    exact e_list (t := 4) (by first | (simp []; done) | (simp []; rfl)) (by first | (simp []; done) | (simp []; rfl)) (by simp)

theorem validAt_fn (gl) (p : Prg) (b : Int) (hs : Sml p) : FnOk Tryd.prog gl 125 [pav p, iv b] (fun _ y _ => y = bv (shapeOk p && (decide (0 ≤ b) && decide (b ≤ (p.length : Int) - 1)))) := by
  have hpl := hs.len
  have w2 : IntKind.i64.wrap ((p.length : Int) - 1) = p.length - 1 := wrp (by omega) (by omega)
  refine FnOk.of_sem Tryd.func125 rfl (by kernel_rfl) (rs := [.tmp 4]) rfl Tryd.ntmps125 (Nat.le_of_ble_eq_true rfl) fun C w g root => ?_
  all_goals have fx :=  w2
  repeat' (first
   | refine w_seq ?_ | refine w_reg fun K hK => ?_
   | ((with_reducible refine s_end hK ?_); clear hK K)
   | (with_reducible first | refine then_normal ?_)
   | refine w_ret ?_
   | (with_reducible refine s_none ?_)
   | ((with_reducible refine g_id ?_); refine x_guard (h := ?_))
   | (with_reducible first | refine gx_tt ?_ | refine x_tf (h := ?_) | refine x_assign (h := ?_) | refine x_box (h := ?_))
   | ((with_reducible refine o_id 107 rfl ?_); refine x_call (hF := validShape_fn _ p hs) (h := ?_))
   | ((with_reducible refine o_id 70 rfl ?_); refine x_call (hF := inRange_fn _ _ _ _) (h := ?_))
   | (with_reducible refine x_q (h := ?_))
   | (with_reducible refine gx_s (fun ht => ?_) (fun ht => ?_))
   | fail)
  all_goals try clear fx
  all_goals refine e_ret [] .nil (by simp; rfl) ?_
  all_goals simp_all

theorem validUse_fn (gl) (p : Prg) (b x : Int) (hs : Sml p) : FnOk Tryd.prog gl 89 [pav p, iv b, iv x] (fun _ y _ => y = bv ((shapeOk p && (decide (0 ≤ b) && decide (b ≤ (p.length : Int) - 1))) && (decide (0 ≤ x) && decide (x ≤ 7)))) := by
  refine FnOk.of_sem Tryd.func89 rfl (by kernel_rfl) (rs := [.tmp 6]) rfl Tryd.ntmps89 (Nat.le_of_ble_eq_true rfl) fun C w g root => ?_
  all_goals have fx := fx0
  repeat' (first
   | refine w_seq ?_ | refine w_reg fun K hK => ?_
   | ((with_reducible refine s_end hK ?_); clear hK K)
   | (with_reducible first | refine then_normal ?_)
   | refine w_ret ?_
   | (with_reducible refine s_none ?_)
   | ((with_reducible refine g_id ?_); refine x_guard (h := ?_))
   | (with_reducible first | refine gx_tt ?_ | refine x_tf (h := ?_) | refine x_assign (h := ?_) | refine x_box (h := ?_))
   | ((with_reducible refine o_id 125 rfl ?_); refine x_call (hF := validAt_fn _ p b hs) (h := ?_))
   | ((with_reducible refine o_id 126 rfl ?_); refine x_call (hF := spec_isName_fn _ _) (h := ?_))
   | (with_reducible refine x_q (h := ?_))
   | (with_reducible refine gx_s (fun ht => ?_) (fun ht => ?_))
   | fail)
  all_goals try clear fx
  all_goals refine e_ret [] .nil (by simp; rfl) ?_
  all_goals simp_all
  all_goals (intro h1 h2 h3; have := ht h1 h2; omega)
end Go.Proofs.YtmpbjmihjelhgaaDoor
end

section
/-
  The generator's blocks and names of a program: what they are.
-/
set_option maxRecDepth 100000
set_option maxHeartbeats 2000000
set_option linter.unusedSimpArgs false
namespace Go.Proofs.YtmpbjmihjelhgaaDoor
open Go Go.Hm Go.Proofs
attribute [local simp] slcAV rowsIn

/-- a program and a number -/
def BlkOfPost (bs : List Int) (m : Nat) : Nm → AV → (Nm → Option AO) → Prop := fun r z H' => ∃ (p : Prg) (b : Int) (pos' : Nat), z = .tup [.agg [.hs r 4 0 p.length], iv b] ∧ OwnP H' r p ∧ Sml p ∧ (1 ≤ p.length ∧ p.length ≤ 8) ∧ pos' ≤ m ∧ H' (.u 1 0 0) = some (rdO bs pos')
/-- a program and two numbers -/
def UseOfPost (bs : List Int) (m : Nat) : Nm → AV → (Nm → Option AO) → Prop := fun r z H' => ∃ (p : Prg) (b x : Int) (pos' : Nat), z = .tup [.agg [.hs r 4 0 p.length], iv b, iv x] ∧ OwnP H' r p ∧ Sml p ∧ (1 ≤ p.length ∧ p.length ≤ 8) ∧ pos' ≤ m ∧ H' (.u 1 0 0) = some (rdO bs pos')

theorem blockOf_fn (gl) (H : Nm → Option AO) (bs : List Int) (pos : Nat) (hb : BytesOk bs) (hpos : pos ≤ 500000) (hH : H (.u 1 0 0) = some (rdO bs pos)) (hV : H (.u 2 0 0) = none) (hV4 : H (.u 4 0 0) = none) (hV5 : H (.u 5 0 0) = none) :
    FnE Tryd.prog gl 75 (Nm.under (.u 1 0 0)) [.pt (.u 1 0 0) 0] H (BlkOfPost bs (pos + 4000)) noE := by
  refine FnE.of_sem Tryd.func75 rfl (by kernel_rfl) (rs := [.cell 2 25, .tmp 3]) rfl Tryd.ntmps75 (Nat.le_of_ble_eq_true rfl) (fun _ => under_usroot rfl) fun C w g root hroot => ?_
  have hr0 := hroot root (Nm.under_self _)
  all_goals have fx := fx0
  repeat' (first
   | refine w_seq ?_ | refine w_reg fun K hK => ?_
   | ((with_reducible refine s_end hK ?_); clear hK K)
   | (with_reducible first | refine s_none ?_ | refine x_assign (h := ?_) | refine x_alloc (h := ?_))
   | (with_reducible refine x_q (h := ?_))
   | fail)
  all_goals try clear fx
  refine x_rdo (bs := bs) (hs := by simp [hH]) (ha := by first | (simp; done) | (simp; rfl)) (hF := anyProgram_fn _ _ bs pos hb (by omega) (by simp [hH]) (by simp) (by simp) (by simp)) (h := ?_)
  rintro z H1 ⟨p, q, rfl, ⟨ho1, ho2, ho3⟩, ⟨hs, hpl, hq⟩, hU⟩
  refine ⟨q, hU, ?_⟩
  all_goals have fx :=  ho1
  repeat' (first
   | refine w_seq ?_ | refine w_reg fun K hK => ?_
   | ((with_reducible refine s_end hK ?_); clear hK K)
   | (with_reducible first | refine s_none ?_ | refine x_alloc (h := ?_) | refine x_store0 (h := ?_))
   | (with_reducible refine x_q (h := ?_))
   | fail)
  all_goals try clear fx
  refine x_rd (hs := by simp) (ha := by first | (simp; done) | (simp; rfl)) (hF := pick_rd _ _ bs q 16 hb (by omega) (by omega) (by simp)) (h := ?_)
  rintro x px ⟨hx, rfl⟩
  refine s_abs (fun st => st.tm 0 = .pt (.u 1 0 0) 0 ∧ st.hp (.u 1 0 0) = some (rdO bs (q + 1)) ∧ st.tm 2 = .pt (.s 2) 0 ∧ st.hp (.s 2) = some (.row 1 [[.hs (.c (.s 2) 0 0) 4 0 0]]) ∧ st.hp (.c (.s 2) 0 0) = some (.row 4 []) ∧ st.tm 4 = .pt (.s 4) 0 ∧ st.hp (.s 4) = some (.row 1 [[.hs (.c (.s 4) 0 0) 4 0 p.length]]) ∧ OwnP st.hp (.c (.s 4) 0 0) p ∧ st.tm 8 = iv x)
    ⟨by simp, by simp, by simp, by simp, by simp, by simp, by simp, ⟨by simp [ho1], fun j r hj => by simp [ho2 j r hj], fun j r hj => by simp [ho3 j r hj]⟩, by simp⟩ ?_
  clear ho1 ho2 ho3 hU
  rintro st ⟨h0, hU, h2, hp2, hp2', h4, hp4, ⟨ho1, ho2, ho3⟩, h8⟩
  have hwl : IntKind.i64.wrap ((p.length : Int) - 1) = ((p.length - 1 : Nat) : Int) := by rw [wrp (by omega) (by omega)]; omega
  have hxc : x = 0 ∨ ¬ x = 0 := by omega
  rcases hxc with rfl | hx0
  · skip
    all_goals have fx := And.intro h0 <| And.intro h2 <| And.intro hp2 <| And.intro hp2' <| And.intro h4 <| And.intro hp4 <| h8
    repeat' (first
     | refine w_seq ?_
     | ((with_reducible refine s_end hK ?_); clear hK K)
     | (with_reducible first | refine then_normal ?_ | refine s_nil ?_)
     | (with_reducible first | refine s_none ?_ | refine x_build (h := ?_))
     | (with_reducible refine x_q (h := ?_))
     | refine x_condt (h1 := ?_)
     | (refine w_sch (id := 3) (.q 0 <| .q 1 <| .l 2 [1, 0] <| .l 3 [0] <| .l 4 [] <| .l 5 [] <| .done) mixed (by kernel_rfl) (by kernel_rfl) fun K hK => ?_)
     | ((with_reducible refine a_id ?_); first | refine xa_q (h := ?_))
     | refine a_l rfl ?_ | (with_reducible refine And.intro ?_ ?_) | exact st_nil | refine xa_st (h2 := ?_)
     | fail)
    all_goals try clear fx
    refine x_one (oneOk _) 12 [-1, 7] (bs := bs) (pos := q + 1) hb (by omega) (hV := hV) (h0 := by simp [h0]) (h1 := by simp) (hH := by simp [hU]) (hL := by simp [irows]) (h := ?_)
    intro v hv
    all_goals have fx := And.intro h0 <| And.intro h2 <| And.intro hp2 <| And.intro hp2' <| And.intro h4 <| And.intro hp4 <| h8
    repeat' (first
     | (with_reducible first | refine then_normal ?_ | refine then_ret ?_ | refine s_nil ?_)
     | refine w_ret ?_
     | (with_reducible first | refine s_none ?_ | refine x_assign (h := ?_) | refine x_store0 (h := ?_))
     | ((with_reducible refine a_end hK ?_); clear hK K)
     | refine a_l rfl ?_ | (with_reducible refine And.intro ?_ ?_) | exact st_nil | refine xa_st (h2 := ?_)
     | fail)
    all_goals try clear fx
    refine e_ret [(.c (.s 4) 0 0, root)] (.one rfl) (by simp [h2]; rfl) ⟨p, v, q + 1 + 1, by simp, ⟨?_, fun j r hj => ?_, fun j r hj => ?_⟩, hs, hpl, by omega, by simp⟩
    · simp [ho1, hr0, pRows_tr (n := .c (.s 4) 0 0) (m := root) (f := finf (Nm.under (.u 1 0 0)) [(.c (.s 4) 0 0, root)]) (p := p) (by simp [hr0])]
    · simp [ho2 j r hj, hr0]
    · simp [ho3 j r hj, hr0]
  · skip
    all_goals have fx := And.intro h0 <| And.intro h2 <| And.intro hp2 <| And.intro hp2' <| And.intro h4 <| And.intro hp4 <| And.intro h8 <| And.intro hx0 <| hwl
    repeat' (first
     | refine w_seq ?_ | refine w_skip ?_
     | ((with_reducible refine s_end hK ?_); clear hK K)
     | (with_reducible first | refine then_normal ?_)
     | (with_reducible first | refine s_none ?_)
     | (with_reducible refine x_q (h := ?_))
     | refine x_condf (h1 := ?_)
     | (refine w_sch (id := 4) (.q 0 <| .q 1 <| .q 2 <| .q 3 <| .q 4 <| .q 5 <| .q 6 <| .q 7 <| .q 8 <| .q 9 <| .l 10 [8, 7, 5, 4, 3, 2, 1, 0] <| .l 11 [8, 7, 4, 3, 2, 1, 0] <| .l 12 [8, 7, 4, 3, 2, 0] <| .l 13 [8, 7, 4, 3, 2] <| .l 14 [] <| .done) mixed (by kernel_rfl) (by kernel_rfl) fun K hK => ?_)
     | ((with_reducible refine a_id ?_); first | refine xa_q (h := ?_))
     | refine a_l rfl ?_
     | fail)
    all_goals try clear fx
    refine x_rd (hs := by simp [hU]) (ha := by first | (simp [h0]; done) | (simp [h0]; rfl)) (hF := pick_rd _ _ bs (q + 1) p.length hb (by omega) (by omega) (by simp [hU])) (h := ?_)
    rintro y py ⟨hy, rfl⟩
    all_goals have fx := And.intro h0 <| And.intro h2 <| And.intro hp2 <| And.intro hp2' <| And.intro h4 <| And.intro hp4 <| And.intro h8 <| And.intro hx0 <| hwl
    repeat' (first
     | (with_reducible first | refine s_nil ?_)
     | (with_reducible first | refine s_none ?_ | refine x_build (h := ?_))
     | refine a_l rfl ?_ | (with_reducible refine And.intro ?_ ?_) | exact st_nil | refine xa_st (h2 := ?_)
     | fail)
    all_goals try clear fx
    refine x_one (oneOk _) 25 [((p.length - 1 : Nat) : Int), (y : Int)] (bs := bs) (pos := q + 1 + 1) hb (by omega) (hV := hV) (h0 := by simp [h0]) (h1 := by simp) (hH := by simp) (hL := by simp [irows]) (h := ?_)
    intro v hv
    all_goals have fx := And.intro h0 <| And.intro h2 <| And.intro hp2 <| And.intro hp2' <| And.intro h4 <| And.intro hp4 <| And.intro h8 <| And.intro hx0 <| hwl
    repeat' (first
     | (with_reducible first | refine then_normal ?_ | refine s_nil ?_)
     | refine w_ret ?_
     | (with_reducible first | refine s_none ?_ | refine x_assign (h := ?_) | refine x_store0 (h := ?_))
     | ((with_reducible refine a_end hK ?_); clear hK K)
     | refine a_l rfl ?_ | (with_reducible refine And.intro ?_ ?_) | exact st_nil | refine xa_st (h2 := ?_)
     | fail)
    all_goals try clear fx
    refine e_ret [(.c (.s 4) 0 0, root)] (.one rfl) (by simp [h2]; rfl) ⟨p, v, q + 1 + 1 + 1, by simp, ⟨?_, fun j r hj => ?_, fun j r hj => ?_⟩, hs, hpl, by omega, by simp⟩
    · simp [ho1, hr0, pRows_tr (n := .c (.s 4) 0 0) (m := root) (f := finf (Nm.under (.u 1 0 0)) [(.c (.s 4) 0 0, root)]) (p := p) (by simp [hr0])]
    · simp [ho2 j r hj, hr0]
    · simp [ho3 j r hj, hr0]

theorem useOf_fn (gl) (H : Nm → Option AO) (bs : List Int) (pos : Nat) (hb : BytesOk bs) (hpos : pos ≤ 400000) (hH : H (.u 1 0 0) = some (rdO bs pos)) (hV : H (.u 2 0 0) = none) (hV4 : H (.u 4 0 0) = none) (hV5 : H (.u 5 0 0) = none) :
    FnE Tryd.prog gl 86 (Nm.under (.u 1 0 0)) [.pt (.u 1 0 0) 0] H (UseOfPost bs (pos + 5000)) noE := by
  refine FnE.of_sem Tryd.func86 rfl (by kernel_rfl) (rs := [.cell 2 25, .tmp 3, .tmp 4]) rfl Tryd.ntmps86 (Nat.le_of_ble_eq_true rfl) (fun _ => under_usroot rfl) fun C w g root hroot => ?_
  have hr0 := hroot root (Nm.under_self _)
  all_goals have fx := fx0
  repeat' (first
   | refine w_seq ?_ | refine w_reg fun K hK => ?_
   | ((with_reducible refine s_end hK ?_); clear hK K)
   | (with_reducible first | refine s_none ?_ | refine x_assign (h := ?_) | refine x_alloc (h := ?_))
   | (with_reducible refine x_q (h := ?_))
   | fail)
  all_goals try clear fx
  refine x_rdo (bs := bs) (hs := by simp [hH]) (ha := by first | (simp; done) | (simp; rfl)) (hF := blockOf_fn _ _ bs pos hb (by omega) (by simp [hH]) (by simp) (by simp) (by simp)) (h := ?_)
  rintro z H1 ⟨p, b, q, rfl, ⟨ho1, ho2, ho3⟩, hs, hpl, hq, hU⟩
  refine ⟨q, hU, ?_⟩
  all_goals have fx :=  ho1
  repeat' (first
   | refine w_seq ?_
   | ((with_reducible refine s_end hK ?_); clear hK K)
   | (with_reducible first | refine s_nil ?_)
   | (with_reducible first | refine s_none ?_ | refine x_assign (h := ?_) | refine x_alloc (h := ?_) | refine x_store0 (h := ?_) | refine x_build (h := ?_))
   | (with_reducible refine x_q (h := ?_))
   | (refine w_sch (id := 2) (.q 0 <| .q 1 <| .q 2 <| .l 3 [2, 1, 0] <| .l 4 [1, 0] <| .l 5 [1] <| .l 6 [] <| .l 7 [] <| .done) mixed (by kernel_rfl) (by kernel_rfl) fun K hK => ?_)
   | ((with_reducible refine a_id ?_); first | refine xa_q (h := ?_))
   | refine a_l rfl ?_ | (with_reducible refine And.intro ?_ ?_) | exact st_nil | refine xa_st (h2 := ?_)
   | fail)
  all_goals try clear fx
  refine x_one (oneOk _) 15 [0, 1, 2, 3, 4, 5, 6, 7, 0, 1, 8, -1] (bs := bs) (pos := q) hb (by omega) (hV := hV) (h0 := by simp) (h1 := by simp) (hH := by simp) (hL := by simp [irows]) (h := ?_)
  intro x hx
  have h2 : True := trivial
  all_goals have fx :=  ho1
  repeat' (first
   | (with_reducible first | refine then_normal ?_ | refine s_nil ?_)
   | refine w_ret ?_
   | (with_reducible first | refine s_none ?_ | refine x_assign (h := ?_) | refine x_store0 (h := ?_))
   | ((with_reducible refine a_end hK ?_); clear hK K)
   | refine a_l rfl ?_ | (with_reducible refine And.intro ?_ ?_) | exact st_nil | refine xa_st (h2 := ?_)
   | fail)
  all_goals try clear fx
  refine e_ret [(.c (.s 5) 0 0, root)] (.one rfl) (by simp [h2]; rfl) ⟨p, b, x, q + 1, by simp, ⟨?_, fun j r hj => ?_, fun j r hj => ?_⟩, hs, hpl, by omega, by simp⟩
  · simp [ho1, hr0, pRows_tr (n := .c (.s 5) 0 0) (m := root) (f := finf (Nm.under (.u 1 0 0)) [(.c (.s 5) 0 0, root)]) (p := p) (by simp [hr0])]
  · simp [ho2 j r hj, hr0]
  · simp [ho3 j r hj, hr0]

theorem usedOf_fn (gl) (H : Nm → Option AO) (bs : List Int) (pos : Nat) (hb : BytesOk bs) (hpos : pos ≤ 300000) (hH : H (.u 1 0 0) = some (rdO bs pos)) (hV : H (.u 2 0 0) = none) (hV4 : H (.u 4 0 0) = none) (hV5 : H (.u 5 0 0) = none) :
    FnE Tryd.prog gl 52 (Nm.under (.u 1 0 0)) [.pt (.u 1 0 0) 0] H (UseOfPost bs (pos + 6000)) noE := by
  refine FnE.of_sem Tryd.func52 rfl (by kernel_rfl) (rs := [.cell 2 25, .tmp 3, .tmp 4]) rfl Tryd.ntmps52 (Nat.le_of_ble_eq_true rfl) (fun _ => under_usroot rfl) fun C w g root hroot => ?_
  have hr0 := hroot root (Nm.under_self _)
  all_goals have fx := fx0
  repeat' (first
   | refine w_seq ?_ | refine w_reg fun K hK => ?_
   | ((with_reducible refine s_end hK ?_); clear hK K)
   | (with_reducible refine s_none ?_)
   | (with_reducible first | refine x_assign (h := ?_) | refine x_alloc (h := ?_))
   | (with_reducible refine x_q (h := ?_))
   | fail)
  all_goals try clear fx
  refine x_rdo (bs := bs) (hs := by simp [hH]) (ha := by first | (simp; done) | (simp; rfl)) (hF := useOf_fn _ _ bs pos hb (by omega) (by simp [hH]) (by simp) (by simp) (by simp)) (h := ?_)
  rintro z H1 ⟨p, b, x, q, rfl, ⟨ho1, ho2, ho3⟩, hs, hpl, hq, hU⟩
  refine ⟨q, hU, ?_⟩
  all_goals have fx :=  ho1
  repeat' (first
   | refine w_seq ?_ | refine w_reg fun K hK => ?_
   | ((with_reducible refine s_end hK ?_); clear hK K)
   | (with_reducible refine s_none ?_)
   | (with_reducible first | refine x_assign (h := ?_) | refine x_alloc (h := ?_) | refine x_store0 (h := ?_))
   | (with_reducible refine x_q (h := ?_))
   | fail)
  all_goals try clear fx
  refine o_abs (fun st => st.tm 0 = .pt (.u 1 0 0) 0 ∧ st.hp (.u 1 0 0) = some (rdO bs q) ∧ st.tm 2 = .pt (.s 2) 0 ∧ st.hp (.s 2) = some (.row 1 [[.hs (.c (.s 2) 0 0) 4 0 0]]) ∧ st.hp (.c (.s 2) 0 0) = some (.row 4 []) ∧ st.tm 5 = .pt (.s 5) 0 ∧ st.hp (.s 5) = some (.row 1 [[.hs (.c (.s 5) 0 0) 4 0 p.length]]) ∧ OwnP st.hp (.c (.s 5) 0 0) p ∧ st.tm 6 = iv b ∧ st.tm 7 = iv x ∧ st.tm 15 = .agg [.hs (.c (.s 5) 0 0) 4 0 p.length])
    ⟨by simp, by simp, by simp, by simp, by simp, by simp, by simp, ⟨by simp [ho1], fun j r hj => by simp [ho2 j r hj], fun j r hj => by simp [ho3 j r hj]⟩, by simp, by simp, by simp⟩ ?_
  clear ho1 ho2 ho3 hU
  rintro st ⟨h0, hU, h2, hp2, hp2', h5, hp5, ⟨ho1, ho2, ho3⟩, h6, h7, h15⟩
  have h3r : True := trivial
  have h4r : True := trivial
  have hwl : IntKind.i64.wrap ((p.length : Int) - 1) = (p.length : Int) - 1 := wrp (by omega) (by omega)
  cases hv : progOk p
  · skip
    all_goals have fx := And.intro h0 <| And.intro h2 <| And.intro hp2 <| And.intro hp2' <| And.intro h5 <| And.intro hp5 <| And.intro h6 <| And.intro h7 <| And.intro h15 <| hv
    repeat' (first
     | refine w_seq ?_ | refine w_skip ?_ | refine w_reg fun K hK => ?_
     | ((with_reducible refine s_end hK ?_); clear hK K)
     | (with_reducible first | refine then_normal ?_)
     | refine w_ret ?_
     | (with_reducible refine s_none ?_)
     | ((with_reducible refine g_id ?_); refine x_guard (h := ?_))
     | (with_reducible first | refine x_tf (h := ?_) | refine x_assign (h := ?_) | refine x_store0 (h := ?_))
     | ((with_reducible refine o_id 69 rfl ?_); refine x_call (hB := (by first | ((repeat' (first | exact .nil | refine .cons ?_ ?_ | exact .refl _ | exact bw_ints (by simp [fx]; first | done | rfl) (by first | (simp [fx]; done) | (simp [fx]; omega) | omega) | exact bw_list (by simp [fx]; first | done | rfl) (by first | (simp [fx]; done) | (simp [fx]; omega) | omega) (by first | (simp; done) | fail) | exact bw_agg1 (bw_prog (p := p) (n := .c (.s 5) 0 0) ⟨by simp [ho1], fun j r hj => by simp [ho2 j r hj], fun j r hj => by simp [ho3 j r hj]⟩ rfl))); done) | fail)) (hF := validProgram_fn _ p hs) (h := ?_))
     | (with_reducible refine x_q (h := ?_))
     | refine x_condf (h1 := ?_)
     | fail)
    all_goals try clear fx
    refine e_ret [(.c (.s 5) 0 0, root)] (.one rfl) (by simp [h2, h3r, h4r]; rfl) ⟨p, b, x, q, by simp, ⟨?_, fun j r hj => ?_, fun j r hj => ?_⟩, hs, hpl, by omega, by simp [hU]⟩
    · simp [ho1, hr0, pRows_tr (n := .c (.s 5) 0 0) (m := root) (f := finf (Nm.under (.u 1 0 0)) [(.c (.s 5) 0 0, root)]) (p := p) (by simp [hr0])]
    · simp [ho2 j r hj, hr0]
    · simp [ho3 j r hj, hr0]
  cases hin : (decide (0 ≤ b) && decide (b ≤ (p.length : Int) - 1))
  · skip
    all_goals have fx := And.intro h0 <| And.intro h2 <| And.intro hp2 <| And.intro hp2' <| And.intro h5 <| And.intro hp5 <| And.intro h6 <| And.intro h7 <| And.intro h15 <| And.intro hv <| And.intro hwl <| hin
    repeat' (first
     | refine w_seq ?_ | refine w_skip ?_ | refine w_reg fun K hK => ?_
     | ((with_reducible refine s_end hK ?_); clear hK K)
     | (with_reducible first | refine then_normal ?_)
     | refine w_ret ?_
     | (with_reducible refine s_none ?_)
     | ((with_reducible refine g_id ?_); refine x_guard (h := ?_))
     | (with_reducible first | refine gx_tt ?_ | refine x_tf (h := ?_) | refine x_assign (h := ?_) | refine x_store0 (h := ?_))
     | ((with_reducible refine o_id 69 rfl ?_); refine x_call (hB := (by first | ((repeat' (first | exact .nil | refine .cons ?_ ?_ | exact .refl _ | exact bw_ints (by simp [fx]; first | done | rfl) (by first | (simp [fx]; done) | (simp [fx]; omega) | omega) | exact bw_list (by simp [fx]; first | done | rfl) (by first | (simp [fx]; done) | (simp [fx]; omega) | omega) (by first | (simp; done) | fail) | exact bw_agg1 (bw_prog (p := p) (n := .c (.s 5) 0 0) ⟨by simp [ho1], fun j r hj => by simp [ho2 j r hj], fun j r hj => by simp [ho3 j r hj]⟩ rfl))); done) | fail)) (hF := validProgram_fn _ p hs) (h := ?_))
     | ((with_reducible refine o_id 70 rfl ?_); refine x_call (hB := (by first | ((repeat' (first | exact .nil | refine .cons ?_ ?_ | exact .refl _ | exact bw_ints (by simp [fx]; first | done | rfl) (by first | (simp [fx]; done) | (simp [fx]; omega) | omega) | exact bw_list (by simp [fx]; first | done | rfl) (by first | (simp [fx]; done) | (simp [fx]; omega) | omega) (by first | (simp; done) | fail) | exact bw_agg1 (bw_prog (p := p) (n := .c (.s 5) 0 0) ⟨by simp [ho1], fun j r hj => by simp [ho2 j r hj], fun j r hj => by simp [ho3 j r hj]⟩ rfl))); done) | fail)) (hF := inRange_fn _ _ _ _) (h := ?_))
     | (with_reducible refine x_q (h := ?_))
     | refine x_condf (h1 := ?_)
     | fail)
    all_goals try clear fx
    refine e_ret [(.c (.s 5) 0 0, root)] (.one rfl) (by simp [h2, h3r, h4r]; rfl) ⟨p, b, x, q, by simp, ⟨?_, fun j r hj => ?_, fun j r hj => ?_⟩, hs, hpl, by omega, by simp [hU]⟩
    · simp [ho1, hr0, pRows_tr (n := .c (.s 5) 0 0) (m := root) (f := finf (Nm.under (.u 1 0 0)) [(.c (.s 5) 0 0, root)]) (p := p) (by simp [hr0])]
    · simp [ho2 j r hj, hr0]
    · simp [ho3 j r hj, hr0]
  obtain ⟨hb0, hb1⟩ : 0 ≤ b ∧ b ≤ (p.length : Int) - 1 := by simpa using hin
  obtain ⟨B, rfl⟩ : ∃ B : Nat, b = B := ⟨b.toNat, by omega⟩
  obtain ⟨k, hk⟩ : ∃ k, p[B]? = some k := ⟨_, List.getElem?_eq_getElem (by omega)⟩
  have hul : k.us.length ≤ 8 := k.us_len
  all_goals have fx := And.intro h0 <| And.intro h2 <| And.intro hp2 <| And.intro hp2' <| And.intro h5 <| And.intro hp5 <| And.intro h6 <| And.intro h7 <| And.intro h15 <| And.intro hv <| And.intro hwl <| And.intro hin <| hb1
  repeat' (first
   | (with_reducible refine s_none ?_)
   | ((with_reducible refine g_id ?_); refine x_guard (h := ?_))
   | (with_reducible first | refine gx_tt ?_)
   | ((with_reducible refine o_id 69 rfl ?_); refine x_call (hB := (by first | ((repeat' (first | exact .nil | refine .cons ?_ ?_ | exact .refl _ | exact bw_ints (by simp [fx]; first | done | rfl) (by first | (simp [fx]; done) | (simp [fx]; omega) | omega) | exact bw_list (by simp [fx]; first | done | rfl) (by first | (simp [fx]; done) | (simp [fx]; omega) | omega) (by first | (simp; done) | fail) | exact bw_agg1 (bw_prog (p := p) (n := .c (.s 5) 0 0) ⟨by simp [ho1], fun j r hj => by simp [ho2 j r hj], fun j r hj => by simp [ho3 j r hj]⟩ rfl))); done) | fail)) (hF := validProgram_fn _ p hs) (h := ?_))
   | ((with_reducible refine o_id 70 rfl ?_); refine x_call (hB := (by first | ((repeat' (first | exact .nil | refine .cons ?_ ?_ | exact .refl _ | exact bw_ints (by simp [fx]; first | done | rfl) (by first | (simp [fx]; done) | (simp [fx]; omega) | omega) | exact bw_list (by simp [fx]; first | done | rfl) (by first | (simp [fx]; done) | (simp [fx]; omega) | omega) (by first | (simp; done) | fail) | exact bw_agg1 (bw_prog (p := p) (n := .c (.s 5) 0 0) ⟨by simp [ho1], fun j r hj => by simp [ho2 j r hj], fun j r hj => by simp [ho3 j r hj]⟩ rfl))); done) | fail)) (hF := inRange_fn _ _ _ _) (h := ?_))
   | (with_reducible refine x_q (h := ?_))
   | fail)
  all_goals try clear fx
  refine x_rd (hs := by simp [hU]) (ha := by first | (simp [h0]; done) | (simp [h0]; rfl)) (hF := pick_rd _ _ bs q 6 hb (by omega) (by omega) (by simp [hU])) (h := ?_)
  rintro y py ⟨hy, rfl⟩
  have hyc : y = 0 ∨ 0 < y := by omega
  rcases hyc with rfl | hy0
  · skip
    all_goals have fx := And.intro h0 <| And.intro h2 <| And.intro hp2 <| And.intro hp2' <| And.intro h5 <| And.intro hp5 <| And.intro h6 <| And.intro h7 <| h15
    repeat' (first
     | refine w_seq ?_ | refine w_skip ?_ | refine w_reg fun K hK => ?_
     | ((with_reducible refine s_end hK ?_); clear hK K)
     | (with_reducible first | refine then_normal ?_)
     | refine w_ret ?_
     | (with_reducible refine s_none ?_)
     | ((with_reducible refine g_id ?_); refine x_guard (h := ?_))
     | (with_reducible first | refine gx_tt ?_ | refine x_assign (h := ?_) | refine x_store0 (h := ?_))
     | (with_reducible refine x_q (h := ?_))
     | refine x_condf (h1 := ?_)
     | fail)
    all_goals try clear fx
    refine e_ret [(.c (.s 5) 0 0, root)] (.one rfl) (by simp [h2, h3r, h4r]; rfl) ⟨p, B, x, q + 1, by simp, ⟨?_, fun j r hj => ?_, fun j r hj => ?_⟩, hs, hpl, by omega, by simp⟩
    · simp [ho1, hr0, pRows_tr (n := .c (.s 5) 0 0) (m := root) (f := finf (Nm.under (.u 1 0 0)) [(.c (.s 5) 0 0, root)]) (p := p) (by simp [hr0])]
    · simp [ho2 j r hj, hr0]
    · simp [ho3 j r hj, hr0]
  all_goals have fx := And.intro h0 <| And.intro h2 <| And.intro hp2 <| And.intro hp2' <| And.intro h5 <| And.intro hp5 <| And.intro h6 <| And.intro h7 <| And.intro h15 <| hy0
  repeat' (first
   | refine w_seq ?_ | refine w_reg fun K hK => ?_
   | ((with_reducible refine s_end hK ?_); clear hK K)
   | (with_reducible first | refine then_normal ?_)
   | (with_reducible refine s_none ?_)
   | ((with_reducible refine g_id ?_); refine x_guard (h := ?_))
   | (with_reducible first | refine gx_tt ?_ | refine x_assign (h := ?_))
   | ((with_reducible refine o_id 87 rfl ?_); refine x_callh (hB := (by first | ((repeat' (first | exact .nil | refine .cons ?_ ?_ | exact .refl _ | exact bw_ints (by simp [fx]; first | done | rfl) (by first | (simp [fx]; done) | (simp [fx]; omega) | omega) | exact bw_list (by simp [fx]; first | done | rfl) (by first | (simp [fx]; done) | (simp [fx]; omega) | omega) (by first | (simp; done) | fail) | exact bw_agg1 (bw_prog (p := p) (n := .c (.s 5) 0 0) ⟨by simp [ho1], fun j r hj => by simp [ho2 j r hj], fun j r hj => by simp [ho3 j r hj]⟩ rfl))); done) | fail)) (hF := used_fn _ p B k hk (hs.bsm hk)) (h := ?_))
   | (with_reducible refine x_q (h := ?_))
   | refine x_condt (h1 := ?_)
   | fail)
  all_goals try clear fx
  have huc : k.us.length = 0 ∨ 0 < k.us.length := by omega
  rcases huc with hu0 | hu0
  · skip
    all_goals have fx := And.intro h0 <| And.intro h2 <| And.intro hp2 <| And.intro hp2' <| And.intro h5 <| And.intro hp5 <| And.intro h6 <| And.intro h7 <| And.intro h15 <| hu0
    repeat' (first
     | refine w_seq ?_ | refine w_skip ?_ | refine w_reg fun K hK => ?_
     | ((with_reducible refine s_end hK ?_); clear hK K)
     | (with_reducible first | refine then_normal ?_)
     | refine w_ret ?_
     | (with_reducible refine s_none ?_)
     | (with_reducible first | refine x_assign (h := ?_) | refine x_store0 (h := ?_))
     | (with_reducible refine x_q (h := ?_))
     | refine x_condf (h1 := ?_)
     | fail)
    all_goals try clear fx
    refine e_ret [(.c (.s 5) 0 0, root)] (.one rfl) (by simp [h2, h3r, h4r]; rfl) ⟨p, B, x, q + 1, by simp, ⟨?_, fun j r hj => ?_, fun j r hj => ?_⟩, hs, hpl, by omega, by simp⟩
    · simp [ho1, hr0, pRows_tr (n := .c (.s 5) 0 0) (m := root) (f := finf (Nm.under (.u 1 0 0)) [(.c (.s 5) 0 0, root)]) (p := p) (by simp [hr0])]
    · simp [ho2 j r hj, hr0]
    · simp [ho3 j r hj, hr0]
  all_goals have fx := And.intro h0 <| And.intro h2 <| And.intro hp2 <| And.intro hp2' <| And.intro h5 <| And.intro hp5 <| And.intro h6 <| And.intro h7 <| And.intro h15 <| hu0
  repeat' (first
   | refine w_reg fun K hK => ?_
   | (with_reducible refine s_none ?_)
   | (with_reducible refine x_q (h := ?_))
   | refine x_condt (h1 := ?_)
   | fail)
  all_goals try clear fx
  refine x_rd (hs := by simp) (ha := by first | (simp [h0]; done) | (simp [h0]; rfl)) (hF := pick_rd _ _ bs (q + 1) k.us.length hb (by omega) (by omega) (by simp)) (h := ?_)
  rintro z pz ⟨hz, rfl⟩
  have hzl : z < k.us.length := by omega
  obtain ⟨v, hv⟩ : ∃ v, k.us[z]? = some v := ⟨_, List.getElem?_eq_getElem hzl⟩
  obtain ⟨_, hvE⟩ := List.getElem?_eq_some_iff.1 hv
  all_goals have fx := And.intro h0 <| And.intro h2 <| And.intro hp2 <| And.intro hp2' <| And.intro h5 <| And.intro hp5 <| And.intro h6 <| And.intro h7 <| And.intro h15 <| And.intro hzl <| And.intro hv <| hvE
  repeat' (first
   | refine w_seq ?_ | refine w_reg fun K hK => ?_
   | ((with_reducible refine s_end hK ?_); clear hK K)
   | (with_reducible first | refine then_normal ?_)
   | refine w_ret ?_
   | (with_reducible refine s_none ?_)
   | (with_reducible first | refine x_assign (h := ?_) | refine x_store0 (h := ?_))
   | (with_reducible refine x_q (h := ?_))
   | fail)
  all_goals try clear fx
  refine e_ret [(.c (.s 5) 0 0, root)] (.one rfl) (by simp [h2, h3r, h4r]; rfl) ⟨p, B, v, q + 1 + 1, by simp, ⟨?_, fun j r hj => ?_, fun j r hj => ?_⟩, hs, hpl, by omega, by simp⟩
  · simp [ho1, hr0, pRows_tr (n := .c (.s 5) 0 0) (m := root) (f := finf (Nm.under (.u 1 0 0)) [(.c (.s 5) 0 0, root)]) (p := p) (by simp [hr0])]
  · simp [ho2 j r hj, hr0]
  · simp [ho3 j r hj, hr0]
end Go.Proofs.YtmpbjmihjelhgaaDoor
end

section
/-
  The generator's arguments of RenameIn: what they are.
-/
set_option maxRecDepth 100000
set_option maxHeartbeats 2000000
set_option linter.unusedSimpArgs false
namespace Go.Proofs.YtmpbjmihjelhgaaDoor
open Go Go.Hm Go.Proofs
attribute [local simp] slcAV rowsIn

theorem newReader_fn (gl) (code : List Int) (hc : code.length ≤ 1048576) : FnOk Tryd.prog gl 53 [bsl code] (fun r z H' => z = .pt r 0 ∧ H' r = some (rdO (code.take 2000) 0)) := by
  refine FnOk.of_sem Tryd.func53 rfl (by kernel_rfl) (rs := [.tmp 2]) rfl Tryd.ntmps53 (Nat.le_of_ble_eq_true rfl) fun C w g root => ?_
  by_cases hl : 2000 < code.length
  · have hl1 : (2000 : Int) < code.length := by omega
    have hl2 : (2000 : Int) ≤ code.length := by omega
    all_goals have fx := And.intro hl1 <| hl2
    repeat' (first
     | refine w_seq ?_ | refine w_reg fun K hK => ?_
     | ((with_reducible refine s_end hK ?_); clear hK K)
     | (with_reducible first | refine then_normal ?_)
     | refine w_ret ?_
     | (with_reducible first | refine s_none ?_ | refine x_assign (h := ?_) | refine x_box (h := ?_))
     | (with_reducible refine x_q (h := ?_))
     | refine x_condt (h1 := ?_)
     | fail)
    all_goals try clear fx
    refine e_ret [(.s 2, root)] (.one rfl) (by simp; rfl) ⟨by simp, by simp⟩
  · have ht : code.take 2000 = code := List.take_of_length_le (by omega)
    have hl1 : ¬ (2000 : Int) < code.length := by omega
    rw [ht]
    all_goals have fx :=  hl1
    repeat' (first
     | refine w_seq ?_ | refine w_skip ?_ | refine w_reg fun K hK => ?_
     | ((with_reducible refine s_end hK ?_); clear hK K)
     | (with_reducible first | refine then_normal ?_)
     | refine w_ret ?_
     | (with_reducible first | refine s_none ?_ | refine x_assign (h := ?_) | refine x_box (h := ?_))
     | (with_reducible refine x_q (h := ?_))
     | refine x_condf (h1 := ?_)
     | fail)
    all_goals try clear fx
    refine e_ret [(.s 2, root)] (.one rfl) (by simp; rfl) ⟨by simp, by simp⟩

/-- what is known of bytes that are handed to a law -/
structure CodeOk (code : List Int) : Prop where
  len : code.length ≤ 1048576
  rng : ∀ v ∈ code, 0 ≤ v ∧ v ≤ 255
theorem CodeOk.bytes {code : List Int} (h : CodeOk code) : BytesOk (code.take 2000) := ⟨by simp; omega, fun v hv => h.rng v (List.mem_of_mem_take hv)⟩

end Go.Proofs.YtmpbjmihjelhgaaDoor
end
