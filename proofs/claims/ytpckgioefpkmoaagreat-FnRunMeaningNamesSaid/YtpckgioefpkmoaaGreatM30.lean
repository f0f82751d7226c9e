/-
  Own texts, joined by mkclaim.py: Rd, Gn, Re, Rf, Rg, Ta, Sm, Jz.
-/
import Derived.Test.YtpckgioefpkmoaaGreatM29
import Derived.Test.YtpckgioefpkmoaaGreatM11
import Derived.Test.YtpckgioefpkmoaaGreatM20
import Derived.Test.YtpckgioefpkmoaaGreatM12
import Derived.Test.YtpckgioefpkmoaaGreatM21
import Derived.Test.YtpckgioefpkmoaaGreatM15
import Derived.Test.YtpckgioefpkmoaaGreatProg
import Derived.Test.YtpckgioefpkmoaaGreatChecked
import Derived.KernelRfl
set_option linter.unusedSimpArgs false
set_option linter.unusedVariables false

section
set_option maxRecDepth 100000
set_option maxHeartbeats 2000000
set_option linter.unusedSimpArgs false
namespace Go.Proofs.YtpckgioefpkmoaaGreat
open Go Go.Hm Go.Proofs
theorem anyProgram_fn (gl) (H : Nm → Option AO) (bs : List Int) (pos : Nat) (hb : BytesOk bs) (hpos : pos ≤ 600000) (hH : H (.u 1 0 0) = some (rdO bs pos)) (hV : H (.u 2 0 0) = none) (hV4 : H (.u 4 0 0) = none) (hV5 : H (.u 5 0 0) = none) :
    FnE Tryz.prog gl 65 (Nm.under (.u 1 0 0)) [.pt (.u 1 0 0) 0] H (PrgPost bs (fun p pos' => Sml p ∧ (1 ≤ p.length ∧ p.length ≤ 8) ∧ pos' ≤ pos + 3000)) noE := by
  refine FnE.of_sem Tryz.func65 rfl (by kernel_rfl) (rs := [.cell 2 29]) rfl Tryz.ntmps65 (Nat.le_of_ble_eq_true rfl) (fun _ => under_usroot rfl) fun C w g root hroot => ?_
  have hr0 := hroot root (Nm.under_self _)
  all_goals have fx := fx0
  repeat' (first
   | refine w_seq ?_ | refine w_reg fun K hK => ?_
   | ((with_reducible refine s_end hK ?_); clear hK K)
   | (with_reducible first | refine s_none ?_ | refine x_alloc (h := ?_))
   | (with_reducible refine x_q (h := ?_))
   | fail)
  all_goals try clear fx
  refine x_rdo (bs := bs) (hs := by simp [hH]) (ha := by first | (simp; done) | (simp; rfl)) (hF := goodProgram_fn _ _ bs pos hb (by omega) (by simp [hH]) (by simp) (by simp) (by simp)) (h := ?_)
  rintro z H1 ⟨p, q, rfl, ⟨ho1, ho2, ho3⟩, ⟨hg, hq⟩, hU⟩
  refine ⟨q, hU, ?_⟩
  have hgl := hg.len
  have hs := hg.sml
  all_goals have fx :=  ho1
  repeat' (first
   | refine w_seq ?_ | refine w_reg fun K hK => ?_
   | ((with_reducible refine s_end hK ?_); clear hK K)
   | (with_reducible first | refine s_none ?_ | refine x_alloc (h := ?_) | refine x_store0 (h := ?_))
   | (with_reducible refine x_q (h := ?_))
   | fail)
  all_goals try clear fx
  refine x_rd (hs := by simp) (ha := by first | (simp; done) | (simp; rfl)) (hF := pick_rd _ _ bs q p.length hb (by omega) (by omega) (by simp)) (h := ?_)
  rintro x px ⟨hx, rfl⟩
  have hxl : x < p.length := by omega
  all_goals have fx := fx0
  repeat' (first
   | refine w_seq ?_ | refine w_reg fun K hK => ?_
   | ((with_reducible refine s_end hK ?_); clear hK K)
   | (with_reducible first | refine s_none ?_ | refine x_assign (h := ?_))
   | (with_reducible refine x_q (h := ?_))
   | fail)
  all_goals try clear fx
  refine x_rd (hs := by simp) (ha := by first | (simp; done) | (simp; rfl)) (hF := pick_rd _ _ bs (q + 1) 24 hb (by omega) (by omega) (by simp)) (h := ?_)
  rintro y py ⟨hy, rfl⟩
  have hy24 : y < 24 := by omega
  refine s_abs (fun st => st.tm 0 = .pt (.u 1 0 0) 0 ∧ st.hp (.u 1 0 0) = some (rdO bs (q + 1 + 1)) ∧ st.tm 2 = .pt (.s 2) 0 ∧ st.hp (.s 2) = some (.row 1 [[.hs (.c (.s 2) 0 0) 4 0 0]]) ∧ st.hp (.c (.s 2) 0 0) = some (.row 4 []) ∧ st.tm 3 = .pt (.s 3) 0 ∧ st.hp (.s 3) = some (.row 1 [[.hs (.c (.s 3) 0 0) 4 0 p.length]]) ∧ OwnP st.hp (.c (.s 3) 0 0) p ∧ st.tm 4 = iv x ∧ st.tm 13 = iv y)
    ⟨by simp, by simp, by simp, by simp, by simp, by simp, by simp, ⟨by simp [ho1], fun j r hj => by simp [ho2 j r hj], fun j r hj => by simp [ho3 j r hj]⟩, by simp, by simp⟩ ?_
  clear ho1 ho2 ho3 hU
  rintro st ⟨h0, hU, h2, hp2, hp2', h3, hp3, ⟨ho1, ho2, ho3⟩, h4, h13⟩
  obtain ⟨k, hk⟩ : ∃ k, p[x]? = some k := ⟨_, List.getElem?_eq_getElem hxl⟩
  obtain ⟨_, hkE⟩ := List.getElem?_eq_some_iff.1 hk
  have hkp := hg.params k (List.mem_of_getElem? hk)
  have hkb := hg.body k (List.mem_of_getElem? hk)
  have hob := ho3 x k hk
  have hyc : y = 0 ∨ y = 1 ∨ y = 2 ∨ y = 3 ∨ y = 4 ∨ 5 ≤ y := by omega
  clear hy hx
  rcases hyc with rfl | rfl | rfl | rfl | rfl | hy5
  · skip
    all_goals have fx := And.intro h0 <| h13
    repeat' (first
     | refine w_seq ?_ | refine w_block ?_ | refine w_reg fun K hK => ?_
     | ((with_reducible refine s_end hK ?_); clear hK K)
     | (with_reducible first | refine then_normal ?_)
     | (with_reducible first | refine s_none ?_ | refine x_assign (h := ?_))
     | (with_reducible refine x_q (h := ?_))
     | refine x_condt (h1 := ?_)
     | fail)
    all_goals try clear fx
    refine x_rdo (bs := bs) (hs := by simp [hU]) (ha := by first | (simp [h0]; done) | (simp [h0]; rfl)) (hF := shapedProgram_fn _ _ bs (q + 1 + 1) hb (by omega) (by simp [hU]) (by simp) (by simp) (by simp)) (h := ?_)
    rintro z H2 ⟨p2, q2, rfl, ⟨hc1, hc2, hc3⟩, ⟨hg2, hq2⟩, hU2⟩
    refine ⟨q2, hU2, ?_⟩
    all_goals have fx := And.intro h2 <| And.intro hp2 <| And.intro hp2' <| hc1
    repeat' (first
     | ((with_reducible refine s_end hK ?_); clear hK K)
     | (with_reducible first | refine then_normal ?_ | refine then_ret ?_ | refine in_ret ?_)
     | refine w_ret ?_
     | (with_reducible first | refine s_none ?_ | refine x_store0 (h := ?_))
     | fail)
    all_goals try clear fx
    refine e_ret [(.c (.s 2) 0 0, root)] (.one rfl) (by simp [h2]; rfl) ⟨p2, q2, by simp, ⟨?_, fun j r hj => ?_, fun j r hj => ?_⟩, ⟨hg2.sml, hg2.len, by omega⟩, by simp⟩
    · simp [hc1, hr0, pRows_tr (n := .c (.s 2) 0 0) (m := root) (f := finf (Nm.under (.u 1 0 0)) [(.c (.s 2) 0 0, root)]) (p := p2) (by simp [hr0])]
    · simp [hc2 j r hj, hr0]
    · simp [hc3 j r hj, hr0]
  · skip
    all_goals have fx := And.intro h0 <| And.intro h13 <| And.intro h3 <| And.intro hp3 <| And.intro h4 <| And.intro ho1 <| And.intro hxl <| And.intro hk <| And.intro hkE <| hob
    repeat' (first
     | refine w_seq ?_ | refine w_block ?_ | refine w_reg fun K hK => ?_
     | ((with_reducible refine s_end hK ?_); clear hK K)
     | (with_reducible first | refine then_normal ?_ | refine s_nil ?_)
     | (with_reducible first | refine s_none ?_ | refine x_assign (h := ?_) | refine x_build (h := ?_))
     | (with_reducible refine x_q (h := ?_))
     | refine x_condt (h1 := ?_) | refine x_condf (h1 := ?_)
     | (refine w_sch (id := 7) (.q 0 <| .q 1 <| .q 2 <| .q 3 <| .q 4 <| .l 5 [3, 2, 1, 0] <| .l 6 [2, 1, 0] <| .q 7 <| .q 8 <| .l 9 [7] <| .done) mixed (by kernel_rfl) (by kernel_rfl) fun K hK => ?_)
     | ((with_reducible refine a_id ?_); first | refine xa_q (h := ?_))
     | refine a_l rfl ?_ | (with_reducible refine And.intro ?_ ?_) | exact st_nil | refine xa_st (h2 := ?_)
     | fail)
    all_goals try clear fx
    refine x_one (oneOk _) 25 [-2, (x : Int), 7] (bs := bs) (pos := q + 1 + 1) hb (by omega) (hV := hV) (h0 := by simp [h0]) (h1 := by simp) (hH := by simp [hU]) (hL := by simp [irows]) (h := ?_)
    intro v hv
    have hset := pRows_setPar (n := .c (.s 3) 0 0) (v := v) hk
    all_goals have fx := And.intro h0 <| And.intro h13 <| And.intro h3 <| And.intro hp3 <| And.intro h4 <| And.intro ho1 <| And.intro hxl <| And.intro hk <| And.intro hkE <| And.intro hob <| And.intro hset <| And.intro h2 <| And.intro hp2 <| hp2'
    repeat' (first
     | refine w_seq ?_ | refine w_reg fun K hK => ?_
     | ((with_reducible refine s_end hK ?_); clear hK K)
     | (with_reducible first | refine then_normal ?_ | refine s_nil ?_)
     | refine w_ret ?_
     | (with_reducible first | refine s_none ?_ | refine x_store0 (h := ?_))
     | (with_reducible refine x_q (h := ?_))
     | ((with_reducible refine a_end hK ?_); clear hK K)
     | ((with_reducible refine a_id ?_); first | refine xa_q (h := ?_))
     | refine a_l rfl ?_ | (with_reducible refine And.intro ?_ ?_) | exact st_nil | refine xa_st (h2 := ?_)
     | fail)
    all_goals try clear fx
    refine e_ret [(.c (.s 3) 0 0, root)] (.one rfl) (by simp [h2]; rfl) ⟨p.set x { k with parent := v }, q + 1 + 1 + 1, by simp, ⟨?_, fun j r hj => ?_, fun j r hj => ?_⟩, ⟨hs.set (by show k.params.length ≤ _; omega) (by show k.body.length ≤ _; omega), by simp; omega, by omega⟩, by simp⟩
    · simp [hset, hr0, pRows_tr (n := .c (.s 3) 0 0) (m := root) (f := finf (Nm.under (.u 1 0 0)) [(.c (.s 3) 0 0, root)]) (p := p.set x { k with parent := v }) (by simp [hr0])]
    all_goals
      rw [List.getElem?_set] at hj
      by_cases e : x = j
      · subst e
        rw [if_pos rfl, if_pos hxl] at hj
        obtain rfl := Option.some.inj hj
        simp [ho2 x k hk, ho3 x k hk, hr0]
      · rw [if_neg e] at hj
        simp [ho2 j r hj, ho3 j r hj, hr0, e, show ¬ j = x from fun h => e h.symm]
  · skip
    all_goals have fx := And.intro h0 <| And.intro h13 <| And.intro h3 <| And.intro hp3 <| And.intro h4 <| And.intro ho1 <| And.intro hxl <| And.intro hk <| And.intro hkE <| hob
    repeat' (first
     | refine w_seq ?_ | refine w_block ?_ | refine w_reg fun K hK => ?_
     | ((with_reducible refine s_end hK ?_); clear hK K)
     | (with_reducible first | refine then_normal ?_ | refine s_nil ?_)
     | (with_reducible first | refine s_none ?_ | refine x_assign (h := ?_) | refine x_build (h := ?_))
     | (with_reducible refine x_q (h := ?_))
     | refine x_condt (h1 := ?_) | refine x_condf (h1 := ?_)
     | (refine w_sch (id := 9) (.q 0 <| .q 1 <| .q 2 <| .q 3 <| .q 4 <| .q 5 <| .q 6 <| .q 7 <| .q 8 <| .q 9 <| .q 12 <| .l 10 [12, 9, 8, 7, 6, 5, 4, 3, 2, 1, 0] <| .l 11 [12, 8, 7, 6, 5, 4, 3, 2, 1, 0] <| .q 13 <| .l 14 [12, 8, 7, 6, 5, 4, 3, 2, 1, 0] <| .l 15 [12, 7, 6, 5, 4, 3, 2, 1, 0] <| .q 16 <| .q 17 <| .l 18 [16] <| .done) mixed (by kernel_rfl) (by kernel_rfl) fun K hK => ?_)
     | ((with_reducible refine a_id ?_); first | refine xa_q (h := ?_))
     | refine a_l rfl ?_ | (with_reducible refine And.intro ?_ ?_) | exact st_nil | refine xa_st (h2 := ?_)
     | fail)
    all_goals try clear fx
    refine x_one (oneOk _) 41 [-1, 12, 3] (bs := bs) (pos := q + 1 + 1) hb (by omega) (hV := hV) (h0 := by simp [h0]) (h1 := by simp) (hH := by simp [hU]) (hL := by simp [irows]) (h := ?_)
    intro v hv
    have hset := pRows_set (n := .c (.s 3) 0 0) (a := 46) (i := x) (len := k.body.length + 1) (p := p) (L := k.body ++ [⟨v, 0, x, 0⟩]) (by simp) (by simp) (by simp)
    all_goals have fx := And.intro h0 <| And.intro h13 <| And.intro h3 <| And.intro hp3 <| And.intro h4 <| And.intro ho1 <| And.intro hxl <| And.intro hk <| And.intro hkE <| And.intro hob <| And.intro hset <| And.intro h2 <| And.intro hp2 <| hp2'
    repeat' (first
     | refine w_seq ?_ | refine w_reg fun K hK => ?_
     | ((with_reducible refine s_end hK ?_); clear hK K)
     | (with_reducible first | refine then_normal ?_ | refine s_nil ?_)
     | refine w_ret ?_
     | (with_reducible first | refine s_none ?_ | refine x_store0 (h := ?_) | refine x_append (T := 55) (h := ?_) | refine x_build (h := ?_))
     | (with_reducible refine x_q (h := ?_))
     | ((with_reducible refine a_end hK ?_); clear hK K)
     | ((with_reducible refine a_id ?_); first | refine xa_q (h := ?_))
     | refine a_l rfl ?_ | (with_reducible refine And.intro ?_ ?_) | exact st_nil | refine xa_st (h2 := ?_)
     | fail)
    all_goals try clear fx
    refine e_ret [(.c (.s 3) 0 0, root)] (.one rfl) (by simp [h2]; rfl) ⟨setBody p x (k.body ++ [⟨v, 0, x, 0⟩]), q + 1 + 1 + 1, by simp, ⟨?_, fun j r hj => ?_, fun j r hj => ?_⟩, ⟨setBody_sml hs (by simp; omega), by simp; omega, by omega⟩, by simp⟩
    · simp [hset, hr0, pRows_tr (n := .c (.s 3) 0 0) (m := root) (f := finf (Nm.under (.u 1 0 0)) [(.c (.s 3) 0 0, root)]) (p := setBody p x (k.body ++ [⟨v, 0, x, 0⟩])) (by simp [hr0])]
    all_goals
      have hjl : j < p.length := by
        have := (List.getElem?_eq_some_iff.1 hj).1
        rwa [setBody_len] at this
      obtain ⟨r0, hr0'⟩ : ∃ r0, p[j]? = some r0 := ⟨_, List.getElem?_eq_getElem hjl⟩
      rw [setBody_get hr0'] at hj
      obtain rfl := Option.some.inj hj
      by_cases e : x = j
      · subst e
        rw [hk] at hr0'
        obtain rfl := Option.some.inj hr0'
        simp [ho2 x k hk, hob, hr0]
      · simp [ho2 j r0 hr0', ho3 j r0 hr0', hr0, e, show ¬ j = x from fun h => e h.symm]
  · skip
    all_goals have fx := And.intro h0 <| And.intro h13 <| And.intro h3 <| And.intro hp3 <| And.intro h4 <| And.intro ho1 <| And.intro hxl <| And.intro hk <| And.intro hkE <| hob
    repeat' (first
     | refine w_seq ?_ | refine w_block ?_ | refine w_reg fun K hK => ?_
     | ((with_reducible refine s_end hK ?_); clear hK K)
     | (with_reducible first | refine then_normal ?_ | refine s_nil ?_)
     | (with_reducible first | refine s_none ?_ | refine x_assign (h := ?_) | refine x_build (h := ?_))
     | (with_reducible refine x_q (h := ?_))
     | refine x_condt (h1 := ?_) | refine x_condf (h1 := ?_)
     | (refine w_sch (id := 11) (.q 0 <| .q 1 <| .q 2 <| .q 3 <| .q 4 <| .q 5 <| .q 6 <| .q 7 <| .q 8 <| .q 9 <| .l 10 [9, 8, 7, 6, 5, 4, 3, 2, 1, 0] <| .l 11 [8, 7, 6, 5, 4, 3, 2, 1, 0] <| .q 12 <| .l 13 [8, 7, 6, 5, 4, 3, 2, 1, 0] <| .l 14 [7, 6, 5, 4, 3, 2, 1, 0] <| .q 15 <| .q 16 <| .l 17 [15] <| .done) mixed (by kernel_rfl) (by kernel_rfl) fun K hK => ?_)
     | ((with_reducible refine a_id ?_); first | refine xa_q (h := ?_))
     | refine a_l rfl ?_ | (with_reducible refine And.intro ?_ ?_) | exact st_nil | refine xa_st (h2 := ?_)
     | fail)
    all_goals try clear fx
    refine x_one (oneOk _) 61 [8, -1] (bs := bs) (pos := q + 1 + 1) hb (by omega) (hV := hV) (h0 := by simp [h0]) (h1 := by simp) (hH := by simp [hU]) (hL := by simp [irows]) (h := ?_)
    intro v hv
    have hset := pRows_set (n := .c (.s 3) 0 0) (a := 65) (i := x) (len := k.body.length + 1) (p := p) (L := k.body ++ [⟨1, v, 0, 0⟩]) (by simp) (by simp) (by simp)
    all_goals have fx := And.intro h0 <| And.intro h13 <| And.intro h3 <| And.intro hp3 <| And.intro h4 <| And.intro ho1 <| And.intro hxl <| And.intro hk <| And.intro hkE <| And.intro hob <| And.intro hset <| And.intro h2 <| And.intro hp2 <| hp2'
    repeat' (first
     | refine w_seq ?_ | refine w_reg fun K hK => ?_
     | ((with_reducible refine s_end hK ?_); clear hK K)
     | (with_reducible first | refine then_normal ?_ | refine s_nil ?_)
     | refine w_ret ?_
     | (with_reducible first | refine s_none ?_ | refine x_store0 (h := ?_) | refine x_append (T := 55) (h := ?_) | refine x_build (h := ?_))
     | (with_reducible refine x_q (h := ?_))
     | ((with_reducible refine a_end hK ?_); clear hK K)
     | ((with_reducible refine a_id ?_); first | refine xa_q (h := ?_))
     | refine a_l rfl ?_ | (with_reducible refine And.intro ?_ ?_) | exact st_nil | refine xa_st (h2 := ?_)
     | fail)
    all_goals try clear fx
    refine e_ret [(.c (.s 3) 0 0, root)] (.one rfl) (by simp [h2]; rfl) ⟨setBody p x (k.body ++ [⟨1, v, 0, 0⟩]), q + 1 + 1 + 1, by simp, ⟨?_, fun j r hj => ?_, fun j r hj => ?_⟩, ⟨setBody_sml hs (by simp; omega), by simp; omega, by omega⟩, by simp⟩
    · simp [hset, hr0, pRows_tr (n := .c (.s 3) 0 0) (m := root) (f := finf (Nm.under (.u 1 0 0)) [(.c (.s 3) 0 0, root)]) (p := setBody p x (k.body ++ [⟨1, v, 0, 0⟩])) (by simp [hr0])]
    all_goals
      have hjl : j < p.length := by
        have := (List.getElem?_eq_some_iff.1 hj).1
        rwa [setBody_len] at this
      obtain ⟨r0, hr0'⟩ : ∃ r0, p[j]? = some r0 := ⟨_, List.getElem?_eq_getElem hjl⟩
      rw [setBody_get hr0'] at hj
      obtain rfl := Option.some.inj hj
      by_cases e : x = j
      · subst e
        rw [hk] at hr0'
        obtain rfl := Option.some.inj hr0'
        simp [ho2 x k hk, hob, hr0]
      · simp [ho2 j r0 hr0', ho3 j r0 hr0', hr0, e, show ¬ j = x from fun h => e h.symm]
  · skip
    all_goals have fx := And.intro h0 <| And.intro h13 <| And.intro h3 <| And.intro hp3 <| And.intro h4 <| And.intro ho1 <| And.intro hxl <| And.intro hk <| And.intro hkE <| hob
    repeat' (first
     | refine w_seq ?_ | refine w_block ?_ | refine w_reg fun K hK => ?_
     | ((with_reducible refine s_end hK ?_); clear hK K)
     | (with_reducible first | refine then_normal ?_ | refine s_nil ?_)
     | (with_reducible first | refine s_none ?_ | refine x_assign (h := ?_) | refine x_build (h := ?_))
     | (with_reducible refine x_q (h := ?_))
     | refine x_condt (h1 := ?_) | refine x_condf (h1 := ?_)
     | (refine w_sch (id := 13) (.q 0 <| .q 1 <| .q 2 <| .q 3 <| .l 4 [3, 2, 1, 0] <| .l 5 [2, 1, 0] <| .l 6 [2, 1, 0] <| .q 7 <| .q 8 <| .l 9 [7] <| .done) mixed (by kernel_rfl) (by kernel_rfl) fun K hK => ?_)
     | ((with_reducible refine a_id ?_); first | refine xa_q (h := ?_))
     | refine a_l rfl ?_ | (with_reducible refine And.intro ?_ ?_) | exact st_nil | refine xa_st (h2 := ?_)
     | fail)
    all_goals try clear fx
    refine x_one (oneOk _) 74 [8, 1] (bs := bs) (pos := q + 1 + 1) hb (by omega) (hV := hV) (h0 := by simp [h0]) (h1 := by simp) (hH := by simp [hU]) (hL := by simp [irows]) (h := ?_)
    intro v hv
    have hset := pRows_setParams (n := .c (.s 3) 0 0) (a := 76) (len := 2) (L := [v, 2]) hk rfl (by simp) (by simp)
    all_goals have fx := And.intro h0 <| And.intro h13 <| And.intro h3 <| And.intro hp3 <| And.intro h4 <| And.intro ho1 <| And.intro hxl <| And.intro hk <| And.intro hkE <| And.intro hob <| And.intro hset <| And.intro h2 <| And.intro hp2 <| hp2'
    repeat' (first
     | refine w_seq ?_ | refine w_reg fun K hK => ?_
     | ((with_reducible refine s_end hK ?_); clear hK K)
     | (with_reducible first | refine then_normal ?_ | refine s_nil ?_)
     | refine w_ret ?_
     | (with_reducible first | refine s_none ?_ | refine x_store0 (h := ?_) | refine x_build (h := ?_))
     | (with_reducible refine x_q (h := ?_))
     | ((with_reducible refine a_end hK ?_); clear hK K)
     | ((with_reducible refine a_id ?_); first | refine xa_q (h := ?_))
     | refine a_l rfl ?_ | (with_reducible refine And.intro ?_ ?_) | exact st_nil | refine xa_st (h2 := ?_)
     | fail)
    all_goals try clear fx
    refine e_ret [(.c (.s 3) 0 0, root)] (.one rfl) (by simp [h2]; rfl) ⟨p.set x { k with params := [v, 2] }, q + 1 + 1 + 1, by simp, ⟨?_, fun j r hj => ?_, fun j r hj => ?_⟩, ⟨hs.set (by show ([v, 2] : List Int).length ≤ _; simp) (by show k.body.length ≤ _; omega), by simp; omega, by omega⟩, by simp⟩
    · simp [hset, hr0, pRows_tr (n := .c (.s 3) 0 0) (m := root) (f := finf (Nm.under (.u 1 0 0)) [(.c (.s 3) 0 0, root)]) (p := p.set x { k with params := [v, 2] }) (by simp [hr0])]
    all_goals
      rw [List.getElem?_set] at hj
      by_cases e : x = j
      · subst e
        rw [if_pos rfl, if_pos hxl] at hj
        obtain rfl := Option.some.inj hj
        simp [ho3 x k hk, irows, hr0]
      · rw [if_neg e] at hj
        simp [ho2 j r hj, ho3 j r hj, hr0, e, show ¬ j = x from fun h => e h.symm]
  · have hy0 : ¬ y = 0 := by omega
    have hy1 : ¬ y = 1 := by omega
    have hy2 : ¬ y = 2 := by omega
    have hy3 : ¬ y = 3 := by omega
    have hy4 : ¬ y = 4 := by omega
    have e0 : ((y : Int) == 0) = false := by rw [beq_eq_false_iff_ne]; omega
    have e1 : ((y : Int) == 1) = false := by rw [beq_eq_false_iff_ne]; omega
    have e2 : ((y : Int) == 2) = false := by rw [beq_eq_false_iff_ne]; omega
    have e3 : ((y : Int) == 3) = false := by rw [beq_eq_false_iff_ne]; omega
    have e4 : ((y : Int) == 4) = false := by rw [beq_eq_false_iff_ne]; omega
    all_goals have fx := And.intro h2 <| And.intro hp2 <| And.intro hp2' <| And.intro h3 <| And.intro hp3 <| And.intro h13 <| And.intro hy0 <| And.intro e1 <| And.intro e2 <| And.intro e3 <| e4
    repeat' (first
     | refine w_seq ?_ | refine w_block ?_ | refine w_skip ?_ | refine w_reg fun K hK => ?_
     | ((with_reducible refine s_end hK ?_); clear hK K)
     | (with_reducible first | refine then_normal ?_)
     | refine w_ret ?_
     | (with_reducible first | refine s_none ?_ | refine x_assign (h := ?_) | refine x_store0 (h := ?_))
     | (with_reducible refine x_q (h := ?_))
     | refine x_condf (h1 := ?_)
     | fail)
    all_goals try clear fx
    refine e_ret [(.c (.s 3) 0 0, root)] (.one rfl) (by simp [h2]; rfl) ⟨p, q + 1 + 1, by simp, ⟨?_, fun j r hj => ?_, fun j r hj => ?_⟩, ⟨hs, hgl, by omega⟩, by simp [hU]⟩
    · simp [ho1, hr0, pRows_tr (n := .c (.s 3) 0 0) (m := root) (f := finf (Nm.under (.u 1 0 0)) [(.c (.s 3) 0 0, root)]) (p := p) (by simp [hr0])]
    · simp [ho2 j r hj, hr0]
    · simp [ho3 j r hj, hr0]
end Go.Proofs.YtpckgioefpkmoaaGreat
end

section
set_option maxRecDepth 100000
set_option maxHeartbeats 1000000
set_option linter.unusedSimpArgs false
namespace Go.Proofs.YtpckgioefpkmoaaGreat
open Go Go.Hm Go.Proofs
end Go.Proofs.YtpckgioefpkmoaaGreat
end

section
set_option maxRecDepth 100000
set_option maxHeartbeats 2000000
set_option linter.unusedSimpArgs false
namespace Go.Proofs.YtpckgioefpkmoaaGreat
open Go Go.Hm Go.Proofs
attribute [local simp] slcAV rowsIn
def BlkOfPost (bs : List Int) (m : Nat) : Nm → AV → (Nm → Option AO) → Prop := fun r z H' => ∃ (p : Prg) (b : Int) (pos' : Nat), z = .tup [.agg [.hs r 4 0 p.length], iv b] ∧ OwnP H' r p ∧ Sml p ∧ (1 ≤ p.length ∧ p.length ≤ 8) ∧ pos' ≤ m ∧ H' (.u 1 0 0) = some (rdO bs pos')
end Go.Proofs.YtpckgioefpkmoaaGreat
end

section
set_option maxRecDepth 100000
set_option maxHeartbeats 2000000
set_option linter.unusedSimpArgs false
namespace Go.Proofs.YtpckgioefpkmoaaGreat
open Go Go.Hm Go.Proofs
attribute [local simp] slcAV rowsIn
theorem newReader_fn (gl) (code : List Int) (hc : code.length ≤ 1048576) : FnOk Tryz.prog gl 64 [bsl code] (fun r z H' => z = .pt r 0 ∧ H' r = some (rdO (code.take 2000) 0)) := by
  refine FnOk.of_sem Tryz.func64 rfl (by kernel_rfl) (rs := [.tmp 2]) rfl Tryz.ntmps64 (Nat.le_of_ble_eq_true rfl) fun C w g root => ?_
  by_cases hl : 2000 < code.length
  · have hl1 : (2000 : Int) < code.length := by omega
    have hl2 : (2000 : Int) ≤ code.length := by omega
    all_goals have fx := And.intro hl1 <| hl2
    repeat' (first
     | refine w_seq ?_ | refine w_reg fun K hK => ?_
     | ((with_reducible refine s_end hK ?_); clear hK K)
     | (with_reducible first | refine then_normal ?_)
     | refine w_ret ?_
     | (with_reducible first | refine s_none ?_ | refine x_assign (h := ?_) | refine x_box (h := ?_))
     | (with_reducible refine x_q (h := ?_))
     | refine x_condt (h1 := ?_)
     | fail)
    all_goals try clear fx
    refine e_ret [(.s 2, root)] (.one rfl) (by simp; rfl) ⟨by simp, by simp⟩
  · have ht : code.take 2000 = code := List.take_of_length_le (by omega)
    have hl1 : ¬ (2000 : Int) < code.length := by omega
    rw [ht]
    all_goals have fx :=  hl1
    repeat' (first
     | refine w_seq ?_ | refine w_skip ?_ | refine w_reg fun K hK => ?_
     | ((with_reducible refine s_end hK ?_); clear hK K)
     | (with_reducible first | refine then_normal ?_)
     | refine w_ret ?_
     | (with_reducible first | refine s_none ?_ | refine x_assign (h := ?_) | refine x_box (h := ?_))
     | (with_reducible refine x_q (h := ?_))
     | refine x_condf (h1 := ?_)
     | fail)
    all_goals try clear fx
    refine e_ret [(.s 2, root)] (.one rfl) (by simp; rfl) ⟨by simp, by simp⟩
structure CodeOk (code : List Int) : Prop where
  len : code.length ≤ 1048576
  rng : ∀ v ∈ code, 0 ≤ v ∧ v ≤ 255
theorem CodeOk.bytes {code : List Int} (h : CodeOk code) : BytesOk (code.take 2000) := ⟨by simp; omega, fun v hv => h.rng v (List.mem_of_mem_take hv)⟩
end Go.Proofs.YtpckgioefpkmoaaGreat
end

section
set_option maxRecDepth 100000
set_option maxHeartbeats 2000000
set_option linter.unusedSimpArgs false
namespace Go.Proofs.YtpckgioefpkmoaaGreat
open Go Go.Hm Go.Proofs
attribute [local simp] slcAV rowsIn
theorem runOf_fn (gl) (H : Nm → Option AO) (bs : List Int) (pos : Nat) (hb : BytesOk bs) (hpos : pos ≤ 500000) (hH : H (.u 1 0 0) = some (rdO bs pos)) (hV : H (.u 2 0 0) = none) (hV4 : H (.u 4 0 0) = none) (hV5 : H (.u 5 0 0) = none) :
    FnE Tryz.prog gl 63 (Nm.under (.u 1 0 0)) [.pt (.u 1 0 0) 0] H (BlkOfPost bs (pos + 4000)) noE := by
  refine FnE.of_sem Tryz.func63 rfl (by kernel_rfl) (rs := [.cell 2 29, .tmp 3]) rfl Tryz.ntmps63 (Nat.le_of_ble_eq_true rfl) (fun _ => under_usroot rfl) fun C w g root hroot => ?_
  have hr0 := hroot root (Nm.under_self _)
  all_goals have fx := fx0
  repeat' (first
   | refine w_seq ?_ | refine w_reg fun K hK => ?_
   | ((with_reducible refine s_end hK ?_); clear hK K)
   | (with_reducible first | refine s_none ?_ | refine x_assign (h := ?_) | refine x_alloc (h := ?_))
   | (with_reducible refine x_q (h := ?_))
   | fail)
  all_goals try clear fx
  refine x_rdo (bs := bs) (hs := by simp [hH]) (ha := by first | (simp; done) | (simp; rfl)) (hF := anyProgram_fn _ _ bs pos hb (by omega) (by simp [hH]) (by simp) (by simp) (by simp)) (h := ?_)
  rintro z H1 ⟨p, q, rfl, ⟨ho1, ho2, ho3⟩, ⟨hs, hpl, hq⟩, hU⟩
  refine ⟨q, hU, ?_⟩
  all_goals have fx :=  ho1
  repeat' (first
   | (with_reducible first | refine s_none ?_)
   | (with_reducible refine x_q (h := ?_))
   | fail)
  all_goals try clear fx
  refine x_rd (hs := by simp) (ha := by first | (simp; done) | (simp; rfl)) (hF := pick_rd _ _ bs q 40 hb (by omega) (by omega) (by simp)) (h := ?_)
  rintro y py ⟨hy, rfl⟩
  all_goals have fx :=  ho1
  repeat' (first
   | (with_reducible first | refine s_none ?_ | refine x_build (h := ?_))
   | fail)
  all_goals try clear fx
  refine x_one (oneOk _) 9 [150, 150, (y : Int), 0, 20, 151, -1] (bs := bs) (pos := q + 1) hb (by omega) (hV := hV) (h0 := by simp) (h1 := by simp) (hH := by simp) (hL := by simp [irows]) (h := ?_)
  intro v hv
  all_goals have fx :=  ho1
  repeat' (first
   | ((with_reducible refine s_end hK ?_); clear hK K)
   | (with_reducible first | refine then_normal ?_)
   | refine w_ret ?_
   | (with_reducible first | refine s_none ?_ | refine x_assign (h := ?_) | refine x_store0 (h := ?_))
   | fail)
  all_goals try clear fx
  refine e_ret [(.c (.s 2) 0 0, root)] (.one rfl) (by simp; rfl) ⟨p, v, q + 1 + 1, by simp, ⟨?_, fun j r hj => ?_, fun j r hj => ?_⟩, hs, hpl, by omega, by simp⟩
  · simp [ho1, hr0, pRows_tr (n := .c (.s 2) 0 0) (m := root) (f := finf (Nm.under (.u 1 0 0)) [(.c (.s 2) 0 0, root)]) (p := p) (by simp [hr0])]
  · simp [ho2 j r hj, hr0]
  · simp [ho3 j r hj, hr0]
theorem DrawRunMeaning_fn (gl) (code : List Int) (hc : CodeOk code) : FnOk Tryz.prog gl 46 [bsl code] (fun r z H' => ∃ (p : Prg) (b : Int), z = .tup [.agg [.hs r 4 0 p.length], iv b] ∧ OwnP H' r p ∧ Sml p) := by
  have hb := hc.bytes
  refine FnOk.of_sem Tryz.func46 rfl (by kernel_rfl) (rs := [.cell 2 29, .tmp 3]) rfl Tryz.ntmps46 (Nat.le_of_ble_eq_true rfl) fun C w g root => ?_
  have fx := fx0
  refine k_run ?_
  clear fx
  intro K hK
  refine x_own (ha := by simp) (hF := newReader_fn _ code hc.len) (h := ?_)
  rintro z H1 ⟨rfl, hR⟩
  have fx :=  hR
  refine k_run ?_
  clear fx
  refine o_mv (.s 5) (.u 1 0 0) (.inl rfl) (.inr rfl) ?_
  refine x_rdo (bs := code.take 2000) (hs := by simp [hR]) (ha := by first | (simp; done) | (simp; rfl)) (hF := runOf_fn _ _ (code.take 2000) 0 hb (by omega) (by simp [hR]) (by simp) (by simp) (by simp)) (h := ?_)
  rintro z H2 ⟨p, b, q, rfl, ⟨ho1, ho2, ho3⟩, hs, hpl, hq, hU⟩
  refine ⟨q, hU, ?_⟩
  have fx :=  ho1
  refine k_run ?_
  clear fx
  refine e_ret [(.c (.s 2) 0 0, root)] (.one rfl) (by simp; rfl) ⟨p, b, by simp, ⟨?_, fun j r hj => ?_, fun j r hj => ?_⟩, hs⟩
  · simp [ho1, pRows_tr (n := .c (.s 2) 0 0) (m := root) (f := finf noD [(.c (.s 2) 0 0, root)]) (p := p) (by simp)]
  · simp [ho2 j r hj]
  · simp [ho3 j r hj]
theorem DrawOutAfter_fn (gl) (code : List Int) (hc : CodeOk code) : FnOk Tryz.prog gl 43 [bsl code] (fun r z H' => ∃ (p : Prg) (b : Int), z = .tup [.agg [.hs r 4 0 p.length], iv b] ∧ OwnP H' r p ∧ Sml p) := by
  have hb := hc.bytes
  refine FnOk.of_sem Tryz.func43 rfl (by kernel_rfl) (rs := [.cell 2 29, .tmp 3]) rfl Tryz.ntmps43 (Nat.le_of_ble_eq_true rfl) fun C w g root => ?_
  have fx := fx0
  refine k_run ?_
  clear fx
  intro K hK
  refine x_own (ha := by simp) (hF := newReader_fn _ code hc.len) (h := ?_)
  rintro z H1 ⟨rfl, hR⟩
  have fx :=  hR
  refine k_run ?_
  clear fx
  refine o_mv (.s 5) (.u 1 0 0) (.inl rfl) (.inr rfl) ?_
  refine x_rdo (bs := code.take 2000) (hs := by simp [hR]) (ha := by first | (simp; done) | (simp; rfl)) (hF := runOf_fn _ _ (code.take 2000) 0 hb (by omega) (by simp [hR]) (by simp) (by simp) (by simp)) (h := ?_)
  rintro z H2 ⟨p, b, q, rfl, ⟨ho1, ho2, ho3⟩, hs, hpl, hq, hU⟩
  refine ⟨q, hU, ?_⟩
  have fx :=  ho1
  refine k_run ?_
  clear fx
  refine e_ret [(.c (.s 2) 0 0, root)] (.one rfl) (by simp; rfl) ⟨p, b, by simp, ⟨?_, fun j r hj => ?_, fun j r hj => ?_⟩, hs⟩
  · simp [ho1, pRows_tr (n := .c (.s 2) 0 0) (m := root) (f := finf noD [(.c (.s 2) 0 0, root)]) (p := p) (by simp)]
  · simp [ho2 j r hj]
  · simp [ho3 j r hj]
theorem DrawTraceByMeaning_fn (gl) (code : List Int) (hc : CodeOk code) : FnOk Tryz.prog gl 40 [bsl code] (fun r z H' => ∃ (p : Prg) (b : Int), z = .tup [.agg [.hs r 4 0 p.length], iv b] ∧ OwnP H' r p ∧ Sml p) := by
  have hb := hc.bytes
  refine FnOk.of_sem Tryz.func40 rfl (by kernel_rfl) (rs := [.cell 2 29, .tmp 3]) rfl Tryz.ntmps40 (Nat.le_of_ble_eq_true rfl) fun C w g root => ?_
  have fx := fx0
  refine k_run ?_
  clear fx
  intro K hK
  refine x_own (ha := by simp) (hF := newReader_fn _ code hc.len) (h := ?_)
  rintro z H1 ⟨rfl, hR⟩
  have fx :=  hR
  refine k_run ?_
  clear fx
  refine o_mv (.s 5) (.u 1 0 0) (.inl rfl) (.inr rfl) ?_
  refine x_rdo (bs := code.take 2000) (hs := by simp [hR]) (ha := by first | (simp; done) | (simp; rfl)) (hF := runOf_fn _ _ (code.take 2000) 0 hb (by omega) (by simp [hR]) (by simp) (by simp) (by simp)) (h := ?_)
  rintro z H2 ⟨p, b, q, rfl, ⟨ho1, ho2, ho3⟩, hs, hpl, hq, hU⟩
  refine ⟨q, hU, ?_⟩
  have fx :=  ho1
  refine k_run ?_
  clear fx
  refine e_ret [(.c (.s 2) 0 0, root)] (.one rfl) (by simp; rfl) ⟨p, b, by simp, ⟨?_, fun j r hj => ?_, fun j r hj => ?_⟩, hs⟩
  · simp [ho1, pRows_tr (n := .c (.s 2) 0 0) (m := root) (f := finf noD [(.c (.s 2) 0 0, root)]) (p := p) (by simp)]
  · simp [ho2 j r hj]
  · simp [ho3 j r hj]
theorem DrawMadeBy_fn (gl) (code : List Int) (hc : CodeOk code) : FnOk Tryz.prog gl 38 [bsl code] (fun r z H' => ∃ (p : Prg) (b : Int), z = .tup [.agg [.hs r 4 0 p.length], iv b] ∧ OwnP H' r p ∧ Sml p) := by
  have hb := hc.bytes
  refine FnOk.of_sem Tryz.func38 rfl (by kernel_rfl) (rs := [.cell 2 29, .tmp 3]) rfl Tryz.ntmps38 (Nat.le_of_ble_eq_true rfl) fun C w g root => ?_
  have fx := fx0
  refine k_run ?_
  clear fx
  intro K hK
  refine x_own (ha := by simp) (hF := newReader_fn _ code hc.len) (h := ?_)
  rintro z H1 ⟨rfl, hR⟩
  have fx :=  hR
  refine k_run ?_
  clear fx
  refine o_mv (.s 5) (.u 1 0 0) (.inl rfl) (.inr rfl) ?_
  refine x_rdo (bs := code.take 2000) (hs := by simp [hR]) (ha := by first | (simp; done) | (simp; rfl)) (hF := runOf_fn _ _ (code.take 2000) 0 hb (by omega) (by simp [hR]) (by simp) (by simp) (by simp)) (h := ?_)
  rintro z H2 ⟨p, b, q, rfl, ⟨ho1, ho2, ho3⟩, hs, hpl, hq, hU⟩
  refine ⟨q, hU, ?_⟩
  have fx :=  ho1
  refine k_run ?_
  clear fx
  refine e_ret [(.c (.s 2) 0 0, root)] (.one rfl) (by simp; rfl) ⟨p, b, by simp, ⟨?_, fun j r hj => ?_, fun j r hj => ?_⟩, hs⟩
  · simp [ho1, pRows_tr (n := .c (.s 2) 0 0) (m := root) (f := finf noD [(.c (.s 2) 0 0, root)]) (p := p) (by simp)]
  · simp [ho2 j r hj]
  · simp [ho3 j r hj]
theorem DrawStepsOf_fn (gl) (code : List Int) (hc : CodeOk code) : FnOk Tryz.prog gl 39 [bsl code] (fun r z H' => ∃ (p : Prg), z = .agg [.hs r 4 0 p.length] ∧ OwnP H' r p ∧ Sml p) := by
  have hb := hc.bytes
  refine FnOk.of_sem Tryz.func39 rfl (by kernel_rfl) (rs := [.cell 2 29]) rfl Tryz.ntmps39 (Nat.le_of_ble_eq_true rfl) fun C w g root => ?_
  have fx := fx0
  refine k_run ?_
  clear fx
  intro K hK
  refine x_own (ha := by simp) (hF := newReader_fn _ code hc.len) (h := ?_)
  rintro z H1 ⟨rfl, hR⟩
  have fx :=  hR
  refine k_run ?_
  clear fx
  refine o_mv (.s 4) (.u 1 0 0) (.inl rfl) (.inr rfl) ?_
  refine x_rdo (bs := code.take 2000) (hs := by simp [hR]) (ha := by first | (simp; done) | (simp; rfl)) (hF := anyProgram_fn _ _ (code.take 2000) 0 hb (by omega) (by simp [hR]) (by simp) (by simp) (by simp)) (h := ?_)
  rintro z H2 ⟨p, q, rfl, ⟨ho1, ho2, ho3⟩, ⟨hs, hpl, hq⟩, hU⟩
  refine ⟨q, hU, ?_⟩
  have fx :=  ho1
  refine k_run ?_
  clear fx
  refine e_ret [(.c (.s 2) 0 0, root)] (.one rfl) (by simp; rfl) ⟨p, by simp, ⟨?_, fun j r hj => ?_, fun j r hj => ?_⟩, hs⟩
  · simp [ho1, pRows_tr (n := .c (.s 2) 0 0) (m := root) (f := finf noD [(.c (.s 2) 0 0, root)]) (p := p) (by simp)]
  · simp [ho2 j r hj]
  · simp [ho3 j r hj]
end Go.Proofs.YtpckgioefpkmoaaGreat
end

section
set_option maxRecDepth 100000
set_option maxHeartbeats 1000000
set_option linter.unusedSimpArgs false
namespace Go.Proofs.YtpckgioefpkmoaaGreat
open Go Go.Hm Go.Proofs
theorem equalInts_fn (gl) (xs ys : List Int) (hx : xs.length ≤ 1048576) (hy : ys.length ≤ 1048576) : FnOk Tryz.prog gl 44 [isl xs, isl ys] (fun _ z _ => z = bv (decide (xs = ys))) := by
  refine FnOk.of_sem Tryz.func44 rfl (by kernel_rfl) (rs := [.tmp 4]) rfl Tryz.ntmps44 (Nat.le_of_ble_eq_true rfl) fun C w g root => ?_
  by_cases hl : xs.length = ys.length
  case neg =>
    have h1 : ((xs.length : Int) == ys.length) = false := by simp; omega
    all_goals have fx := And.intro h1 <| @bne_def
    repeat' (first
     | refine w_seq ?_ | refine w_reg fun K hK => ?_
     | ((with_reducible refine s_end hK ?_); clear hK K)
     | (with_reducible first | refine then_normal ?_ | refine then_ret ?_)
     | refine w_ret ?_
     | (with_reducible first | refine s_none ?_ | refine x_assign (h := ?_))
     | (with_reducible refine x_q (h := ?_))
     | refine x_condt (h1 := ?_)
     | fail)
    all_goals try clear fx
    refine e_ret [] .nil (by simp; rfl) ?_
    have : ¬ xs = ys := fun e => hl (by rw [e])
    simp [this]
  all_goals have fx := And.intro hl <| @bne_def
  repeat' (first
   | refine w_seq ?_ | refine w_block ?_ | refine w_skip ?_ | refine w_reg fun K hK => ?_
   | ((with_reducible refine s_end hK ?_); clear hK K)
   | (with_reducible first | refine then_normal ?_)
   | (with_reducible first | refine s_none ?_ | refine x_assign (h := ?_))
   | (with_reducible refine x_q (h := ?_))
   | refine x_condf (h1 := ?_)
   | fail)
  all_goals try clear fx
  refine w_loop (fun n st => ∃ i : Nat, n = xs.length - i ∧ i ≤ xs.length ∧ st.tm 0 = isl xs ∧ st.tm 1 = isl ys ∧ st.tm 5 = iv i ∧ xs.take i = ys.take i) xs.length ?_ ?_
  · exact ⟨0, by simp⟩
  rintro n st - - ⟨i, rfl, hi, h0, h1, h5, heq⟩
  all_goals have fx := And.intro h0 <| h5
  repeat' (first
   | refine w_seq ?_ | refine w_reg fun K hK => ?_
   | ((with_reducible refine s_end hK ?_); clear hK K)
   | (with_reducible first | refine then_normal ?_)
   | (with_reducible first | refine s_none ?_)
   | (with_reducible refine x_q (h := ?_))
   | fail)
  all_goals try clear fx
  refine w_if (by simp []; first | done | rfl | exact (Bool.not_not _).symm) (fun ht => ?_) (fun hf => ?_)
  · have hlt : i < xs.length := by simpa using ht
    obtain ⟨x, hxi⟩ : ∃ x, xs[i]? = some x := ⟨_, List.getElem?_eq_getElem (by omega)⟩
    obtain ⟨y, hyi⟩ : ∃ y, ys[i]? = some y := ⟨_, List.getElem?_eq_getElem (by omega)⟩
    clear ht
    all_goals have fx := And.intro h0 <| And.intro h1 <| And.intro h5 <| And.intro hxi <| And.intro hyi <| @bne_def
    repeat' (first
     | refine w_seq ?_ | refine w_block ?_ | refine w_skip ?_ | refine w_reg fun K hK => ?_
     | ((with_reducible refine s_end hK ?_); clear hK K)
     | (with_reducible first | refine then_normal ?_ | refine then_ret ?_ | refine in_ret ?_)
     | refine w_ret ?_
     | (with_reducible first | refine s_none ?_ | refine x_assign (h := ?_))
     | (with_reducible refine x_q (h := ?_))
     | (refine w_sch (id := 6) (.q 0 <| .q 1 <| .q 2 <| .q 3 <| .q 4 <| .q 5 <| .q 6 <| .q 7 <| .q 8 <| .done) mixed (by kernel_rfl) (by kernel_rfl) fun K hK => ?_)
     | ((with_reducible refine a_end hK ?_); clear hK K)
     | ((with_reducible refine a_id ?_); first | refine xa_q (h := ?_))
     | refine x_if (h1 := fun ht => ?_) (h2 := fun ht => ?_)
     | fail)
    all_goals try clear fx
    all_goals first
      | (refine e_ret [] .nil (by simp; rfl) ?_
         have hne : ¬ xs = ys := fun e => by rw [e, hyi] at hxi; obtain rfl := Option.some.inj hxi; simp at ht
         simp [hne])
      | (have hxy : x = y := by simpa using ht
         refine ⟨xs.length - (i + 1), by omega, i + 1, rfl, by omega, by simp [h0], by simp [h1], by simp; exact wrp (by omega) (by omega), ?_⟩
         rw [List.take_add_one, List.take_add_one, heq, hxi, hyi, hxy])
  · have hge : i = xs.length := by
      have : ¬ i < xs.length := by simpa using hf
      omega
    have : xs = ys := by rw [hge, List.take_length, hl, List.take_length] at heq; exact heq
    all_goals have fx := fx0
    repeat' (first
     | refine w_seq ?_ | refine w_reg fun K hK => ?_
     | ((with_reducible refine s_end hK ?_); clear hK K)
     | (with_reducible first | refine then_normal ?_)
     | refine w_exit ?_
     | refine w_ret ?_
     | (with_reducible first | refine s_none ?_ | refine x_assign (h := ?_))
     | fail)
    all_goals try clear fx
    refine e_ret [] .nil (by simp []; rfl) (by simp [this])
theorem isIn_fn (gl) (xs : List Int) (x : Int) (hx : xs.length ≤ 1048576) : FnOk Tryz.prog gl 48 [isl xs, iv x] (fun _ z _ => z = bv (decide (x ∈ xs))) := by
  refine FnOk.of_sem Tryz.func48 rfl (by kernel_rfl) (rs := [.tmp 4]) rfl Tryz.ntmps48 (Nat.le_of_ble_eq_true rfl) fun C w g root => ?_
  all_goals have fx := fx0
  repeat' (first
   | refine w_seq ?_ | refine w_block ?_ | refine w_reg fun K hK => ?_
   | ((with_reducible refine s_end hK ?_); clear hK K)
   | (with_reducible first | refine s_none ?_ | refine x_assign (h := ?_))
   | fail)
  all_goals try clear fx
  refine w_loop (fun n st => ∃ i : Nat, n = xs.length - i ∧ i ≤ xs.length ∧ st.tm 0 = isl xs ∧ st.tm 1 = iv x ∧ st.tm 5 = iv i ∧ x ∉ xs.take i) xs.length ?_ ?_
  · exact ⟨0, by simp⟩
  rintro n st - - ⟨i, rfl, hi, h0, h1, h5, hno⟩
  all_goals have fx := And.intro h0 <| h5
  repeat' (first
   | refine w_seq ?_ | refine w_reg fun K hK => ?_
   | ((with_reducible refine s_end hK ?_); clear hK K)
   | (with_reducible first | refine then_normal ?_)
   | (with_reducible first | refine s_none ?_)
   | (with_reducible refine x_q (h := ?_))
   | fail)
  all_goals try clear fx
  refine w_if (by simp []; first | done | rfl | exact (Bool.not_not _).symm) (fun ht => ?_) (fun hf => ?_)
  · have hlt : i < xs.length := by simpa using ht
    obtain ⟨u, hu⟩ : ∃ u, xs[i]? = some u := ⟨_, List.getElem?_eq_getElem hlt⟩
    obtain ⟨_, huE⟩ := List.getElem?_eq_some_iff.1 hu
    clear ht
    cases hux : (u == x)
    · have hne : ¬ u = x := by simpa using hux
      all_goals have fx := And.intro h0 <| And.intro h1 <| And.intro h5 <| And.intro hu <| And.intro huE <| And.intro hlt <| hux
      repeat' (first
       | refine w_seq ?_ | refine w_block ?_ | refine w_skip ?_ | refine w_reg fun K hK => ?_
       | ((with_reducible refine s_end hK ?_); clear hK K)
       | (with_reducible first | refine then_normal ?_)
       | (with_reducible first | refine s_none ?_ | refine x_assign (h := ?_))
       | (with_reducible refine x_q (h := ?_))
       | refine x_condf (h1 := ?_)
       | fail)
      all_goals try clear fx
      refine ⟨xs.length - (i + 1), by omega, i + 1, rfl, by omega, by simp [h0], by simp [h1], by simp; exact wrp (by omega) (by omega), ?_⟩
      rw [List.take_add_one, hu]
      simp only [Option.toList_some, List.mem_append, List.mem_singleton, not_or]
      exact ⟨hno, fun e => hne e.symm⟩
    · have he : u = x := by simpa using hux
      have hm : x ∈ xs := he ▸ List.mem_of_getElem? hu
      all_goals have fx := And.intro h0 <| And.intro h1 <| And.intro h5 <| And.intro hu <| And.intro huE <| And.intro hlt <| hux
      repeat' (first
       | refine w_seq ?_ | refine w_block ?_ | refine w_skip ?_ | refine w_reg fun K hK => ?_
       | ((with_reducible refine s_end hK ?_); clear hK K)
       | (with_reducible first | refine then_normal ?_ | refine then_ret ?_ | refine in_ret ?_)
       | refine w_ret ?_
       | (with_reducible first | refine s_none ?_ | refine x_assign (h := ?_))
       | (with_reducible refine x_q (h := ?_))
       | refine x_condt (h1 := ?_)
       | fail)
      all_goals try clear fx
      refine e_ret [] .nil (by simp; rfl) ?_
      simp [hm]
  · have hge : i = xs.length := by
      have : ¬ i < xs.length := by simpa using hf
      omega
    rw [hge, List.take_length] at hno
    all_goals have fx := fx0
    repeat' (first
     | refine w_seq ?_ | refine w_reg fun K hK => ?_
     | ((with_reducible refine s_end hK ?_); clear hK K)
     | (with_reducible first | refine then_normal ?_)
     | refine w_exit ?_
     | refine w_ret ?_
     | (with_reducible first | refine s_none ?_ | refine x_assign (h := ?_))
     | fail)
    all_goals try clear fx
    refine e_ret [] .nil (by simp; rfl) ?_
    simp [hno]
end Go.Proofs.YtpckgioefpkmoaaGreat
end

section
set_option maxRecDepth 100000
set_option maxHeartbeats 4000000
set_option linter.unusedSimpArgs false
namespace Go.Proofs.YtpckgioefpkmoaaGreat
open Go Go.Hm Go.Proofs
attribute [local simp] slcAV rowsIn
theorem equalResult_fn (gl) (r : Rsl) (h1 : r.out.length ≤ 1048576) (h2 : r.gl.length ≤ 1048576) : FnOk Tryz.prog gl 47 [.agg [isl r.out, iv r.en, iv r.left, isl r.gl], .agg [isl r.out, iv r.en, iv r.left, isl r.gl]] (fun _ z _ => z = bv true) := by
  have q1 := equalInts_fn gl r.out r.out h1 h1
  have q2 := equalInts_fn gl r.gl r.gl h2 h2
  simp only [decide_true] at q1 q2
  refine FnOk.of_sem Tryz.func47 rfl (by kernel_rfl) (rs := [.tmp 4]) rfl Tryz.ntmps47 (Nat.le_of_ble_eq_true rfl) fun C w g root => ?_
  have fx :=  @bne_def
  have c1 := q1
  have c2 := q2
  refine k_run ?_
  clear fx c1 c2
  refine e_ret [] .nil (by simp; rfl) (by simp)
theorem begins_fn (gl) (xs ys : List Int) (h : ys <+: xs) (hx : xs.length ≤ 1048576) : FnOk Tryz.prog gl 45 [isl xs, isl ys] (fun _ z _ => z = bv true) := by
  have hl := h.length_le
  have hl2 : ¬ xs.length < ys.length := by omega
  have ht := pre_take h
  have hq := equalInts_fn gl ys ys (by omega) (by omega)
  simp only [decide_true] at hq
  refine FnOk.of_sem Tryz.func45 rfl (by kernel_rfl) (rs := [.tmp 4]) rfl Tryz.ntmps45 (Nat.le_of_ble_eq_true rfl) fun C w g root => ?_
  have fx := And.intro hl <| And.intro hl2 <| ht
  have c1 := hq
  refine k_run ?_
  clear fx c1
  refine e_ret [] .nil (by simp; rfl) (by simp)
theorem equalSteps_fn (gl) (l : List (Int × Int)) (hl : l.length ≤ 1048576) : FnOk Tryz.prog gl 41 [osl l, osl l] (fun _ z _ => z = bv true) := by
  refine FnOk.of_sem Tryz.func41 rfl (by kernel_rfl) (rs := [.tmp 4]) rfl Tryz.ntmps41 (Nat.le_of_ble_eq_true rfl) fun C w g root => ?_
  have fx :=  @bne_def
  refine k_run ?_
  repeat ((first | refine w_sch (id := 6) (.q 0 <| .q 1 <| .q 2 <| .q 3 <| .q 4 <| .q 5 <| .q 6 <| .q 7 <| .q 8 <| .done) mixed (by kernel_rfl) (by kernel_rfl) ?_); refine k_rund ?_; refine k_run ?_)
  clear fx
  refine w_loop (fun n st => ∃ i : Nat, n = l.length - i ∧ i ≤ l.length ∧ st.tm 0 = osl l ∧ st.tm 1 = osl l ∧ st.tm 5 = iv i) l.length ⟨0, by simp⟩ ?_
  rintro n st - - ⟨i, rfl, hi, h0, h1, h5⟩
  by_cases hil : i < l.length
  · obtain ⟨o, ho⟩ : ∃ o, l[i]? = some o := ⟨_, List.getElem?_eq_getElem hil⟩
    obtain ⟨_, hoE⟩ := List.getElem?_eq_some_iff.1 ho
    have fx := And.intro h0 <| And.intro h1 <| And.intro h5 <| And.intro hil <| And.intro ho <| And.intro hoE <| @bne_def
    refine k_run ?_
    repeat ((first | refine w_sch (id := 6) (.q 0 <| .q 1 <| .q 2 <| .q 3 <| .q 4 <| .q 5 <| .q 6 <| .q 7 <| .q 8 <| .done) mixed (by kernel_rfl) (by kernel_rfl) ?_); refine k_rund ?_; refine k_run ?_)
    clear fx
    exact ⟨l.length - (i + 1), by omega, i + 1, rfl, by omega, by simp [h0], by simp [h1], by simp; exact wrp (by omega) (by omega)⟩
  · skip
    have fx := And.intro h0 <| And.intro h1 <| And.intro h5 <| hil
    refine k_run ?_
    repeat ((first | refine w_sch (id := 6) (.q 0 <| .q 1 <| .q 2 <| .q 3 <| .q 4 <| .q 5 <| .q 6 <| .q 7 <| .q 8 <| .done) mixed (by kernel_rfl) (by kernel_rfl) ?_); refine k_rund ?_; refine k_run ?_)
    clear fx
    refine e_ret [] .nil (by simp; rfl) (by simp)
end Go.Proofs.YtpckgioefpkmoaaGreat
end

section
namespace Go.Proofs.YtpckgioefpkmoaaGreat
open Go Go.Hm Go.Proofs
theorem pf_laid : laidOutB Tryz.prog = true := by kernel_rfl
theorem pf_maps : mapsRowed Tryz.prog = true := by kernel_rfl
theorem pf_stops : (Tryz.prog.stops == []) = true := by kernel_rfl
theorem pf_knobs : (Tryz.prog.stopKnobs == []) = true := by kernel_rfl
theorem pf_keys : Tryz.prog.plainKeys = true := by kernel_rfl
theorem pf_heard : Tryz.prog.stopsHeard = true := by kernel_rfl
theorem pf_may : Tryz.prog.mayEnter = true := by kernel_rfl
theorem pf_lifts : Tryz.prog.liftsFinal = false := by kernel_rfl
theorem pf_make : (Tryz.prog.make == some .cut) = true := by kernel_rfl
theorem progFacts : ProgFacts Tryz.prog := ⟨pf_laid, pf_maps, pf_stops, pf_knobs, pf_keys, pf_heard, pf_may, pf_lifts, pf_make⟩
end Go.Proofs.YtpckgioefpkmoaaGreat
end
