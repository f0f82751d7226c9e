/-
  Own texts, joined by mkclaim.py: Kb, Wa, Wb, Pb.
-/
import Derived.Test.YtcbkblboonkfhaaGreatX19
import Derived.Test.YtcbkblboonkfhaaGreatX18
import Derived.Test.YtcbkblboonkfhaaGreatX15
import Derived.Test.YtcbkblboonkfhaaGreatX14
set_option linter.unusedSimpArgs false
set_option linter.unusedVariables false
set_option maxRecDepth 100000
set_option maxHeartbeats 4000000

section
namespace Go.Proofs.YtcbkblboonkfhaaGreat
open Go Go.Hm Go.Proofs
structure LookP (p : Prg) : Prop where
  sml : Sml p
  sh : ShapeP p
theorem LookP.heads {p : Prg} (h : LookP p) : Heads p := h.sh.heads
theorem LookP.len {p : Prg} (h : LookP p) : p.length ≤ 7 := h.sh.len.2
theorem fasts_fn (gl) (p : Prg) (b : Nat) (k : Blk) (hk : p[b]? = some k) (hP : LookP p) : FnOk Tryz.prog gl 133 [pav p, iv b] (fun r y H' => y = .hs r 1 0 (fastsL p b).length ∧ H' r = some (.row 1 (irows (fastsL p b)))) := by
  have hs := hP.sml
  have hh := hP.heads
  have hl7 := hP.len
  obtain ⟨hbl, hbE⟩ := gS hk
  have hka : kindAt p b = k.kind := by simp [kindAt, hk]
  have hcl := cellsL_len (p := p) (b := b)
  refine FnOk.of_sem Tryz.func133 rfl (by kernel_rfl) (rs := [.tmp 4]) rfl Tryz.ntmps133 (Nat.le_of_ble_eq_true rfl) fun C w g root => ?_
  cases hkd : (k.kind == 1)
  · have hc : fastsL p b = [] := by
      have : ¬ k.kind = 1 := by simpa using hkd
      simp [fastsL, hka, this]
    rw [hc]
    all_goals have fx := fx0
    repeat' (first
     | refine w_seq ?_ | refine w_block ?_ | refine w_reg fun K hK => ?_
     | ((with_reducible refine s_end hK ?_); clear hK K)
     | (with_reducible refine s_none ?_)
     | (with_reducible first | refine x_assign (h := ?_) | refine x_box (h := ?_) | refine x_build (h := ?_))
     | ((with_reducible refine o_id 134 rfl ?_); refine x_callh (hF := cellNames_fn _ p b k hk hs hh hl7) (h := ?_))
     | (with_reducible refine x_q (h := ?_))
     | fail)
    all_goals try clear fx
    refine w_loop (fun n st => n = 0 ∧ st.tm 1 = iv b ∧ st.tm 2 = .pt (.s 2) 0 ∧ st.hp (.s 2) = some (.row 1 [[ksl p]]) ∧ st.tm 7 = iv 0 ∧ st.tm 5 = .hs (.s 5) 1 0 0 ∧ st.hp (.s 5) = some (.row 1 [])) 0 ?_ ?_
    · exact ⟨rfl, by simp⟩
    rintro n st - - ⟨rfl, h1, h2, hp2, h7, h5, hp5⟩
    all_goals have fx := And.intro h1 <| And.intro h2 <| And.intro hp2 <| And.intro h7 <| And.intro h5 <| And.intro hp5 <| And.intro hk <| And.intro hbE <| And.intro hkd <| hbl
    repeat' (first
     | refine w_seq ?_ | refine w_reg fun K hK => ?_
     | ((with_reducible refine s_end hK ?_); clear hK K)
     | (with_reducible first | refine then_normal ?_)
     | refine w_exit ?_
     | refine w_ret ?_
     | (with_reducible refine s_none ?_)
     | ((with_reducible refine g_id ?_); refine x_guard (h := ?_))
     | (with_reducible first | refine gx_tt ?_ | refine x_assign (h := ?_))
     | (with_reducible refine x_q (h := ?_))
     | refine x_condf (h1 := ?_)
     | fail)
    all_goals try clear fx
    exact e_list (t := 4) (by first | (simp [hp5]; done) | (simp [hp5]; rfl)) (by first | (simp [hp5]; done) | (simp [hp5]; rfl)) (by simp)
  have hc : fastsL p b = picked (fastIn p b) 8 := by
    have : k.kind = 1 := by simpa using hkd
    simp [fastsL, hka, this]
  rw [hc]
  all_goals have fx := fx0
  repeat' (first
   | refine w_seq ?_ | refine w_block ?_ | refine w_reg fun K hK => ?_
   | ((with_reducible refine s_end hK ?_); clear hK K)
   | (with_reducible refine s_none ?_)
   | (with_reducible first | refine x_assign (h := ?_) | refine x_box (h := ?_) | refine x_build (h := ?_))
   | ((with_reducible refine o_id 134 rfl ?_); refine x_callh (hF := cellNames_fn _ p b k hk hs hh hl7) (h := ?_))
   | (with_reducible refine x_q (h := ?_))
   | fail)
  all_goals try clear fx
  refine w_loop (fun n st => ∃ x : Nat, n = 8 - x ∧ x ≤ 8 ∧ st.tm 1 = iv b ∧ st.tm 2 = .pt (.s 2) 0 ∧ st.hp (.s 2) = some (.row 1 [[ksl p]]) ∧ st.tm 7 = iv x ∧ st.tm 6 = .hs (.s 6) 1 0 (cellsL p b).length ∧ st.hp (.s 6) = some (.row 1 (irows (cellsL p b))) ∧ st.tm 5 = .hs (.s 5) 1 0 (picked (fastIn p b) x).length ∧ st.hp (.s 5) = some (.row 1 (irows (picked (fastIn p b) x)))) 8 ?_ ?_
  · exact ⟨0, by omega, by omega, by simp, by simp, by simp, by simp, by simp, by simp, by simp [picked], by simp [picked]⟩
  rintro n st - - ⟨x, rfl, hx, h1, h2, hp2, h7, h6, hp6, h5, hp5⟩
  have hll := picked_len (f := fastIn p b) x
  by_cases hlt : x < 8
  · have hx7 : (x : Int) ≤ 7 := by omega
    have hfi : fastIn p b x = (isLocal b k x && !decide ((x : Int) ∈ cellsL p b)) := by simp only [fastIn, hk]
    have hnext : picked (fastIn p b) (x + 1) = if fastIn p b x = true then picked (fastIn p b) x ++ [(x : Int)] else picked (fastIn p b) x := rfl
    generalize hL : picked (fastIn p b) x = L at h5 hp5 hnext hll
    cases hlo : isLocal b k x
    · rw [if_neg (by rw [hfi, hlo]; simp)] at hnext
      all_goals have fx := And.intro h1 <| And.intro h2 <| And.intro hp2 <| And.intro h7 <| And.intro h6 <| And.intro hp6 <| And.intro h5 <| And.intro hp5 <| And.intro hk <| And.intro hbE <| And.intro hkd <| And.intro hbl <| And.intro hx7 <| hlo
      repeat' (first
       | refine w_seq ?_ | refine w_block ?_ | refine w_skip ?_ | refine w_reg fun K hK => ?_
       | ((with_reducible refine s_end hK ?_); clear hK K)
       | (with_reducible first | refine then_normal ?_)
       | (with_reducible refine s_none ?_)
       | ((with_reducible refine g_id ?_); refine x_guard (h := ?_))
       | (with_reducible first | refine gx_tt ?_ | refine x_tf (h := ?_) | refine x_assign (h := ?_))
       | ((with_reducible refine o_id 137 rfl ?_); refine x_call (hF := isLocal_fn _ p b k x hk (hs.bsm hk)) (h := ?_))
       | (with_reducible refine x_q (h := ?_))
       | refine x_condt (h1 := ?_) | refine x_condf (h1 := ?_)
       | fail)
      all_goals try clear fx
      exact ⟨8 - (x + 1), by omega, x + 1, rfl, by omega, by simp [h1], by simp [h2], by simp [hp2], by simp [h7]; exact wrp (by omega) (by omega), by simp [h6], by simp [hp6], by simp [hnext, h5], by simp [hnext, hp5]⟩
    cases hce : decide ((x : Int) ∈ cellsL p b)
    rotate_left
    · rw [if_neg (by rw [hfi, hlo, hce]; decide)] at hnext
      all_goals have fx := And.intro h1 <| And.intro h2 <| And.intro hp2 <| And.intro h7 <| And.intro h6 <| And.intro hp6 <| And.intro h5 <| And.intro hp5 <| And.intro hk <| And.intro hbE <| And.intro hkd <| And.intro hbl <| And.intro hx7 <| And.intro hlo <| hce
      repeat' (first
       | refine w_seq ?_ | refine w_block ?_ | refine w_skip ?_ | refine w_reg fun K hK => ?_
       | ((with_reducible refine s_end hK ?_); clear hK K)
       | (with_reducible first | refine then_normal ?_)
       | (with_reducible refine s_none ?_)
       | ((with_reducible refine g_id ?_); refine x_guard (h := ?_))
       | (with_reducible first | refine gx_tt ?_ | refine x_assign (h := ?_))
       | ((with_reducible refine o_id 137 rfl ?_); refine x_call (hF := isLocal_fn _ p b k x hk (hs.bsm hk)) (h := ?_))
       | ((with_reducible refine o_id 112 rfl ?_); refine x_call (hF := has_fn _ _ _ (Nat.le_trans cellsL_len (by decide))) (h := ?_))
       | (with_reducible refine x_q (h := ?_))
       | refine x_condt (h1 := ?_) | refine x_condf (h1 := ?_)
       | fail)
      all_goals try clear fx
      exact ⟨8 - (x + 1), by omega, x + 1, rfl, by omega, by simp [h1], by simp [h2], by simp [hp2], by simp [h7]; exact wrp (by omega) (by omega), by simp [h6], by simp [hp6], by simp [hnext, h5], by simp [hnext, hp5]⟩
    · rw [if_pos (by rw [hfi, hlo, hce]; rfl)] at hnext
      all_goals have fx := And.intro h1 <| And.intro h2 <| And.intro hp2 <| And.intro h7 <| And.intro h6 <| And.intro hp6 <| And.intro h5 <| And.intro hp5 <| And.intro hk <| And.intro hbE <| And.intro hkd <| And.intro hbl <| And.intro hx7 <| And.intro hlo <| hce
      repeat' (first
       | refine w_seq ?_ | refine w_block ?_ | refine w_skip ?_ | refine w_reg fun K hK => ?_
       | ((with_reducible refine s_end hK ?_); clear hK K)
       | (with_reducible first | refine then_normal ?_)
       | (with_reducible refine s_none ?_)
       | ((with_reducible refine g_id ?_); refine x_guard (h := ?_))
       | (with_reducible first | refine gx_tt ?_ | refine x_assign (h := ?_) | refine x_append (T := 41) (h := ?_) | refine x_build (h := ?_))
       | ((with_reducible refine o_id 137 rfl ?_); refine x_call (hF := isLocal_fn _ p b k x hk (hs.bsm hk)) (h := ?_))
       | ((with_reducible refine o_id 112 rfl ?_); refine x_call (hF := has_fn _ _ _ (Nat.le_trans cellsL_len (by decide))) (h := ?_))
       | (with_reducible refine x_q (h := ?_))
       | refine x_condt (h1 := ?_)
       | fail)
      all_goals try clear fx
      refine ⟨8 - (x + 1), by omega, x + 1, rfl, by omega, by simp [h1], by simp [h2], by simp [hp2], by simp [h7]; exact wrp (by omega) (by omega), by simp [h6], by simp [hp6], by simp [hnext, h5], ?_⟩
      rw [hnext]
      simp [hp5, irows]
  · have hge : x = 8 := by omega
    subst hge
    all_goals have fx := And.intro h1 <| And.intro h2 <| And.intro hp2 <| And.intro h7 <| And.intro h5 <| And.intro hp5 <| And.intro hk <| And.intro hbE <| And.intro hkd <| hbl
    repeat' (first
     | refine w_seq ?_ | refine w_reg fun K hK => ?_
     | ((with_reducible refine s_end hK ?_); clear hK K)
     | (with_reducible first | refine then_normal ?_)
     | refine w_exit ?_
     | refine w_ret ?_
     | (with_reducible refine s_none ?_)
     | ((with_reducible refine g_id ?_); refine x_guard (h := ?_))
     | (with_reducible first | refine x_tf (h := ?_) | refine x_assign (h := ?_))
     | (with_reducible refine x_q (h := ?_))
     | refine x_condf (h1 := ?_)
     | fail)
    all_goals try clear fx
    exact e_list (t := 4) (by first | (simp [hp5]; done) | (simp [hp5]; rfl)) (by first | (simp [hp5]; done) | (simp [hp5]; rfl)) (by simp)
abbrev qsWa0 : Sch := .q 0 <| .q 1 <| .q 3 <| .q 4 <| .q 7 <| .q 8 <| .l 2 [8, 7, 4, 3] <| .l 5 [8, 7] <| .l 6 [8, 7] <| .l 9 [] <| .l 10 [] <| .l 11 [] <| .l 12 [] <| .done
theorem allNames_fn (gl) : FnOk Tryz.prog gl 136 [] (fun r y H' => y = .hs r 1 0 allL.length ∧ H' r = some (.row 1 (irows allL))) := by
  refine FnOk.of_sem Tryz.func136 rfl (by kernel_rfl) (rs := [.tmp 0]) rfl Tryz.ntmps136 (Nat.le_of_ble_eq_true rfl) fun C w g root => ?_
  have fx := fx0
  refine k_run ?_
  clear fx
  refine w_loop (fun n st => ∃ (i : Nat) (L : List Int), L = allL.take i ∧ L.length = i ∧ n = 8 - i ∧ i ≤ 8 ∧ st.tm 2 = iv i ∧ st.tm 1 = .hs (.s 1) 1 0 L.length ∧ st.hp (.s 1) = some (.row 1 (irows L))) 8 ⟨0, [], by simp, rfl, by omega, by omega, by simp, by simp, by simp [irows]⟩ ?_
  rintro n st - - ⟨i, L, hL, hLl, rfl, hi, h2, h1, hp1⟩
  by_cases hil : i < 8
  · have hle : (i : Int) ≤ 7 := by omega
    have hle' : i ≤ 7 := by omega
    have hLb : L.length ≤ 100 := by omega
    have fx := And.intro h1 <| And.intro hp1 <| And.intro h2 <| And.intro hle <| And.intro hle' <| hLb
    refine k_run ?_
    clear fx
    refine ⟨8 - (i + 1), by omega, i + 1, L ++ [(i : Int)], ?_, by simp [hLl], rfl, by omega, by simp; exact wrp (by omega) (by omega), by simp, by simp [irows]⟩
    rw [hL]
    have : i = 0 ∨ i = 1 ∨ i = 2 ∨ i = 3 ∨ i = 4 ∨ i = 5 ∨ i = 6 ∨ i = 7 := by omega
    rcases this with rfl | rfl | rfl | rfl | rfl | rfl | rfl | rfl <;> rfl
  · obtain rfl : i = 8 := by omega
    have hLa : L = allL := by rw [hL]; rfl
    subst hLa
    have fx := And.intro h1 <| And.intro hp1 <| h2
    refine k_run ?_
    clear fx
    refine e_ret [(.s 0, root)] (.one rfl) (by simp; rfl) ⟨by simp, by simp [hp1]⟩
theorem seen_fn (gl) (p : Prg) (b : Nat) (k : Blk) (hk : p[b]? = some k) (hP : LookP p) (hs : Sml p) : FnOk Tryz.prog gl 88 [pav p, iv b] (fun r y H' => y = .hs r 1 0 (seenL p b).length ∧ H' r = some (.row 1 (irows (seenL p b)))) := by
  obtain ⟨hbl, hkE⟩ := gS hk
  have hfa := fasts_fn gl p b k hk hP
  have hce := cellNames_fn gl p b k hk hs hP.heads hP.len
  have hfr := frees_fn gl p b hbl hs hP.heads hP.len
  have l1 := fastsL_len (p := p) (b := b)
  have l2 := cellsL_len (p := p) (b := b)
  have l3 := freesL_len (p := p) (b := b)
  have hso := sorted_fn gl ((fastsL p b ++ cellsL p b) ++ freesL p b) (by simp; omega)
  have hkk : kindAt p b = k.kind := by simp [kindAt, hk]
  refine FnOk.of_sem Tryz.func88 rfl (by kernel_rfl) (rs := [.tmp 4]) rfl Tryz.ntmps88 (Nat.le_of_ble_eq_true rfl) fun C w g root => ?_
  cases h1 : (k.kind == 1)
  · have hse : seenL p b = allL := by
      unfold seenL
      rw [hkk, if_neg (by simpa using h1)]
    rw [hse]
    have fx := And.intro hk <| And.intro hkE <| And.intro hbl <| h1
    have d1 := allNames_fn gl
    refine k_run ?_
    repeat ((first | refine wSc (id := 2) qsWa0 mixed ?_); refine k_rund ?_; refine k_run ?_)
    clear fx d1
    refine e_ret [(.s 4, root)] (.one rfl) (by simp; rfl) ⟨by simp, by simp⟩
  · have hse : seenL p b = sorted ((fastsL p b ++ cellsL p b) ++ freesL p b) := by
      unfold seenL
      rw [hkk, if_pos (by simpa using h1)]
    rw [hse]
    have htk : List.take ((fastsL p b).length + (cellsL p b).length) (fastsL p b ++ cellsL p b) = fastsL p b ++ cellsL p b := List.take_of_length_le (by simp)
    have hsl : ((fastsL p b ++ cellsL p b) ++ freesL p b).length = (fastsL p b).length + (cellsL p b).length + (freesL p b).length := by simp; omega
    have fx := And.intro hk <| And.intro hkE <| And.intro hbl <| And.intro h1 <| And.intro l1 <| And.intro l2 <| And.intro l3 <| And.intro htk <| hsl
    have d1 := hfa
    have d2 := hce
    have d3 := hfr
    have d4 := hso
    refine k_run ?_
    repeat ((first | refine wSc (id := 2) qsWa0 mixed ?_); refine k_rund ?_; refine k_run ?_)
    clear fx d1 d2 d3 d4
    refine e_ret [(.s 4, root)] (.one rfl) (by simp; rfl) ⟨by simp, by simp⟩
end Go.Proofs.YtcbkblboonkfhaaGreat
end
section
namespace Go.Proofs.YtcbkblboonkfhaaGreat
open Go Go.Hm Go.Proofs
abbrev qsWb0 : Sch := .q 0 <| .q 1 <| .q 2 <| .q 3 <| .q 4 <| .q 5 <| .l 6 [4, 3, 2, 1, 0] <| .l 7 [4, 3, 2, 0] <| .q 8 <| .l 9 [] <| .done
abbrev qsWb1 : Sch := .q 0 <| .q 1 <| .q 2 <| .q 3 <| .q 4 <| .q 5 <| .q 6 <| .l 7 [5, 4, 3, 2, 1, 0] <| .l 8 [5, 4, 3, 2, 1, 0] <| .l 9 [5, 4, 3, 2, 0] <| .q 10 <| .l 11 [] <| .done
theorem outward_fn (gl) (H : Nm → Option AO) (p : Prg) (W : Wld) (a x : Nat) (k : Blk) (hP : ShapeP p) (hw : WOk p W) (ha : a < W.acts.length) (hx : x < 8) (hk : p[W.blk a]? = some k) (hk1 : k.kind = 1) (hsx : (x : Int) ∈ seenL p (W.blk a)) (hO : OwnW H p W) :
    FnE Tryz.prog gl 89 (Nm.under Wn) [.pt Wn 0, iv a, iv x] H (fun _ y H' => y = .agg (slotC (W.get (some (climb W.acts (holdB p (W.blk a) x) a a)) x)) ∧ OwnW H' p W) noE := by
  have hh := hP.heads
  have hxi : (x : Int) < 8 := by omega
  have hlen := hw.nacts
  obtain ⟨c, hc⟩ : ∃ c, W.acts[a]? = some c := ⟨_, gE ha⟩
  obtain ⟨_, hcE⟩ := gS hc
  have hbk := blk_at hc
  rw [hbk] at hk hsx ⊢
  have hb0 : 0 < c.blk := by
    rcases Nat.eq_zero_or_pos c.blk with e | e
    · rw [e] at hk
      have := (hP.kind0 hk).2 rfl
      omega
    · exact e
  obtain ⟨ho, hins, hout⟩ := hold_ok hh hk hk1 hb0 hsx
  have hloc : isLocal c.blk k x = true → holdB p c.blk x = c.blk := fun h => by simp [holdB, hk, h]
  obtain ⟨i, hi⟩ : ∃ i, i = climb W.acts (holdB p c.blk x) a a := ⟨_, rfl⟩
  have hins : inside p (W.blk a) (holdB p c.blk x) = true := by rw [hbk]; exact hins
  obtain ⟨d, hd, hdb⟩ := climb_at hh hw ho a a (Nat.le_refl _) ha hins
  rw [← hi] at hd ⊢
  generalize hob : holdB p c.blk x = o at *
  have hT := hO.top
  have hA := hO.acts
  have hxl := (hw.vars i d hd).1
  have hget : ∃ s, d.vars[x]? = some s ∧ W.get (some i) x = s := by
    obtain ⟨s, hs⟩ : ∃ s, d.vars[x]? = some s := ⟨_, gE (by omega)⟩
    exact ⟨s, hs, by simp [Wld.get, Wld.vars, hd, hs]⟩
  obtain ⟨s, hsx', hgs⟩ := hget
  obtain ⟨hsl, hsE⟩ := gS hsx'
  rw [hgs]
  simp only [wRow] at hT
  have hil := isLocal_fn gl p c.blk k x hk (hP.sml.bsm hk)
  have hou := outer_fn gl p c.blk k x hk hP.sml hh
  refine FnE.of_sem Tryz.func89 rfl (by kernel_rfl) (rs := [.cell 6 119]) rfl Tryz.ntmps89 (Nat.le_of_ble_eq_true rfl) (fun _ => under_usroot rfl) fun C w g root hroot => ?_
  cases hlc : isLocal c.blk k x
  · rw [hlc] at hil
    rw [hout hlc] at hou
    have fx := And.intro hT <| And.intro hA <| And.intro hc <| And.intro hcE <| And.intro ha <| And.intro hx <| hxi
    have c1 := hil
    have c2 := hou
    refine k_run ?_
    clear fx c1 c2
    refine w_loop (fun n st => ∃ b : Nat, n = b ∧ b < W.acts.length ∧ climb W.acts o b b = i ∧ inside p (W.blk b) o = true ∧ st.tm 0 = .pt Wn 0 ∧ st.tm 1 = iv b ∧ st.tm 2 = iv x ∧ st.tm 8 = iv o ∧ OwnW st.hp p W ∧ st.tm 6 = .pt (.s 6) 0 ∧ st.hp (.s 6) = some (.row 3 [[bv false, iv 0, iv 0]])) a ?_ ?_
    · exact ⟨a, rfl, ha, hi.symm, hins, by simp, by simp, by simp, by simp, (have ow := hO; OwnW.re ow), by simp, by simp⟩
    clear hT hA hO hc hcE
    rintro n st - - ⟨b, rfl, hb, hcl, hib, h0', h1', h2', h8', hO, h6, hp6⟩
    obtain ⟨e, he⟩ : ∃ e, W.acts[n]? = some e := ⟨_, gE hb⟩
    obtain ⟨_, heE⟩ := gS he
    have hT := hO.top
    have hA := hO.acts
    simp only [wRow] at hT
    have hV := hO.act n e he
    by_cases heb : e.blk = o
    · have hni : n = i := by rw [← hcl, climb_here he heb]
      subst hni
      rw [hd] at he
      obtain rfl := Option.some.inj he
      rcases s with _ | ⟨v1, v2⟩
      all_goals
        have fx := And.intro h0' <| And.intro h1' <| And.intro h2' <| And.intro h8' <| And.intro h6 <| And.intro hp6 <| And.intro hT <| And.intro hA <| And.intro hd <| And.intro heE <| And.intro hb <| And.intro heb <| And.intro hV <| And.intro hxl <| And.intro hx <| And.intro hxi <| And.intro hsx' <| And.intro hsE <| And.intro hsl <| @bne_def
        refine k_run ?_
        clear fx
        refine e_ret [] .nil (by simp [h6]; rfl) ⟨by simp, ?_⟩
        exact (have ow := hO; OwnW.re ow)
    · obtain ⟨e1, e2, e3⟩ := inside_up hh hw he heb ho hib
      have hne : ¬ ((e.blk : Int) = o) := by omega
      have hoi : outI n e = e.up := by simp only [outI]; rw [if_neg (by omega)]
      have fx := And.intro h0' <| And.intro h1' <| And.intro h2' <| And.intro h8' <| And.intro h6 <| And.intro hp6 <| And.intro hT <| And.intro hA <| And.intro he <| And.intro heE <| And.intro hb <| And.intro hne <| And.intro hoi <| @bne_def
      refine k_run ?_
      clear fx
      refine ⟨e.up, by omega, e.up, rfl, by omega, ?_, e3, by simp [h0'], by simp, by simp [h2'], by simp [h8'], (have ow := hO; OwnW.re ow), by simp [h6], by simp [hp6]⟩
      rw [← hcl, climb_up hh hw ho he heb hib]
  · rw [hlc] at hil
    have hoc := hloc hlc
    have fx := And.intro hT <| And.intro hA <| And.intro hc <| And.intro hcE <| And.intro ha <| And.intro hx <| hxi
    have c1 := hil
    refine k_run ?_
    clear fx c1
    refine w_loop (fun n st => ∃ b : Nat, n = b ∧ b < W.acts.length ∧ climb W.acts o b b = i ∧ inside p (W.blk b) o = true ∧ st.tm 0 = .pt Wn 0 ∧ st.tm 1 = iv b ∧ st.tm 2 = iv x ∧ st.tm 8 = iv o ∧ OwnW st.hp p W ∧ st.tm 6 = .pt (.s 6) 0 ∧ st.hp (.s 6) = some (.row 3 [[bv false, iv 0, iv 0]])) a ?_ ?_
    · exact ⟨a, rfl, ha, hi.symm, hins, by simp, by simp, by simp, by simp [hoc], (have ow := hO; OwnW.re ow), by simp, by simp⟩
    clear hT hA hO hc hcE
    rintro n st - - ⟨b, rfl, hb, hcl, hib, h0', h1', h2', h8', hO, h6, hp6⟩
    obtain ⟨e, he⟩ : ∃ e, W.acts[n]? = some e := ⟨_, gE hb⟩
    obtain ⟨_, heE⟩ := gS he
    have hT := hO.top
    have hA := hO.acts
    simp only [wRow] at hT
    have hV := hO.act n e he
    by_cases heb : e.blk = o
    · have hni : n = i := by rw [← hcl, climb_here he heb]
      subst hni
      rw [hd] at he
      obtain rfl := Option.some.inj he
      rcases s with _ | ⟨v1, v2⟩
      all_goals
        have fx := And.intro h0' <| And.intro h1' <| And.intro h2' <| And.intro h8' <| And.intro h6 <| And.intro hp6 <| And.intro hT <| And.intro hA <| And.intro hd <| And.intro heE <| And.intro hb <| And.intro heb <| And.intro hV <| And.intro hxl <| And.intro hx <| And.intro hxi <| And.intro hsx' <| And.intro hsE <| And.intro hsl <| @bne_def
        refine k_run ?_
        clear fx
        refine e_ret [] .nil (by simp [h6]; rfl) ⟨by simp, ?_⟩
        exact (have ow := hO; OwnW.re ow)
    · obtain ⟨e1, e2, e3⟩ := inside_up hh hw he heb ho hib
      have hne : ¬ ((e.blk : Int) = o) := by omega
      have hoi : outI n e = e.up := by simp only [outI]; rw [if_neg (by omega)]
      have fx := And.intro h0' <| And.intro h1' <| And.intro h2' <| And.intro h8' <| And.intro h6 <| And.intro hp6 <| And.intro hT <| And.intro hA <| And.intro he <| And.intro heE <| And.intro hb <| And.intro hne <| And.intro hoi <| @bne_def
      refine k_run ?_
      clear fx
      refine ⟨e.up, by omega, e.up, rfl, by omega, ?_, e3, by simp [h0'], by simp, by simp [h2'], by simp [h8'], (have ow := hO; OwnW.re ow), by simp [h6], by simp [hp6]⟩
      rw [← hcl, climb_up hh hw ho he heb hib]
theorem view_fn (gl) (b : Int) (xs : List Int) (ss : List Slt) (hl : ss.length = xs.length) (h8 : xs.length ≤ 8) : FnOk Tryz.prog gl 90 [iv b, isl xs, .sl 3 (slrows ss)] (fun r y H' => y = .agg ((Vw.mk b (vnames (xs.zip ss)) (vvals (xs.zip ss))).own r 0) ∧ OwnV H' r 0 ⟨b, vnames (xs.zip ss), vvals (xs.zip ss)⟩) := by
  refine FnOk.of_sem Tryz.func90 rfl (by kernel_rfl) (rs := [.cell 6 66]) rfl Tryz.ntmps90 (Nat.le_of_ble_eq_true rfl) fun C w g root => ?_
  have fx := fx0
  refine k_run ?_
  repeat ((first | refine wSc (id := 6) qsWb0 mixed ?_ | refine wSc (id := 7) qsWb1 mixed ?_); refine k_rund ?_; refine k_run ?_)
  clear fx
  refine w_loop (fun n st => ∃ (i : Nat) (N V : List Int), n = xs.length - i ∧ i ≤ xs.length ∧ N = vnames ((xs.zip ss).take i) ∧ V = vvals ((xs.zip ss).take i) ∧ st.tm 8 = iv i ∧ st.tm 1 = isl xs ∧ st.tm 2 = .sl 3 (slrows ss) ∧ st.tm 6 = .pt (.s 6) 0 ∧ st.hp (.s 6) = some (.row 3 [[iv 0, .hs (.c (.s 6) 0 1) 1 0 0, .hs (.c (.s 6) 0 2) 1 0 0]]) ∧ st.hp (.c (.s 6) 0 1) = some (.row 1 []) ∧ st.hp (.c (.s 6) 0 2) = some (.row 1 []) ∧ st.tm 7 = .pt (.s 7) 0 ∧ st.hp (.s 7) = some (.row 3 [[iv b, .hs (.c (.s 7) 0 1) 1 0 N.length, .hs (.c (.s 7) 0 2) 1 0 V.length]]) ∧ st.hp (.c (.s 7) 0 1) = some (.row 1 (irows N)) ∧ st.hp (.c (.s 7) 0 2) = some (.row 1 (irows V))) xs.length ⟨0, [], [], by omega, by omega, by simp [vnames], by simp [vvals], by simp, by simp, by simp, by simp, by simp, by simp, by simp, by simp, by simp, by simp [irows], by simp [irows]⟩ ?_
  rintro n st - - ⟨i, N, V, rfl, hi, hN, hV, h8', h1, h2, h6, hp6, hq6, hr6, h7, hp7, hN7, hV7⟩
  have hNl : N.length ≤ 8 := by
    rw [hN]
    exact Nat.le_trans vnames_len (by simp; omega)
  have hVl : V.length ≤ 8 := by
    rw [hV]
    exact Nat.le_trans vvals_len (by simp; omega)
  by_cases hil : i < xs.length
  · obtain ⟨x, hx⟩ : ∃ x, xs[i]? = some x := ⟨_, gE hil⟩
    obtain ⟨s, hs⟩ : ∃ s, ss[i]? = some s := ⟨_, gE (by omega)⟩
    obtain ⟨_, hxE⟩ := gS hx
    obtain ⟨hsl, hsE⟩ := gS hs
    have hz : (xs.zip ss)[i]? = some (x, s) := by rw [List.getElem?_zip_eq_some]; exact ⟨hx, hs⟩
    have htk : (xs.zip ss).take (i + 1) = (xs.zip ss).take i ++ [(x, s)] := by rw [List.take_add_one, hz]; rfl
    cases s with
    | none =>
      have fx := And.intro h1 <| And.intro h2 <| And.intro h8' <| And.intro h7 <| And.intro hp7 <| And.intro hil <| And.intro hx <| And.intro hxE <| And.intro hs <| And.intro hsE <| hsl
      refine k_run ?_
      repeat ((first | refine wSc (id := 6) qsWb0 mixed ?_ | refine wSc (id := 7) qsWb1 mixed ?_); refine k_rund ?_; refine k_run ?_)
      clear fx
      refine ⟨xs.length - (i + 1), by omega, i + 1, N, V, rfl, by omega, by rw [htk, vnames_app1, hN]; simp, by rw [htk, vvals_app1, hV]; simp, by simp; exact wrp (by omega) (by omega), by simp [h1], by simp [h2], by simp [h6], by simp [hp6], by simp [hq6], by simp [hr6], by simp [h7], by simp [hp7], by simp [hN7], by simp [hV7]⟩
    | some v =>
      have hsh := spec_shown_fn gl v
      obtain ⟨v1, v2⟩ := v
      have fx := And.intro h1 <| And.intro h2 <| And.intro h8' <| And.intro h7 <| And.intro hp7 <| And.intro hN7 <| And.intro hV7 <| And.intro hil <| And.intro hx <| And.intro hxE <| And.intro hs <| And.intro hsE <| And.intro hsl <| And.intro hNl <| hVl
      have c1 := hsh
      refine k_run ?_
      repeat ((first | refine wSc (id := 6) qsWb0 mixed ?_ | refine wSc (id := 7) qsWb1 mixed ?_); refine k_rund ?_; refine k_run ?_)
      clear fx c1
      refine ⟨xs.length - (i + 1), by omega, i + 1, N ++ [x], V ++ [Hm.shown (v1, v2)], rfl, by omega, by rw [htk, vnames_app1, hN], by rw [htk, vvals_app1, hV], by simp; exact wrp (by omega) (by omega), by simp [h1], by simp [h2], by simp [h6], by simp [hp6], by simp [hq6], by simp [hr6], by simp [h7], by simp, by simp [irows], by simp [irows]⟩
  · obtain rfl : i = xs.length := by omega
    rw [List.take_of_length_le (by rw [List.length_zip]; omega)] at hN hV
    subst hN hV
    have fx := And.intro h1 <| And.intro h2 <| And.intro h8' <| And.intro h6 <| And.intro hp6 <| And.intro h7 <| And.intro hp7 <| And.intro hN7 <| And.intro hV7 <| hil
    refine k_run ?_
    repeat ((first | refine wSc (id := 6) qsWb0 mixed ?_ | refine wSc (id := 7) qsWb1 mixed ?_); refine k_rund ?_; refine k_run ?_)
    clear fx
    have r1 : Nm.under (.c root 0 1) (.c root 0 2) = false := Nm.c_disj (by decide) (Nm.under_self _)
    refine e_ret [(.c (.s 7) 0 1, .c root 0 1), (.c (.s 7) 0 2, .c root 0 2)] (.two rfl rfl (by decide)) (by simp [h6]; rfl) ⟨?_, ⟨?_, ?_⟩⟩
    · simp [res1, trL]
    · simp [hN7, r1]
    · simp [hV7, r1]
abbrev qsPb0 : Sch := .q 0 <| .q 1 <| .q 2 <| .q 3 <| .q 4 <| .q 5 <| .q 6 <| .q 7 <| .q 8 <| .q 9 <| .q 10 <| .l 11 [10, 9, 8, 7, 6, 5, 4, 3, 2, 1, 0] <| .l 12 [] <| .done
theorem tmod_nat' {v : Int} (hv : 0 ≤ v) : ∃ k : Nat, v.tmod 1000 = k ∧ k < 1000 := by
  have h1 := Int.tmod_nonneg 1000 hv
  have h2 := Int.tmod_lt_of_pos v (show (0 : Int) < 1000 by omega)
  exact ⟨(v.tmod 1000).toNat, by omega, by omega⟩
theorem load_fn (gl) (H : Nm → Option AO) (p : Prg) (W : Wld) (a x : Nat) (hP : ShapeP p) (hw : WOk p W) (ha : a < W.acts.length) (hx : x < 8) (hO : OwnW H p W) :
    FnE Tryz.prog gl 148 (Nm.under Wn) [.pt Wn 0, iv a, iv x] H (fun _ y H' => y = Val.av (loadW p W a x).2 ∧ OwnW H' p (loadW p W a x).1) noE := by
  have hh := hP.heads
  have hxi : (x : Int) < 8 := by omega
  have hll := loc_lt (x := (x : Int)) hh hw ha
  have hT := hO.top
  simp only [wRow] at hT
  have hV8 := (hw.vars_of hll).1
  refine FnE.of_sem Tryz.func148 rfl (by kernel_rfl) (rs := [.cell 6 117]) rfl Tryz.ntmps148 (Nat.le_of_ble_eq_true rfl) (fun _ => under_usroot rfl) fun C w g root hroot => ?_
  have fx := fx0
  refine k_run ?_
  clear fx
  intro K hK
  have fx := fx0
  refine x_mut Wn rfl (by simp [hT]) (hF := slotOf_fn _ _ p W a x hP hw ha hx (have ow := hO; OwnW.re ow)) (h := ?_)
  rintro y H1 ⟨rfl, hO1⟩
  clear fx
  have hV := hO1.loc hll
  obtain ⟨l, hl⟩ : ∃ l, W.loc p a x = l := ⟨_, rfl⟩
  obtain ⟨o, ho⟩ : ∃ o, owner p (W.blk a) x = o := ⟨_, rfl⟩
  rw [hl] at hV hV8 ⊢
  rw [ho]
  obtain ⟨s, hs⟩ : ∃ s, (W.vars l)[x]? = some s := ⟨_, gE (by omega)⟩
  obtain ⟨_, hsE⟩ := gS hs
  have hget : W.get (W.loc p a x) x = s := by rw [hl]; simp [Wld.get, hs]
  have hT1 := hO1.top
  simp only [wRow] at hT1
  cases s with
  | some v =>
    have hlw : loadW p W a x = (W, v) := by simp only [loadW, hget]
    have fx := And.intro hT <| And.intro hT1 <| And.intro hV <| And.intro hV8 <| And.intro hs <| And.intro hsE <| And.intro hx <| hxi
    refine k_run ?_
    clear fx
    rw [hlw]
    refine e_ret [] .nil (by simp; rfl) ⟨by simp, (have ow := hO1; OwnW.re ow)⟩
  | none =>
    have fx := And.intro hT <| And.intro hT1 <| And.intro hV <| And.intro hV8 <| And.intro hs <| And.intro hsE <| And.intro hx <| hxi
    refine k_run ?_
    clear fx
    intro K hK
    have fx := And.intro hT hT1
    refine x_mut Wn rfl (by simp [hT1]) (hF := lack_fn _ _ p W a o ha hw (have ow := hO1; OwnW.re ow)) (h := ?_)
    rintro y H2 ⟨rfl, hO2⟩
    clear fx
    have hT2 := hO2.top
    simp only [wRow] at hT2
    by_cases h4 : Hm.lack p (W.blk a) o = 4
    · skip
      have fx := And.intro hT <| And.intro hT1 <| And.intro hT2 <| h4
      refine k_run ?_
      clear fx
      intro K hK
      have fx := And.intro hT (And.intro hT1 hT2)
      refine x_mut Wn rfl (by simp [hT2]) (hF := globalValue_fn _ _ p W x hw hx (have ow := hO2; OwnW.re ow)) (h := ?_)
      rintro y H3 ⟨hy, hO3⟩
      clear fx
      have hT3 := hO3.top
      simp only [wRow] at hT3
      cases hg : W.get none x with
      | some v =>
        rw [hg] at hy
        simp only at hy
        subst hy
        have hlw : loadW p W a x = (W, v) := by simp only [loadW, hget, ho, h4, if_true, hg]
        have fx := And.intro hT <| And.intro hT1 <| And.intro hT2 <| hT3
        refine k_run ?_
        clear fx
        rw [hlw]
        refine e_ret [] .nil (by simp; rfl) ⟨by simp, (have ow := hO3; OwnW.re ow)⟩
      | none =>
        rw [hg] at hy
        simp only at hy
        subst hy
        by_cases h7 : x = 7
        · subst h7
          have hlw : loadW p W a ((7 : Nat) : Int) = (W, (1, 70)) := by simp only [loadW, hget, ho, h4, if_true, hg]; simp
          have fx := And.intro hT <| And.intro hT1 <| And.intro hT2 <| hT3
          refine k_run ?_
          clear fx
          rw [hlw]
          refine e_ret [] .nil (by simp; rfl) ⟨by simp, (have ow := hO3; OwnW.re ow)⟩
        · have hlw : loadW p W a x = ({ W with en := 4 }, (0, 0)) := by
            have : ¬ (x : Int) = 7 := by omega
            simp only [loadW, hget, ho, h4, if_true, hg, this, if_false]
          have h7i : ¬ (x : Int) = 7 := by omega
          have fx := And.intro hT <| And.intro hT1 <| And.intro hT2 <| And.intro hT3 <| And.intro h7 <| And.intro h7i <| h4
          refine k_run ?_
          clear fx
          rw [hlw]
          refine e_ret [] .nil (by simp; rfl) ⟨by simp, ⟨by simp [hO3.top, wRow, hT3], by simp [hO3.acts, hT3], fun i a ha => by simp [hO3.act i a ha, hT3], hO3.stk.imp fun l hl => by simp [hl, hT3], by simp [hO3.glob, hT3], by simp [hO3.funs, hT3], by simp [hO3.clss, hT3], fun i c hc => by simp [hO3.cls i c hc, hT3], by simp [hO3.out, hT3], by simp [hO3.trc, hT3]⟩⟩
    · have hlw : loadW p W a x = ({ W with en := Hm.lack p (W.blk a) o }, (0, 0)) := by simp only [loadW, hget, ho, h4, if_false]
      have fx := And.intro hT <| And.intro hT1 <| And.intro hT2 <| h4
      refine k_run ?_
      clear fx
      rw [hlw]
      refine e_ret [] .nil (by simp; rfl) ⟨by simp, ⟨by simp [hO2.top, wRow, hT2], by simp [hO2.acts, hT2], fun i a ha => by simp [hO2.act i a ha, hT2], hO2.stk.imp fun l hl => by simp [hl, hT2], by simp [hO2.glob, hT2], by simp [hO2.funs, hT2], by simp [hO2.clss, hT2], fun i c hc => by simp [hO2.cls i c hc, hT2], by simp [hO2.out, hT2], by simp [hO2.trc, hT2]⟩⟩
theorem ownW_set {hp hp' : Nm → Option AO} {p : Prg} {W : Wld} {l : Option Nat} {x : Nat} {s : Slt} (h : OwnW hp p W) (hh : ∀ m, Nm.under Wn m = true → hp' m = if m = locN l then some (.row 3 (slrows ((W.vars l).set x s))) else hp m) : OwnW hp' p (W.set l x s) := by
  have hu : ∀ j, Nm.under Wn (.c Wn 0 j) = true := fun j => by simp [Nm.under]
  have hu2 : ∀ j i k, Nm.under Wn (.c (.c Wn 0 j) i k) = true := fun j i k => by simp [Nm.under]
  cases l with
  | none =>
    refine ⟨?_, ?_, fun i a ha => ?_, ?_, ?_, ?_, ?_, fun i c hc => ?_, ?_, ?_⟩
    · rw [hh _ (by simp [Nm.under])]; simp [locN]; exact h.top
    · rw [hh _ (hu 1)]; simp [locN]; exact h.acts
    · rw [hh _ (hu2 1 i 2)]; simp [locN]; exact h.act i a ha
    · rw [hh _ (hu 2)]; simp [locN]; exact h.stk.imp fun l hl => by rw [hl]; rfl
    · rw [hh _ (hu 3)]; simp [locN, Wld.set, Wld.vars]
    · rw [hh _ (hu 4)]; simp [locN]; exact h.funs
    · rw [hh _ (hu 5)]; simp [locN]; exact h.clss
    · rw [hh _ (hu2 5 i 0)]; simp [locN]; exact h.cls i c hc
    · rw [hh _ (hu 6)]; simp [locN]; exact h.out
    · rw [hh _ (hu 7)]; simp [locN]; exact h.trc
  | some j =>
    have hrow : actRows (.c Wn 0 1) (W.set (some j) x s).acts = actRows (.c Wn 0 1) W.acts := by
      apply List.ext_getElem?
      intro i
      simp only [actRows_get, Wld.set, List.getElem?_modify]
      cases hi : W.acts[i]? with
      | none => rfl
      | some a => by_cases e : j = i <;> simp [e, outI]
    refine ⟨?_, ?_, fun i a ha => ?_, ?_, ?_, ?_, ?_, fun i c hc => ?_, ?_, ?_⟩
    · rw [hh _ (by simp [Nm.under])]; simp [locN]; rw [h.top]; simp [wRow, Wld.set]
    · rw [hh _ (hu 1), hrow]; simp [locN]; exact h.acts
    · rw [hh _ (hu2 1 i 2)]
      simp only [Wld.set, List.getElem?_modify] at ha
      obtain ⟨b, hb, e⟩ := Option.map_eq_some_iff.1 ha
      by_cases e2 : j = i
      · subst e2
        simp only [if_true] at e
        subst e
        simp [locN, Wld.vars, hb]
      · have e3 : ¬ i = j := fun e => e2 e.symm
        simp only [e2, if_false] at e
        subst e
        simp [locN, e3]
        exact h.act i b hb
    · rw [hh _ (hu 2)]; simp [locN]; exact h.stk.imp fun l hl => by rw [hl]; rfl
    · rw [hh _ (hu 3)]; simp [locN]; exact h.glob
    · rw [hh _ (hu 4)]; simp [locN]; exact h.funs
    · rw [hh _ (hu 5)]; simp [locN]; exact h.clss
    · rw [hh _ (hu2 5 i 0)]; simp [locN]; exact h.cls i c hc
    · rw [hh _ (hu 6)]; simp [locN]; exact h.out
    · rw [hh _ (hu 7)]; simp [locN]; exact h.trc
theorem store_fn (gl) (H : Nm → Option AO) (p : Prg) (W : Wld) (a x : Nat) (v : Val) (hP : ShapeP p) (hw : WOk p W) (ha : a < W.acts.length) (hx : x < 8) (hO : OwnW H p W) :
    FnE Tryz.prog gl 178 (Nm.under Wn) [.pt Wn 0, iv a, iv x, Val.av v] H (fun _ y H' => OwnW H' p (storeW p W a x v)) noE := by
  have hh := hP.heads
  have hxi : (x : Int) < 8 := by omega
  have hll := loc_lt (x := (x : Int)) hh hw ha
  have hT := hO.top
  simp only [wRow] at hT
  have hV8 := (hw.vars_of hll).1
  obtain ⟨v1, v2⟩ := v
  refine FnE.of_sem Tryz.func178 rfl (by kernel_rfl) (rs := []) rfl Tryz.ntmps178 (Nat.le_of_ble_eq_true rfl) (fun _ => under_usroot rfl) fun C w g root hroot => ?_
  have fx := fx0
  refine k_run ?_
  clear fx
  intro K hK
  have fx := fx0
  refine x_mut Wn rfl (by simp [hT]) (hF := slotOf_fn _ _ p W a x hP hw ha hx (have ow := hO; OwnW.re ow)) (h := ?_)
  rintro y H1 ⟨rfl, hO1⟩
  clear fx
  have hV := hO1.loc hll
  obtain ⟨l, hl⟩ : ∃ l, W.loc p a x = l := ⟨_, rfl⟩
  have hlw : storeW p W a x (v1, v2) = W.set l x (some (v1, v2)) := by simp only [storeW, hl]
  rw [hl] at hV hV8 ⊢
  have hT1 := hO1.top
  simp only [wRow] at hT1
  have fx := And.intro hT <| And.intro hT1 <| And.intro hV <| And.intro hV8 <| And.intro hx <| hxi
  refine k_run ?_
  clear fx
  rw [hlw]
  refine e_norm [] .nil (by simp; rfl) (OwnW.fin (ownW_set hO1 fun m hm => ?_))
  simp [hm]
theorem take_fn (gl) (H : Nm → Option AO) (p : Prg) (W : Wld) (a x : Nat) (hP : ShapeP p) (hw : WOk p W) (ha : a < W.acts.length) (hx : x < 8) (hO : OwnW H p W) :
    FnE Tryz.prog gl 176 (Nm.under Wn) [.pt Wn 0, iv a, iv x] H (fun _ y H' => OwnW H' p (takeW p W a x)) noE := by
  have hh := hP.heads
  have hxi : (x : Int) < 8 := by omega
  have hll := loc_lt (x := (x : Int)) hh hw ha
  have hT := hO.top
  simp only [wRow] at hT
  have hV8 := (hw.vars_of hll).1
  refine FnE.of_sem Tryz.func176 rfl (by kernel_rfl) (rs := []) rfl Tryz.ntmps176 (Nat.le_of_ble_eq_true rfl) (fun _ => under_usroot rfl) fun C w g root hroot => ?_
  have fx := fx0
  refine k_run ?_
  clear fx
  intro K hK
  have fx := fx0
  refine x_mut Wn rfl (by simp [hT]) (hF := slotOf_fn _ _ p W a x hP hw ha hx (have ow := hO; OwnW.re ow)) (h := ?_)
  rintro y H1 ⟨rfl, hO1⟩
  clear fx
  have hV := hO1.loc hll
  obtain ⟨l, hl⟩ : ∃ l, W.loc p a x = l := ⟨_, rfl⟩
  obtain ⟨o, ho⟩ : ∃ o, owner p (W.blk a) x = o := ⟨_, rfl⟩
  rw [hl] at hV hV8 ⊢
  rw [ho]
  obtain ⟨s, hs⟩ : ∃ s, (W.vars l)[x]? = some s := ⟨_, gE (by omega)⟩
  obtain ⟨_, hsE⟩ := gS hs
  have hget : W.get (W.loc p a x) x = s := by rw [hl]; simp [Wld.get, hs]
  have hT1 := hO1.top
  simp only [wRow] at hT1
  cases s with
  | some v =>
    have hlw : takeW p W a x = W.set l x none := by
      unfold takeW
      rw [hget]
      simp only [hl]
    have fx := And.intro hT <| And.intro hT1 <| And.intro hV <| And.intro hV8 <| And.intro hs <| And.intro hsE <| And.intro hx <| hxi
    refine k_run ?_
    clear fx
    rw [hlw]
    refine e_norm [] .nil (by simp; rfl) (OwnW.fin (ownW_set hO1 fun m hm => ?_))
    simp [hm]
  | none =>
    have hlw : takeW p W a x = { W with en := Hm.lack p (W.blk a) o } := by simp only [takeW, hget, ho]
    have fx := And.intro hT <| And.intro hT1 <| And.intro hV <| And.intro hV8 <| And.intro hs <| And.intro hsE <| And.intro hx <| hxi
    refine k_run ?_
    clear fx
    intro K hK
    have fx := And.intro hT hT1
    refine x_mut Wn rfl (by simp [hT1]) (hF := lack_fn _ _ p W a o ha hw (have ow := hO1; OwnW.re ow)) (h := ?_)
    rintro y H2 ⟨rfl, hO2⟩
    clear fx
    have hT2 := hO2.top
    simp only [wRow] at hT2
    have fx := And.intro hT <| And.intro hT1 <| hT2
    refine k_run ?_
    clear fx
    rw [hlw]
    refine e_ret [] .nil (by simp; rfl) ⟨by simp [hO2.top, wRow, hT2], by simp [hO2.acts, hT2], fun i a ha => by simp [hO2.act i a ha, hT2], hO2.stk.imp fun l hl => by simp [hl, hT2], by simp [hO2.glob, hT2], by simp [hO2.funs, hT2], by simp [hO2.clss, hT2], fun i c hc => by simp [hO2.cls i c hc, hT2], by simp [hO2.out, hT2], by simp [hO2.trc, hT2]⟩
theorem plus_fn (gl) (H : Nm → Option AO) (p : Prg) (W : Wld) (u v : Val) (hu : VOk W.funs.length W.classes.length u) (hv : VOk W.funs.length W.classes.length v) (hO : OwnW H p W) :
    FnE Tryz.prog gl 194 (Nm.under Wn) [.pt Wn 0, Val.av u, Val.av v] H (fun _ y H' => y = Val.av (plusW W u v).2 ∧ OwnW H' p (plusW W u v).1) noE := by
  have hT := hO.top
  simp only [wRow] at hT
  obtain ⟨u1, u2⟩ := u
  obtain ⟨v1, v2⟩ := v
  have hu2 := hu.num
  have hv2 := hv.num
  simp only at hu2 hv2
  have hwr : IntKind.i64.wrap (u2 + v2) = u2 + v2 := wrp (by omega) (by omega)
  obtain ⟨q, hq, hql⟩ := tmod_nat' (v := u2 + v2) (by omega)
  have hwq : IntKind.i64.wrap (q : Int) = q := wrp (by omega) (by omega)
  refine FnE.of_sem Tryz.func194 rfl (by kernel_rfl) (rs := [.cell 6 117]) rfl Tryz.ntmps194 (Nat.le_of_ble_eq_true rfl) (fun _ => under_usroot rfl) fun C w g root hroot => ?_
  by_cases h1 : u1 = 1
  · by_cases h2 : v1 = 1
    · subst h1
      subst h2
      have hlw : plusW W (1, u2) (1, v2) = (W, (1, (q : Int))) := by simp [plusW, hq]
      have fx := And.intro hT <| And.intro hwr <| And.intro hq <| And.intro hwq <| @bne_def
      refine k_run ?_
      clear fx
      rw [hlw]
      refine e_ret [] .nil (by simp; rfl) ⟨by simp, (have ow := hO; OwnW.re ow)⟩
    · subst h1
      have hb2 : (v1 == 1) = false := by simpa using h2
      have hlw : plusW W (1, u2) (v1, v2) = ({ W with en := 5 }, (0, 0)) := by simp [plusW, h2]
      have fx := And.intro hT <| And.intro hb2 <| @bne_def
      refine k_run ?_
      clear fx
      rw [hlw]
      refine e_ret [] .nil (by simp; rfl) ⟨by simp, ⟨by simp [hO.top, wRow, hT], by simp [hO.acts, hT], fun i a ha => by simp [hO.act i a ha, hT], hO.stk.imp fun l hl => by simp [hl, hT], by simp [hO.glob, hT], by simp [hO.funs, hT], by simp [hO.clss, hT], fun i c hc => by simp [hO.cls i c hc, hT], by simp [hO.out, hT], by simp [hO.trc, hT]⟩⟩
  · have hb1 : (u1 == 1) = false := by simpa using h1
    have hlw : plusW W (u1, u2) (v1, v2) = ({ W with en := 5 }, (0, 0)) := by simp [plusW, h1]
    have fx := And.intro hT <| And.intro hb1 <| @bne_def
    refine k_run ?_
    clear fx
    rw [hlw]
    refine e_ret [] .nil (by simp; rfl) ⟨by simp, ⟨by simp [hO.top, wRow, hT], by simp [hO.acts, hT], fun i a ha => by simp [hO.act i a ha, hT], hO.stk.imp fun l hl => by simp [hl, hT], by simp [hO.glob, hT], by simp [hO.funs, hT], by simp [hO.clss, hT], fun i c hc => by simp [hO.cls i c hc, hT], by simp [hO.out, hT], by simp [hO.trc, hT]⟩⟩
theorem attr_fn (gl) (H : Nm → Option AO) (p : Prg) (W : Wld) (v : Val) (x : Nat) (hw : WOk p W) (hv : VOk W.funs.length W.classes.length v) (hx : x < 8) (hO : OwnW H p W) :
    FnE Tryz.prog gl 197 (Nm.under Wn) [.pt Wn 0, Val.av v, iv x] H (fun _ y H' => y = Val.av (attrW W v x).2 ∧ OwnW H' p (attrW W v x).1) noE := by
  have hT := hO.top
  simp only [wRow] at hT
  have hxi : (x : Int) < 8 := by omega
  obtain ⟨v1, v2⟩ := v
  refine FnE.of_sem Tryz.func197 rfl (by kernel_rfl) (rs := [.cell 6 117]) rfl Tryz.ntmps197 (Nat.le_of_ble_eq_true rfl) (fun _ => under_usroot rfl) fun C w g root hroot => ?_
  by_cases h1 : v1 = 3
  · subst h1
    have hv2 := hv.num
    have hv3 := hv.cls rfl
    simp only at hv2 hv3
    obtain ⟨i, rfl⟩ : ∃ i : Nat, v2 = i := ⟨v2.toNat, by omega⟩
    have hil : i < W.classes.length := by omega
    obtain ⟨c, hc⟩ : ∃ c, W.classes[i]? = some c := ⟨_, gE hil⟩
    have hC := hO.clss
    have hCc := hO.cls i c hc
    have hcl := (hw.cls c (List.mem_of_getElem? hc)).1
    obtain ⟨s, hs⟩ : ∃ s, c[x]? = some s := ⟨_, gE (by omega)⟩
    obtain ⟨_, hsE⟩ := gS hs
    cases s with
    | some u =>
      have hlw : attrW W (3, (i : Int)) x = (W, u) := by simp [attrW, hc, hs]
      have fx := And.intro hT <| And.intro hC <| And.intro hCc <| And.intro hil <| And.intro hcl <| And.intro hs <| And.intro hsE <| And.intro hx <| And.intro hxi <| @bne_def
      refine k_run ?_
      repeat ((first | refine wSc (id := 4) qsPb0 mixed ?_); refine k_rund ?_; refine k_run ?_)
      clear fx
      rw [hlw]
      refine e_ret [] .nil (by simp; rfl) ⟨by simp, (have ow := hO; OwnW.re ow)⟩
    | none =>
      have hlw : attrW W (3, (i : Int)) x = ({ W with en := 7 }, (0, 0)) := by simp [attrW, hc, hs]
      have fx := And.intro hT <| And.intro hC <| And.intro hCc <| And.intro hil <| And.intro hcl <| And.intro hs <| And.intro hsE <| And.intro hx <| And.intro hxi <| @bne_def
      refine k_run ?_
      repeat ((first | refine wSc (id := 4) qsPb0 mixed ?_); refine k_rund ?_; refine k_run ?_)
      clear fx
      rw [hlw]
      refine e_ret [] .nil (by simp; rfl) ⟨by simp, ⟨by simp [hO.top, wRow, hT], by simp [hO.acts, hT], fun i a ha => by simp [hO.act i a ha, hT], hO.stk.imp fun l hl => by simp [hl, hT], by simp [hO.glob, hT], by simp [hO.funs, hT], by simp [hO.clss, hT], fun i c hc => by simp [hO.cls i c hc, hT], by simp [hO.out, hT], by simp [hO.trc, hT]⟩⟩
  · have hb1 : (v1 == 3) = false := by simpa using h1
    have hlw : attrW W (v1, v2) x = ({ W with en := 5 }, (0, 0)) := by simp [attrW, h1]
    have fx := And.intro hT <| And.intro hb1 <| @bne_def
    refine k_run ?_
    repeat ((first | refine wSc (id := 4) qsPb0 mixed ?_); refine k_rund ?_; refine k_run ?_)
    clear fx
    rw [hlw]
    refine e_ret [] .nil (by simp; rfl) ⟨by simp, ⟨by simp [hO.top, wRow, hT], by simp [hO.acts, hT], fun i a ha => by simp [hO.act i a ha, hT], hO.stk.imp fun l hl => by simp [hl, hT], by simp [hO.glob, hT], by simp [hO.funs, hT], by simp [hO.clss, hT], fun i c hc => by simp [hO.cls i c hc, hT], by simp [hO.out, hT], by simp [hO.trc, hT]⟩⟩
theorem loads_fn (gl) (H : Nm → Option AO) (p : Prg) (W : Wld) (a : Nat) (xs : List Int) (hP : ShapeP p) (hw : WOk p W) (ha : a < W.acts.length) (hxs : ∀ x ∈ xs, 0 ≤ x ∧ x ≤ 7) (hxl : xs.length ≤ 2) (hO : OwnW H p W) (hL : H (.u 2 0 0) = some (.row 1 (irows xs))) :
    FnE Tryz.prog gl 193 D12 [.pt Wn 0, iv a, .hs (.u 2 0 0) 1 0 xs.length] H (fun r y H' => y = .hs r 2 0 (loadsW p W a xs).2.length ∧ H' r = some (.row 2 (vrows (loadsW p W a xs).2)) ∧ OwnW H' p (loadsW p W a xs).1) noE := by
  refine FnE.of_sem Tryz.func193 rfl (by kernel_rfl) (rs := [.tmp 6]) rfl Tryz.ntmps193 (Nat.le_of_ble_eq_true rfl) (fun _ => D12_root) fun C w g root hroot => ?_
  have hr0 := hroot root (Nm.under_self _)
  simp only [D12_eq, Bool.or_eq_false_iff] at hr0
  obtain ⟨hr1, hr2⟩ := hr0
  have fx := fx0
  refine k_run ?_
  clear fx
  refine w_loop (fun n st => ∃ (i : Nat) (V : Wld) (vs : List Val), n = xs.length - i ∧ i ≤ xs.length ∧ vs.length = i ∧ loadsW p W a xs = ((loadsW p V a (xs.drop i)).1, vs ++ (loadsW p V a (xs.drop i)).2) ∧ WOk p V ∧ a < V.acts.length ∧ st.tm 0 = .pt Wn 0 ∧ st.tm 1 = iv a ∧ st.tm 2 = .hs (.u 2 0 0) 1 0 xs.length ∧ st.hp (.u 2 0 0) = some (.row 1 (irows xs)) ∧ st.tm 7 = .hs (.s 7) 2 0 vs.length ∧ st.hp (.s 7) = some (.row 2 (vrows vs)) ∧ st.tm 8 = iv i ∧ OwnW st.hp p V) xs.length ?_ ?_
  · exact ⟨0, W, [], by omega, by omega, rfl, by simp, hw, ha, by simp, by simp, by simp, by simp [hL], by simp, by simp, by simp, (have ow := hO; OwnW.re ow)⟩
  rintro n st - - ⟨i, V, vs, rfl, hi, hvl, hres, hV, haV, h0, h1, h2, hp2, h7, hp7, h8, hO⟩
  have hT := hO.top
  simp only [wRow] at hT
  have hstop : i = xs.length ∨ V.en ≠ 0 → loadsW p W a xs = (V, vs) := by
    intro e
    rw [hres]
    rcases e with e | e
    · subst e
      simp [loadsW]
    · cases hd : xs.drop i with
      | nil => simp [loadsW]
      | cons y l => simp only [loadsW]; rw [if_pos e]; simp
  by_cases hil : i < xs.length
  · by_cases hen : V.en = 0
    · obtain ⟨x, hx⟩ : ∃ x, xs[i]? = some x := ⟨_, gE hil⟩
      obtain ⟨_, hxE⟩ := gS hx
      obtain ⟨hx0, hx7⟩ := hxs x (List.mem_of_getElem? hx)
      obtain ⟨X, rfl⟩ : ∃ X : Nat, x = X := ⟨x.toNat, by omega⟩
      have hdr : xs.drop i = (X : Int) :: xs.drop (i + 1) := by rw [List.drop_eq_getElem_cons hil, hxE]
      have hstep : loadsW p V a (xs.drop i) = ((loadsW p (loadW p V a X).1 a (xs.drop (i + 1))).1, (loadW p V a X).2 :: (loadsW p (loadW p V a X).1 a (xs.drop (i + 1))).2) := by
        rw [hdr]
        simp only [loadsW]
        rw [if_neg (by rw [hen]; decide)]
      obtain ⟨hA, _, _⟩ := loadW_ok (a := a) (x := (X : Int)) hV
      have hl2 : vs.length ≤ 2 := by omega
      have fx := And.intro h0 <| And.intro h1 <| And.intro h2 <| And.intro hp2 <| And.intro h7 <| And.intro hp7 <| And.intro h8 <| And.intro hT <| And.intro hil <| And.intro hen <| And.intro hx <| hxE
      refine k_run ?_
      clear fx
      intro K hK
      have fx := And.intro h0 (And.intro h1 hT)
      refine x_mut Wn rfl (by simp [hT]) (hF := load_fn _ _ p V a X hP hV haV (by omega) (have ow := hO; OwnW.re ow)) (h := ?_)
      rintro y H1 ⟨rfl, hO1⟩
      clear fx
      generalize hq : loadW p V a X = q at hstep hA hO1
      obtain ⟨V', v1, v2⟩ := q
      have fx := And.intro h0 <| And.intro h1 <| And.intro h2 <| And.intro hp2 <| And.intro h7 <| And.intro hp7 <| And.intro h8 <| And.intro hT <| hl2
      refine k_run ?_
      clear fx
      refine ⟨xs.length - (i + 1), by omega, i + 1, V', vs ++ [(v1, v2)], rfl, by omega, by simp [hvl], ?_, hA.ok, Nat.lt_of_lt_of_le haV hA.grow.lacts, by simp [h0, hT], by simp [h1], by simp [h2], by simp [hp2], by simp, by simp [vrows], by simp [h8]; exact wrp (by omega) (by omega), (have ow := hO1; OwnW.re ow)⟩
      rw [hres, hstep]
      simp
    · have hend := hstop (.inr hen)
      have henb : (V.en == 0) = false := by simpa using hen
      have fx := And.intro h0 <| And.intro h1 <| And.intro h2 <| And.intro hp2 <| And.intro h7 <| And.intro hp7 <| And.intro h8 <| And.intro hT <| And.intro hil <| henb
      refine k_run ?_
      clear fx
      rw [hend]
      refine e_ret [(.s 6, root)] (.one rfl) (by simp; rfl) ⟨by simp, by simp [hp7, hr1, hr2], OwnW.finD (have ow := hO; OwnW.re ow) (fun _ => D12_root) (fun m hm => by simp [hm]) (by simp [Nm.sroot])⟩
  · have hend := hstop (.inl (by omega))
    have fx := And.intro h0 <| And.intro h1 <| And.intro h2 <| And.intro hp2 <| And.intro h7 <| And.intro hp7 <| And.intro h8 <| And.intro hT <| hil
    refine k_run ?_
    clear fx
    rw [hend]
    refine e_ret [(.s 6, root)] (.one rfl) (by simp; rfl) ⟨by simp, by simp [hp7, hr1, hr2], OwnW.finD (have ow := hO; OwnW.re ow) (fun _ => D12_root) (fun m hm => by simp [hm]) (by simp [Nm.sroot])⟩
end Go.Proofs.YtcbkblboonkfhaaGreat
end
