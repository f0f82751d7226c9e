/-
  Own texts, joined by mkclaim.py: Kb, Kj, Kl, Kn, Ko, Uh, Ul, Um.
-/
import Derived.Test.YtmaoicgfcngciaaDoorQ17
import Derived.Test.YtmaoicgfcngciaaDoorQ11
import Derived.Test.YtmaoicgfcngciaaDoorQ16
import Derived.Test.YtmaoicgfcngciaaDoorProg
import Derived.Test.YtmaoicgfcngciaaDoorQ15
import Derived.Test.YtmaoicgfcngciaaDoorQ13
set_option linter.unusedSimpArgs false
set_option linter.unusedVariables false
set_option maxRecDepth 100000
set_option maxHeartbeats 4000000

section
namespace Go.Proofs.YtmaoicgfcngciaaDoor
open Go Go.Hm Go.Proofs
structure LookP (p : Prg) : Prop where
  sml : Sml p
  sh : ShapeP p
theorem LookP.heads {p : Prg} (h : LookP p) : Heads p := h.sh.heads
theorem LookP.len {p : Prg} (h : LookP p) : p.length ≤ 7 := h.sh.len.2
theorem fasts_fn (gl) (p : Prg) (b : Nat) (k : Blk) (hk : p[b]? = some k) (hP : LookP p) : FnOk Tryd.prog gl 92 [pav p, iv b] (fun r y H' => y = .hs r 1 0 (fastsL p b).length ∧ H' r = some (.row 1 (irows (fastsL p b)))) := by
  have hs := hP.sml
  have hh := hP.heads
  have hl7 := hP.len
  obtain ⟨hbl, hbE⟩ := gS hk
  have hka : kindAt p b = k.kind := by simp [kindAt, hk]
  have hcl := cellsL_len (p := p) (b := b)
  refine FnOk.of_sem Tryd.func92 rfl (by kernel_rfl) (rs := [.tmp 4]) rfl Tryd.ntmps92 (Nat.le_of_ble_eq_true rfl) fun C w g root => ?_
  cases hkd : (k.kind == 1)
  · have hc : fastsL p b = [] := by
      have : ¬ k.kind = 1 := by simpa using hkd
      simp [fastsL, hka, this]
    rw [hc]
    all_goals have fx := fx0
    repeat' (first
     | refine w_seq ?_ | refine w_block ?_ | refine w_reg fun K hK => ?_
     | ((with_reducible refine s_end hK ?_); clear hK K)
     | (with_reducible refine s_none ?_)
     | (with_reducible first | refine x_assign (h := ?_) | refine x_box (h := ?_) | refine x_build (h := ?_))
     | ((with_reducible refine o_id 93 rfl ?_); refine x_callh (hF := cellNames_fn _ p b k hk hs hh hl7) (h := ?_))
     | (with_reducible refine x_q (h := ?_))
     | fail)
    all_goals try clear fx
    refine w_loop (fun n st => n = 0 ∧ st.tm 1 = iv b ∧ st.tm 2 = .pt (.s 2) 0 ∧ st.hp (.s 2) = some (.row 1 [[ksl p]]) ∧ st.tm 7 = iv 0 ∧ st.tm 5 = .hs (.s 5) 1 0 0 ∧ st.hp (.s 5) = some (.row 1 [])) 0 ?_ ?_
    · exact ⟨rfl, by simp⟩
    rintro n st - - ⟨rfl, h1, h2, hp2, h7, h5, hp5⟩
    all_goals have fx := And.intro h1 <| And.intro h2 <| And.intro hp2 <| And.intro h7 <| And.intro h5 <| And.intro hp5 <| And.intro hk <| And.intro hbE <| And.intro hkd <| hbl
    repeat' (first
     | refine w_seq ?_ | refine w_reg fun K hK => ?_
     | ((with_reducible refine s_end hK ?_); clear hK K)
     | (with_reducible first | refine then_normal ?_)
     | refine w_exit ?_
     | refine w_ret ?_
     | (with_reducible refine s_none ?_)
     | ((with_reducible refine g_id ?_); refine x_guard (h := ?_))
     | (with_reducible first | refine gx_tt ?_ | refine x_assign (h := ?_))
     | (with_reducible refine x_q (h := ?_))
     | refine x_condf (h1 := ?_)
     | fail)
    all_goals try clear fx
    exact e_list (t := 4) (by first | (simp [hp5]; done) | (simp [hp5]; rfl)) (by first | (simp [hp5]; done) | (simp [hp5]; rfl)) (by simp)
  have hc : fastsL p b = picked (fastIn p b) 8 := by
    have : k.kind = 1 := by simpa using hkd
    simp [fastsL, hka, this]
  rw [hc]
  all_goals have fx := fx0
  repeat' (first
   | refine w_seq ?_ | refine w_block ?_ | refine w_reg fun K hK => ?_
   | ((with_reducible refine s_end hK ?_); clear hK K)
   | (with_reducible refine s_none ?_)
   | (with_reducible first | refine x_assign (h := ?_) | refine x_box (h := ?_) | refine x_build (h := ?_))
   | ((with_reducible refine o_id 93 rfl ?_); refine x_callh (hF := cellNames_fn _ p b k hk hs hh hl7) (h := ?_))
   | (with_reducible refine x_q (h := ?_))
   | fail)
  all_goals try clear fx
  refine w_loop (fun n st => ∃ x : Nat, n = 8 - x ∧ x ≤ 8 ∧ st.tm 1 = iv b ∧ st.tm 2 = .pt (.s 2) 0 ∧ st.hp (.s 2) = some (.row 1 [[ksl p]]) ∧ st.tm 7 = iv x ∧ st.tm 6 = .hs (.s 6) 1 0 (cellsL p b).length ∧ st.hp (.s 6) = some (.row 1 (irows (cellsL p b))) ∧ st.tm 5 = .hs (.s 5) 1 0 (picked (fastIn p b) x).length ∧ st.hp (.s 5) = some (.row 1 (irows (picked (fastIn p b) x)))) 8 ?_ ?_
  · exact ⟨0, by omega, by omega, by simp, by simp, by simp, by simp, by simp, by simp, by simp [picked], by simp [picked]⟩
  rintro n st - - ⟨x, rfl, hx, h1, h2, hp2, h7, h6, hp6, h5, hp5⟩
  have hll := picked_len (f := fastIn p b) x
  by_cases hlt : x < 8
  · have hx7 : (x : Int) ≤ 7 := by omega
    have hfi : fastIn p b x = (isLocal b k x && !decide ((x : Int) ∈ cellsL p b)) := by simp only [fastIn, hk]
    have hnext : picked (fastIn p b) (x + 1) = if fastIn p b x = true then picked (fastIn p b) x ++ [(x : Int)] else picked (fastIn p b) x := rfl
    generalize hL : picked (fastIn p b) x = L at h5 hp5 hnext hll
    cases hlo : isLocal b k x
    · rw [if_neg (by rw [hfi, hlo]; simp)] at hnext
      all_goals have fx := And.intro h1 <| And.intro h2 <| And.intro hp2 <| And.intro h7 <| And.intro h6 <| And.intro hp6 <| And.intro h5 <| And.intro hp5 <| And.intro hk <| And.intro hbE <| And.intro hkd <| And.intro hbl <| And.intro hx7 <| hlo
      repeat' (first
       | refine w_seq ?_ | refine w_block ?_ | refine w_skip ?_ | refine w_reg fun K hK => ?_
       | ((with_reducible refine s_end hK ?_); clear hK K)
       | (with_reducible first | refine then_normal ?_)
       | (with_reducible refine s_none ?_)
       | ((with_reducible refine g_id ?_); refine x_guard (h := ?_))
       | (with_reducible first | refine gx_tt ?_ | refine x_tf (h := ?_) | refine x_assign (h := ?_))
       | ((with_reducible refine o_id 72 rfl ?_); refine x_call (hF := isLocal_fn _ p b k x hk (hs.bsm hk)) (h := ?_))
       | (with_reducible refine x_q (h := ?_))
       | refine x_condt (h1 := ?_) | refine x_condf (h1 := ?_)
       | fail)
      all_goals try clear fx
      exact ⟨8 - (x + 1), by omega, x + 1, rfl, by omega, by simp [h1], by simp [h2], by simp [hp2], by simp [h7]; exact wrp (by omega) (by omega), by simp [h6], by simp [hp6], by simp [hnext, h5], by simp [hnext, hp5]⟩
    cases hce : decide ((x : Int) ∈ cellsL p b)
    rotate_left
    · rw [if_neg (by rw [hfi, hlo, hce]; decide)] at hnext
      all_goals have fx := And.intro h1 <| And.intro h2 <| And.intro hp2 <| And.intro h7 <| And.intro h6 <| And.intro hp6 <| And.intro h5 <| And.intro hp5 <| And.intro hk <| And.intro hbE <| And.intro hkd <| And.intro hbl <| And.intro hx7 <| And.intro hlo <| hce
      repeat' (first
       | refine w_seq ?_ | refine w_block ?_ | refine w_skip ?_ | refine w_reg fun K hK => ?_
       | ((with_reducible refine s_end hK ?_); clear hK K)
       | (with_reducible first | refine then_normal ?_)
       | (with_reducible refine s_none ?_)
       | ((with_reducible refine g_id ?_); refine x_guard (h := ?_))
       | (with_reducible first | refine gx_tt ?_ | refine x_assign (h := ?_))
       | ((with_reducible refine o_id 72 rfl ?_); refine x_call (hF := isLocal_fn _ p b k x hk (hs.bsm hk)) (h := ?_))
       | ((with_reducible refine o_id 38 rfl ?_); refine x_call (hF := has_fn _ _ _ (Nat.le_trans cellsL_len (by decide))) (h := ?_))
       | (with_reducible refine x_q (h := ?_))
       | refine x_condt (h1 := ?_) | refine x_condf (h1 := ?_)
       | fail)
      all_goals try clear fx
      exact ⟨8 - (x + 1), by omega, x + 1, rfl, by omega, by simp [h1], by simp [h2], by simp [hp2], by simp [h7]; exact wrp (by omega) (by omega), by simp [h6], by simp [hp6], by simp [hnext, h5], by simp [hnext, hp5]⟩
    · rw [if_pos (by rw [hfi, hlo, hce]; rfl)] at hnext
      all_goals have fx := And.intro h1 <| And.intro h2 <| And.intro hp2 <| And.intro h7 <| And.intro h6 <| And.intro hp6 <| And.intro h5 <| And.intro hp5 <| And.intro hk <| And.intro hbE <| And.intro hkd <| And.intro hbl <| And.intro hx7 <| And.intro hlo <| hce
      repeat' (first
       | refine w_seq ?_ | refine w_block ?_ | refine w_skip ?_ | refine w_reg fun K hK => ?_
       | ((with_reducible refine s_end hK ?_); clear hK K)
       | (with_reducible first | refine then_normal ?_)
       | (with_reducible refine s_none ?_)
       | ((with_reducible refine g_id ?_); refine x_guard (h := ?_))
       | (with_reducible first | refine gx_tt ?_ | refine x_assign (h := ?_) | refine x_append (T := 47) (h := ?_) | refine x_build (h := ?_))
       | ((with_reducible refine o_id 72 rfl ?_); refine x_call (hF := isLocal_fn _ p b k x hk (hs.bsm hk)) (h := ?_))
       | ((with_reducible refine o_id 38 rfl ?_); refine x_call (hF := has_fn _ _ _ (Nat.le_trans cellsL_len (by decide))) (h := ?_))
       | (with_reducible refine x_q (h := ?_))
       | refine x_condt (h1 := ?_)
       | fail)
      all_goals try clear fx
      refine ⟨8 - (x + 1), by omega, x + 1, rfl, by omega, by simp [h1], by simp [h2], by simp [hp2], by simp [h7]; exact wrp (by omega) (by omega), by simp [h6], by simp [hp6], by simp [hnext, h5], ?_⟩
      rw [hnext]
      simp [hp5, irows]
  · have hge : x = 8 := by omega
    subst hge
    all_goals have fx := And.intro h1 <| And.intro h2 <| And.intro hp2 <| And.intro h7 <| And.intro h5 <| And.intro hp5 <| And.intro hk <| And.intro hbE <| And.intro hkd <| hbl
    repeat' (first
     | refine w_seq ?_ | refine w_reg fun K hK => ?_
     | ((with_reducible refine s_end hK ?_); clear hK K)
     | (with_reducible first | refine then_normal ?_)
     | refine w_exit ?_
     | refine w_ret ?_
     | (with_reducible refine s_none ?_)
     | ((with_reducible refine g_id ?_); refine x_guard (h := ?_))
     | (with_reducible first | refine x_tf (h := ?_) | refine x_assign (h := ?_))
     | (with_reducible refine x_q (h := ?_))
     | refine x_condf (h1 := ?_)
     | fail)
    all_goals try clear fx
    exact e_list (t := 4) (by first | (simp [hp5]; done) | (simp [hp5]; rfl)) (by first | (simp [hp5]; done) | (simp [hp5]; rfl)) (by simp)
theorem cellPlace_fn (gl) (p : Prg) (b : Nat) (k : Blk) (x : Int) (hk : p[b]? = some k) (hP : LookP p) : FnOk Tryd.prog gl 130 [pav p, iv b, iv x] (fun _ y _ => y = iv (cellPl p b x)) := by
  have hs := hP.sml
  have hh := hP.heads
  have hl7 := hP.len
  have hbl := (gS hk).1
  have hcl := cellsL_len (p := p) (b := b)
  have hfl := freesL_len (p := p) (b := b)
  have hbd := placeIn_bd (xs := freesL p b) (x := x)
  have hw : IntKind.i64.wrap (((cellsL p b).length : Int) + placeIn (freesL p b) x) = (cellsL p b).length + placeIn (freesL p b) x := wrp (by omega) (by omega)
  refine FnOk.of_sem Tryd.func130 rfl (by kernel_rfl) (rs := [.tmp 6]) rfl Tryd.ntmps130 (Nat.le_of_ble_eq_true rfl) fun C w g root => ?_
  by_cases hm : x ∈ cellsL p b
  · have h0 : 0 ≤ placeIn (cellsL p b) x := placeIn_nonneg.2 hm
    all_goals have fx :=  h0
    repeat' (first
     | refine w_seq ?_ | refine w_skip ?_ | refine w_reg fun K hK => ?_
     | ((with_reducible refine s_end hK ?_); clear hK K)
     | (with_reducible first | refine then_normal ?_ | refine then_ret ?_)
     | refine w_ret ?_
     | (with_reducible first | refine s_none ?_ | refine x_assign (h := ?_) | refine x_box (h := ?_))
     | ((with_reducible refine o_id 93 rfl ?_); refine x_callh (hF := cellNames_fn _ p b k hk hs hh hl7) (h := ?_))
     | ((with_reducible refine o_id 71 rfl ?_); refine x_call (hF := placeIn_fn _ (cellsL p b) _ (by omega)) (h := ?_))
     | (with_reducible refine x_q (h := ?_))
     | refine x_condt (h1 := ?_) | refine x_condf (h1 := ?_)
     | fail)
    all_goals try clear fx
    refine e_ret [] .nil (by simp; rfl) ?_
    simp [cellPl, hm]
  · have h0 : ¬ 0 ≤ placeIn (cellsL p b) x := fun h => hm (placeIn_nonneg.1 h)
    all_goals have fx := And.intro h0 <| hw
    repeat' (first
     | refine w_seq ?_ | refine w_skip ?_ | refine w_reg fun K hK => ?_
     | ((with_reducible refine s_end hK ?_); clear hK K)
     | (with_reducible first | refine then_normal ?_ | refine then_ret ?_)
     | refine w_ret ?_
     | (with_reducible first | refine s_none ?_ | refine x_assign (h := ?_) | refine x_box (h := ?_))
     | ((with_reducible refine o_id 93 rfl ?_); refine x_callh (hF := cellNames_fn _ p b k hk hs hh hl7) (h := ?_))
     | ((with_reducible refine o_id 94 rfl ?_); refine x_callh (hF := frees_fn _ p b hbl hs hh hl7) (h := ?_))
     | ((with_reducible refine o_id 71 rfl ?_); refine x_call (hF := placeIn_fn _ (cellsL p b) _ (by omega)) (h := ?_))
     | ((with_reducible refine o_id 71 rfl ?_); refine x_call (hF := placeIn_fn _ (freesL p b) _ (by omega)) (h := ?_))
     | (with_reducible refine x_q (h := ?_))
     | refine x_condt (h1 := ?_) | refine x_condf (h1 := ?_)
     | fail)
    all_goals try clear fx
    refine e_ret [] .nil (by simp; rfl) ?_
    simp [cellPl, hm]
theorem symbol_fn (gl) (p : Prg) (b : Nat) (k : Blk) (x : Int) (hk : p[b]? = some k) (hP : LookP p) : FnOk Tryd.prog gl 129 [pav p, iv b, iv x] (fun _ y _ => y = iv (symOf p b x)) := by
  have hs := hP.sml
  have hh := hP.heads
  have hl7 := hP.len
  obtain ⟨hbl, hbE⟩ := gS hk
  have hka : kindAt p b = k.kind := by simp [kindAt, hk]
  refine FnOk.of_sem Tryd.func129 rfl (by kernel_rfl) (rs := [.tmp 6]) rfl Tryd.ntmps129 (Nat.le_of_ble_eq_true rfl) fun C w g root => ?_
  cases ho : decide (owner p b x < 0)
  rotate_left
  · skip
    all_goals have fx :=  ho
    repeat' (first
     | refine w_seq ?_ | refine w_block ?_ | refine w_skip ?_ | refine w_reg fun K hK => ?_
     | ((with_reducible refine s_end hK ?_); clear hK K)
     | (with_reducible first | refine then_normal ?_ | refine in_normal ?_ | refine then_ret ?_ | refine in_ret ?_)
     | refine w_ret ?_
     | (with_reducible first | refine s_none ?_ | refine x_assign (h := ?_) | refine x_box (h := ?_))
     | ((with_reducible refine o_id 115 rfl ?_); refine x_call (hF := owner_fn _ p b k x hk hs hh) (h := ?_))
     | (with_reducible refine x_q (h := ?_))
     | refine x_condt (h1 := ?_) | refine x_condf (h1 := ?_)
     | fail)
    all_goals try clear fx
    refine e_ret [] .nil (by simp; rfl) ?_
    have ho' : owner p b x < 0 := by simpa using ho
    simp [symOf, ho']
  cases hb : (owner p b x == (b : Int))
  · skip
    all_goals have fx := And.intro ho <| And.intro hb <| @bne_def
    repeat' (first
     | refine w_seq ?_ | refine w_block ?_ | refine w_skip ?_ | refine w_reg fun K hK => ?_
     | ((with_reducible refine s_end hK ?_); clear hK K)
     | (with_reducible first | refine then_normal ?_ | refine in_normal ?_ | refine then_ret ?_ | refine in_ret ?_)
     | refine w_ret ?_
     | (with_reducible first | refine s_none ?_ | refine x_assign (h := ?_) | refine x_box (h := ?_))
     | ((with_reducible refine o_id 115 rfl ?_); refine x_call (hF := owner_fn _ p b k x hk hs hh) (h := ?_))
     | (with_reducible refine x_q (h := ?_))
     | refine x_condt (h1 := ?_) | refine x_condf (h1 := ?_)
     | fail)
    all_goals try clear fx
    refine e_ret [] .nil (by simp; rfl) ?_
    have ho' : ¬ owner p b x < 0 := by simpa using ho
    have hb' : ¬ owner p b x = b := by simpa using hb
    simp only [symOf, if_neg ho', if_pos hb']
    rfl
  have hb' : owner p b x = b := by simpa using hb
  have hnl : ¬ owner p b x < 0 := by omega
  have hnn : ¬ owner p b x ≠ b := fun h => h hb'
  cases hkd : (k.kind == 2)
  rotate_left
  · skip
    all_goals have fx := And.intro ho <| And.intro hb <| And.intro @bne_def <| And.intro hk <| And.intro hbE <| And.intro hbl <| hkd
    repeat' (first
     | refine w_seq ?_ | refine w_block ?_ | refine w_skip ?_ | refine w_reg fun K hK => ?_
     | ((with_reducible refine s_end hK ?_); clear hK K)
     | (with_reducible first | refine then_normal ?_ | refine in_normal ?_ | refine then_ret ?_ | refine in_ret ?_)
     | refine w_ret ?_
     | (with_reducible first | refine s_none ?_ | refine x_assign (h := ?_) | refine x_box (h := ?_))
     | ((with_reducible refine o_id 115 rfl ?_); refine x_call (hF := owner_fn _ p b k x hk hs hh) (h := ?_))
     | (with_reducible refine x_q (h := ?_))
     | refine x_condt (h1 := ?_) | refine x_condf (h1 := ?_)
     | fail)
    all_goals try clear fx
    refine e_ret [] .nil (by simp; rfl) ?_
    have hkd' : k.kind = 2 := by simpa using hkd
    simp only [symOf, if_neg hnl, if_neg hnn, hka, if_pos hkd']
    rfl
  have hkd' : ¬ k.kind = 2 := by simpa using hkd
  cases hce : decide (x ∈ cellsL p b)
  all_goals
    all_goals have fx := And.intro ho <| And.intro hb <| And.intro @bne_def <| And.intro hk <| And.intro hbE <| And.intro hbl <| And.intro hkd <| hce
    repeat' (first
     | refine w_seq ?_ | refine w_block ?_ | refine w_skip ?_ | refine w_reg fun K hK => ?_
     | ((with_reducible refine s_end hK ?_); clear hK K)
     | (with_reducible first | refine then_normal ?_ | refine in_normal ?_ | refine then_ret ?_ | refine in_ret ?_)
     | refine w_ret ?_
     | (with_reducible first | refine s_none ?_ | refine x_assign (h := ?_) | refine x_box (h := ?_))
     | ((with_reducible refine o_id 115 rfl ?_); refine x_call (hF := owner_fn _ p b k x hk hs hh) (h := ?_))
     | ((with_reducible refine o_id 93 rfl ?_); refine x_callh (hF := cellNames_fn _ p b k hk hs hh hl7) (h := ?_))
     | ((with_reducible refine o_id 38 rfl ?_); refine x_call (hF := has_fn _ _ _ (Nat.le_trans cellsL_len (by decide))) (h := ?_))
     | (with_reducible refine x_q (h := ?_))
     | refine x_condt (h1 := ?_) | refine x_condf (h1 := ?_)
     | fail)
    all_goals try clear fx
    refine e_ret [] .nil (by simp; rfl) ?_
    simp at hce
    simp only [symOf, if_neg hnl, if_neg hnn, hka, if_neg hkd', hce]
    rfl
theorem nameOp_fn (gl) (p : Prg) (b : Nat) (k : Blk) (x w : Int) (hk : p[b]? = some k) (hP : LookP p) (hw0 : 0 ≤ w) (hw2 : w ≤ 2) : FnOk Tryd.prog gl 117 [pav p, iv b, iv x, iv w] (fun _ y _ => y = .agg [iv (nameOp p b x w).1, iv (nameOp p b x w).2]) := by
  have hw8 : IntKind.i64.wrap (8 + w) = 8 + w := wrp (by omega) (by omega)
  have hw11 : IntKind.i64.wrap (11 + w) = 11 + w := wrp (by omega) (by omega)
  have hw22 : IntKind.i64.wrap (2 + w) = 2 + w := wrp (by omega) (by omega)
  have hw5 : IntKind.i64.wrap (5 + w) = 5 + w := wrp (by omega) (by omega)
  refine FnOk.of_sem Tryd.func117 rfl (by kernel_rfl) (rs := [.cell 8 74]) rfl Tryd.ntmps117 (Nat.le_of_ble_eq_true rfl) fun C w g root => ?_
  cases h0 : (symOf p b x == 0)
  rotate_left
  · have h0' : symOf p b x = 0 := by simpa using h0
    all_goals have fx := And.intro h0 <| hw8
    repeat' (first
     | refine w_seq ?_ | refine w_block ?_ | refine w_skip ?_ | refine w_reg fun K hK => ?_
     | ((with_reducible refine s_end hK ?_); clear hK K)
     | (with_reducible first | refine then_normal ?_ | refine in_normal ?_ | refine then_ret ?_ | refine in_ret ?_)
     | refine w_ret ?_
     | (with_reducible first | refine s_none ?_ | refine x_assign (h := ?_) | refine x_box (h := ?_) | refine x_alloc (h := ?_) | refine x_store0 (h := ?_))
     | ((with_reducible refine o_id 129 rfl ?_); refine x_call (hF := symbol_fn _ p b k x hk hP) (h := ?_))
     | (with_reducible refine x_q (h := ?_))
     | refine x_condt (h1 := ?_) | refine x_condf (h1 := ?_)
     | fail)
    all_goals try clear fx
    refine e_ret [] .nil (by simp; rfl) ?_
    simp [nameOp, h0']
  have h0' : ¬ symOf p b x = 0 := by simpa using h0
  cases h2 : (symOf p b x == 2)
  rotate_left
  · have h2' : symOf p b x = 2 := by simpa using h2
    all_goals have fx := And.intro h0 <| And.intro h2 <| hw11
    repeat' (first
     | refine w_seq ?_ | refine w_block ?_ | refine w_skip ?_ | refine w_reg fun K hK => ?_
     | ((with_reducible refine s_end hK ?_); clear hK K)
     | (with_reducible first | refine then_normal ?_ | refine in_normal ?_ | refine then_ret ?_ | refine in_ret ?_)
     | refine w_ret ?_
     | (with_reducible first | refine s_none ?_ | refine x_assign (h := ?_) | refine x_box (h := ?_) | refine x_alloc (h := ?_) | refine x_store0 (h := ?_))
     | ((with_reducible refine o_id 129 rfl ?_); refine x_call (hF := symbol_fn _ p b k x hk hP) (h := ?_))
     | (with_reducible refine x_q (h := ?_))
     | refine x_condt (h1 := ?_) | refine x_condf (h1 := ?_)
     | fail)
    all_goals try clear fx
    refine e_ret [] .nil (by simp; rfl) ?_
    simp [nameOp, h2']
  have h2' : ¬ symOf p b x = 2 := by simpa using h2
  cases h4 : (symOf p b x == 4)
  rotate_left
  · have h4' : symOf p b x = 4 := by simpa using h4
    all_goals have fx := And.intro h0 <| And.intro h2 <| And.intro h4 <| hw22
    repeat' (first
     | refine w_seq ?_ | refine w_block ?_ | refine w_skip ?_ | refine w_reg fun K hK => ?_
     | ((with_reducible refine s_end hK ?_); clear hK K)
     | (with_reducible first | refine then_normal ?_ | refine in_normal ?_ | refine then_ret ?_ | refine in_ret ?_)
     | refine w_ret ?_
     | (with_reducible first | refine s_none ?_ | refine x_assign (h := ?_) | refine x_box (h := ?_) | refine x_alloc (h := ?_) | refine x_store0 (h := ?_))
     | ((with_reducible refine o_id 129 rfl ?_); refine x_call (hF := symbol_fn _ p b k x hk hP) (h := ?_))
     | ((with_reducible refine o_id 92 rfl ?_); refine x_callh (hF := fasts_fn _ p b k hk hP) (h := ?_))
     | ((with_reducible refine o_id 71 rfl ?_); refine x_call (hF := placeIn_fn _ (fastsL p b) _ (Nat.le_trans fastsL_len (by decide))) (h := ?_))
     | (with_reducible refine x_q (h := ?_))
     | refine x_condt (h1 := ?_) | refine x_condf (h1 := ?_)
     | fail)
    all_goals try clear fx
    refine e_ret [] .nil (by simp; rfl) ?_
    simp [nameOp, h4']
  have h4' : ¬ symOf p b x = 4 := by simpa using h4
  all_goals have fx := And.intro h0 <| And.intro h2 <| And.intro h4 <| hw5
  repeat' (first
   | refine w_seq ?_ | refine w_block ?_ | refine w_skip ?_ | refine w_reg fun K hK => ?_
   | ((with_reducible refine s_end hK ?_); clear hK K)
   | (with_reducible first | refine then_normal ?_ | refine in_normal ?_ | refine then_ret ?_ | refine in_ret ?_)
   | refine w_ret ?_
   | (with_reducible first | refine s_none ?_ | refine x_assign (h := ?_) | refine x_box (h := ?_) | refine x_alloc (h := ?_) | refine x_store0 (h := ?_))
   | ((with_reducible refine o_id 129 rfl ?_); refine x_call (hF := symbol_fn _ p b k x hk hP) (h := ?_))
   | ((with_reducible refine o_id 130 rfl ?_); refine x_call (hF := cellPlace_fn _ p b k x hk hP) (h := ?_))
   | (with_reducible refine x_q (h := ?_))
   | refine x_condt (h1 := ?_) | refine x_condf (h1 := ?_)
   | fail)
  all_goals try clear fx
  refine e_ret [] .nil (by simp; rfl) ?_
  simp only [nameOp, if_neg h0', if_neg h2', if_neg h4']
  rfl
abbrev qsKj0 : Sch := .q 0 <| .q 1 <| .q 2 <| .q 3 <| .q 4 <| .q 5 <| .q 6 <| .l 7 [5, 4, 3, 0] <| .l 8 [5, 4, 3, 0] <| .l 9 [5, 4, 3] <| .l 10 [] <| .done
theorem kinds12 {k : Int} (h : 0 ≤ k ∧ k ≤ 11) : k = 0 ∨ k = 1 ∨ k = 2 ∨ k = 3 ∨ k = 4 ∨ k = 5 ∨ k = 6 ∨ k = 7 ∨ k = 8 ∨ k = 9 ∨ k = 10 ∨ k = 11 := by omega
abbrev preL (p : Prg) (b : Nat) (s : Stm) (i : Nat) : List (Int × Int) := (0, 0) :: (s.reads.take i).map fun x => nameOp p b x 0
theorem preL_next {p : Prg} {b : Nat} {s : Stm} {i : Nat} {u : Int} (h : s.reads[i]? = some u) : preL p b s (i + 1) = preL p b s i ++ [nameOp p b u 0] := by
  simp [preL, List.take_add_one, h]
theorem stmtL_pre {p : Prg} {b : Nat} {s : Stm} : stmtL p b s = preL p b s s.reads.length ++ (workL s ++ setL p b s) := by simp [stmtL, preL, readL]
theorem spec_stmtOps_fn (gl) (p : Prg) (b : Nat) (k : Blk) (s : Stm) (hk : p[b]? = some k) (hP : LookP p) (hkd : 0 ≤ s.kind ∧ s.kind ≤ 11) : FnOk Tryd.prog gl 95 [pav p, iv b, s.av] (fun r y H' => y = .hs r 2 0 (stmtL p b s).length ∧ H' r = some (.row 2 (orows (stmtL p b s)))) := by
  have hrl := s.reads_len
  rw [stmtL_pre]
  refine FnOk.of_sem Tryd.func95 rfl (by kernel_rfl) (rs := [.tmp 6]) rfl Tryd.ntmps95 (Nat.le_of_ble_eq_true rfl) fun C w g root => ?_
  have fx := fx0
  have d1 := readsOf_fn gl s
  refine k_run ?_
  repeat ((first | refine wSc (id := 6) qsKj0 mixed ?_); refine k_rund ?_; refine k_run ?_)
  clear fx d1
  refine w_loop (fun n st => ∃ i : Nat, n = s.reads.length - i ∧ i ≤ s.reads.length ∧ st.tm 1 = iv b ∧ st.tm 3 = .pt (.s 3) 0 ∧ st.hp (.s 3) = some (.row 1 [[ksl p]]) ∧ st.tm 5 = .pt (.s 5) 0 ∧ st.hp (.s 5) = some (.row 4 [s.cells]) ∧ st.tm 8 = .hs (.s 8) 1 0 s.reads.length ∧ st.hp (.s 8) = some (.row 1 (irows s.reads)) ∧ st.tm 9 = iv i ∧ st.tm 7 = .hs (.s 7) 2 0 (preL p b s i).length ∧ st.hp (.s 7) = some (.row 2 (orows (preL p b s i)))) s.reads.length ?_ ?_
  · exact ⟨0, by omega, by omega, by simp, by simp, by simp, by simp, by simp, by simp, by simp, by simp, by simp, by simp [orows]⟩
  rintro n st - - ⟨i, rfl, hi, h1, h3, hp3, h5, hp5, h8, hp8, h9, h7, hp7⟩
  have hll : (preL p b s i).length ≤ 10 := by simp; omega
  by_cases hil : i < s.reads.length
  · obtain ⟨u, hu⟩ : ∃ u, s.reads[i]? = some u := ⟨_, gE hil⟩
    obtain ⟨_, huE⟩ := gS hu
    have hnx := preL_next (p := p) (b := b) hu
    generalize hL : preL p b s i = L at h7 hp7 hnx hll
    have fx := And.intro h1 <| And.intro h3 <| And.intro hp3 <| And.intro h5 <| And.intro hp5 <| And.intro h8 <| And.intro hp8 <| And.intro h9 <| And.intro h7 <| And.intro hp7 <| And.intro hu <| And.intro huE <| And.intro hil <| hll
    have c1 := nameOp_fn gl p b k u 0 hk hP (by decide) (by decide)
    refine k_run ?_
    repeat ((first | refine wSc (id := 6) qsKj0 mixed ?_); refine k_rund ?_; refine k_run ?_)
    clear fx c1
    refine ⟨s.reads.length - (i + 1), by omega, i + 1, rfl, by omega, by simp [h1], by simp [h3], by simp [hp3], by simp [h5], by simp [hp5], by simp [h8], by simp [hp8], by simp; exact wrp (by omega) (by omega), by simp [hnx], ?_⟩
    rw [hnx]
    simp [orows_snoc]
  · have hge : i = s.reads.length := by omega
    rw [hge] at h7 hp7 hll
    generalize hL : preL p b s s.reads.length = L at h7 hp7 hll
    have hw5 : s.kind = 5 → IntKind.i64.wrap ((s.reads.length : Int) - 1) = (s.reads.length : Int) - 1 := fun _ => wrp (by omega) (by omega)
    obtain ⟨kd, to, a, c⟩ := s
    simp only at hkd hw5
    rcases kinds12 hkd with rfl | rfl | rfl | rfl | rfl | rfl | rfl | rfl | rfl | rfl | rfl | rfl
    all_goals
      have fx := And.intro h1 <| And.intro h3 <| And.intro hp3 <| And.intro h5 <| And.intro hp5 <| And.intro h8 <| And.intro hp8 <| And.intro h9 <| And.intro h7 <| And.intro hp7 <| And.intro hil <| And.intro hge <| And.intro hll <| hw5
      have c1 := nameOp_fn gl p b k to 1 hk hP (by decide) (by decide)
      have c2 := nameOp_fn gl p b k to 2 hk hP (by decide) (by decide)
      refine k_run ?_
      repeat ((first | refine wSc (id := 6) qsKj0 mixed ?_); refine k_rund ?_; refine k_run ?_)
      clear fx c1 c2
      refine e_list (t := 6) ?_ ?_ ?_
      all_goals simp [workL, setL, orows_snoc, List.take_append, List.take_of_length_le, h7, hp7]
end Go.Proofs.YtmaoicgfcngciaaDoor
end
section
namespace Go.Proofs.YtmaoicgfcngciaaDoor
open Go Go.Hm Go.Proofs
abbrev qsKl0 : Sch := .q 0 <| .q 1 <| .q 2 <| .q 3 <| .q 4 <| .q 5 <| .q 6 <| .q 7 <| .q 8 <| .q 9 <| .q 10 <| .q 11 <| .q 13 <| .q 14 <| .q 16 <| .q 17 <| .q 19 <| .q 20 <| .l2 12 [20, 19, 17, 16, 14, 13, 10, 9, 8, 7, 6, 5, 4, 3, 2, 1, 0] (.l2 15 [20, 19, 17, 16, 10, 9, 8, 7, 6, 5, 4, 3, 2, 1, 0] (.l2 18 [20, 19, 10, 9, 8, 7, 6, 5, 4, 3, 2, 1, 0] (.l2 21 [10, 9, 8, 7, 6, 5, 4, 3, 2, 1, 0] (.q 22 <| .l 23 [22, 10, 9, 8, 7, 6, 5, 4, 3, 2, 1, 0] <| .l 24 [] <| .done) 23 [20, 19, 10, 9, 8, 7, 6, 5, 4, 3, 2, 1, 0] (.l 21 [10, 9, 8, 7, 6, 5, 4, 3, 2, 1, 0] <| .q 22 <| .l 24 [] <| .done)) 23 [20, 19, 17, 16, 10, 9, 8, 7, 6, 5, 4, 3, 2, 1, 0] (.l 18 [20, 19, 10, 9, 8, 7, 6, 5, 4, 3, 2, 1, 0] <| .l 21 [10, 9, 8, 7, 6, 5, 4, 3, 2, 1, 0] <| .q 22 <| .l 24 [] <| .done)) 23 [20, 19, 17, 16, 14, 13, 10, 9, 8, 7, 6, 5, 4, 3, 2, 1, 0] (.l 15 [20, 19, 17, 16, 10, 9, 8, 7, 6, 5, 4, 3, 2, 1, 0] <| .l 18 [20, 19, 10, 9, 8, 7, 6, 5, 4, 3, 2, 1, 0] <| .l 21 [10, 9, 8, 7, 6, 5, 4, 3, 2, 1, 0] <| .q 22 <| .l 24 [] <| .done)) 23 [20, 19, 17, 16, 14, 13, 11, 10, 9, 8, 7, 6, 5, 4, 3, 2, 1, 0] (.l 12 [20, 19, 17, 16, 14, 13, 10, 9, 8, 7, 6, 5, 4, 3, 2, 1, 0] <| .l 15 [20, 19, 17, 16, 10, 9, 8, 7, 6, 5, 4, 3, 2, 1, 0] <| .l 18 [20, 19, 10, 9, 8, 7, 6, 5, 4, 3, 2, 1, 0] <| .l 21 [10, 9, 8, 7, 6, 5, 4, 3, 2, 1, 0] <| .q 22 <| .l 24 [] <| .done)
abbrev qsKl1 : Sch := .q 0 <| .q 1 <| .q 2 <| .q 3 <| .q 4 <| .q 5 <| .q 6 <| .q 7 <| .q 8 <| .q 9 <| .q 10 <| .q 11 <| .q 12 <| .l 13 [11, 10, 9, 8, 7, 6, 5, 4, 1, 0] <| .l 14 [11, 10, 9, 8, 7, 6, 5, 4, 0] <| .q 15 <| .l 16 [] <| .done
theorem blkAt_parts {p : Prg} {b : Int} (hs : Sml p) (h : blkAt p b = true) : ∃ (B : Nat) (k : Blk), b = B ∧ p[B]? = some k ∧ LookP p ∧ progOk p = true := by
  simp only [blkAt, Bool.and_eq_true, decide_eq_true_eq] at h
  obtain ⟨h1, h2, h3⟩ := h
  have hl : b.toNat < p.length := by omega
  obtain ⟨k, hk⟩ : ∃ k, p[b.toNat]? = some k := ⟨_, gE hl⟩
  have h1' := h1
  simp only [progOk, Bool.and_eq_true] at h1
  exact ⟨b.toNat, k, by omega, hk, ⟨hs, ShapeP.of hs h1.1⟩, h1'⟩
theorem blkAt_not {p : Prg} {b : Int} (h : blkAt p b = false) (hv : progOk p = true) : ¬ (0 ≤ b ∧ b ≤ (p.length : Int) - 1) := fun e => by
  simp only [blkAt, hv, Bool.true_and] at h
  have h1 : (decide (0 ≤ b) && decide (b < p.length)) = true := by simp; omega
  rw [h1] at h
  cases h
theorem spec_compiled_fn (gl) (p : Prg) (b : Nat) (k : Blk) (hk : p[b]? = some k) (hP : LookP p) : FnOk Tryd.prog gl 52 [pav p, iv b] (fun r y H' => y = .agg ((codeL p b).own r 0) ∧ OwnK H' r 0 (codeL p b)) := by
  have hs := hP.sml
  have hh := hP.heads
  have hl7 := hP.len
  have hkm := List.mem_of_getElem? hk
  obtain ⟨hbl, hbE⟩ := gS hk
  have hk12 := hP.sh.body k hkm
  have hkinds := (hP.sh.names k hkm).kinds
  obtain ⟨hpl, _⟩ := hs.bsm hk
  have hcode : codeL p b = ⟨k.kind, k.params, fastsL p b, cellsL p b, freesL p b, bodyL p b k.body⟩ := by simp [codeL, opsL, hk]
  rw [hcode]
  refine FnOk.of_sem Tryd.func52 rfl (by kernel_rfl) (rs := [.cell 4 99]) rfl Tryd.ntmps52 (Nat.le_of_ble_eq_true rfl) fun C w g root => ?_
  have fx := And.intro hk <| And.intro hbE <| hbl
  have d1 := copyInts_fn gl k.params (by omega)
  have d2 := fasts_fn gl p b k hk hP
  have d3 := cellNames_fn gl p b k hk hs hh hl7
  have d4 := frees_fn gl p b hbl hs hh hl7
  refine k_run ?_
  first | refine wSc (id := 1) qsKl0 mixed ?_ | refine wSc (id := 5) qsKl1 mixed ?_
  refine k_runj (fun st => st.tm 1 = iv b ∧ st.tm 2 = .pt (.s 2) 0 ∧ st.hp (.s 2) = some (.row 1 [[ksl p]]) ∧ st.tm 6 = iv 0 ∧ st.tm 5 = .pt (.s 5) 0 ∧ st.tm 4 = .pt (.s 4) 0 ∧ st.hp (.s 4) = some (.row 6 [noCode.own (.s 4) 0]) ∧ st.hp (.s 5) = some (.row 6 [Cod.own (.s 5) 0 ⟨k.kind, k.params, fastsL p b, cellsL p b, freesL p b, []⟩]) ∧ st.hp (.c (.s 5) 0 1) = some (.row 1 (irows k.params)) ∧ st.hp (.c (.s 5) 0 2) = some (.row 1 (irows (fastsL p b))) ∧ st.hp (.c (.s 5) 0 3) = some (.row 1 (irows (cellsL p b))) ∧ st.hp (.c (.s 5) 0 4) = some (.row 1 (irows (freesL p b))) ∧ st.hp (.c (.s 5) 0 5) = some (.row 2 [])) ?_
  clear fx d1 d2 d3 d4
  rintro st ⟨h1, h2, hp2, h6, h5, h4, hp4, hp5, q1, q2, q3, q4, q5⟩
  refine w_loop (fun n st => ∃ i : Nat, n = k.body.length - i ∧ i ≤ k.body.length ∧ st.tm 1 = iv b ∧ st.tm 2 = .pt (.s 2) 0 ∧ st.hp (.s 2) = some (.row 1 [[ksl p]]) ∧ st.tm 6 = iv i ∧ st.tm 5 = .pt (.s 5) 0 ∧ st.tm 4 = .pt (.s 4) 0 ∧ st.hp (.s 4) = some (.row 6 [noCode.own (.s 4) 0]) ∧ ∃ c : Cod, c = ⟨k.kind, k.params, fastsL p b, cellsL p b, freesL p b, bodyL p b (k.body.take i)⟩ ∧ st.hp (.s 5) = some (.row 6 [c.own (.s 5) 0]) ∧ OwnK st.hp (.s 5) 0 c) k.body.length ?_ ?_
  · refine ⟨0, by omega, by omega, h1, h2, hp2, h6, h5, h4, hp4, _, rfl, ?_, ⟨?_, ?_, ?_, ?_, ?_⟩⟩
    all_goals simp [bodyL, hp5, q1, q2, q3, q4, q5]
  clear h1 h2 hp2 h6 h5 h4 hp4 hp5 q1 q2 q3 q4 q5
  rintro n st - - ⟨i, rfl, hi, h1, h2, hp2, h6, h5, h4, hp4, c, hc, hp5, ⟨o1, o2, o3, o4, o5⟩⟩
  have hll := bodyL_len (p := p) (b := b) (k.body.take i)
  rw [List.length_take] at hll
  by_cases hil : i < k.body.length
  · obtain ⟨s, hss⟩ : ∃ s, k.body[i]? = some s := ⟨_, gE hil⟩
    obtain ⟨_, hsE⟩ := gS hss
    have hnx := bodyL_take (p := p) (b := b) hss
    have hsl := stmtL_len (p := p) (b := b) (s := s)
    generalize hL : bodyL p b (k.body.take i) = L at hc hnx hll
    subst hc
    simp only [Cod.own_eq] at hp5 o1 o2 o3 o4 o5
    have fx := And.intro h1 <| And.intro h2 <| And.intro hp2 <| And.intro h6 <| And.intro h5 <| And.intro hp5 <| And.intro o1 <| And.intro o2 <| And.intro o3 <| And.intro o4 <| And.intro o5 <| And.intro hk <| And.intro hbE <| And.intro hbl <| And.intro hss <| And.intro hsE <| And.intro hil <| And.intro hll <| hsl
    have d1 := spec_stmtOps_fn gl p b k s hk hP (hkinds s (List.mem_of_getElem? hss))
    refine k_run ?_
    repeat ((first | refine wSc (id := 1) qsKl0 mixed ?_ | refine wSc (id := 5) qsKl1 mixed ?_); refine k_rund ?_; refine k_run ?_)
    clear fx d1
    refine ⟨k.body.length - (i + 1), by omega, i + 1, rfl, by omega, by simp [h1], by simp [h2], by simp [hp2], by simp; exact wrp (by omega) (by omega), by simp [h5], by simp [h4], by simp [hp4], _, rfl, ?_, ⟨?_, ?_, ?_, ?_, ?_⟩⟩
    all_goals simp [hnx, o1, o2, o3, o4, o5, hp5]
  · have hge : i = k.body.length := by omega
    subst hge
    rw [List.take_length] at hc
    subst hc
    simp only [Cod.own_eq] at hp5 o1 o2 o3 o4 o5
    have fx := And.intro h1 <| And.intro h2 <| And.intro hp2 <| And.intro h6 <| And.intro h5 <| And.intro h4 <| And.intro hp4 <| And.intro hp5 <| And.intro o1 <| And.intro o2 <| And.intro o3 <| And.intro o4 <| And.intro o5 <| And.intro hk <| And.intro hbE <| And.intro hbl <| hil
    refine k_run ?_
    repeat ((first | refine wSc (id := 1) qsKl0 mixed ?_ | refine wSc (id := 5) qsKl1 mixed ?_); refine k_rund ?_; refine k_run ?_)
    clear fx
    refine e_ret [(.s 5, root)] (.one rfl) (by simp [h4]; rfl) ⟨?_, ⟨?_, ?_, ?_, ?_, ?_⟩⟩
    all_goals simp [h4, o1, o2, o3, o4, o5]
end Go.Proofs.YtmaoicgfcngciaaDoor
end
section
namespace Go.Proofs.YtmaoicgfcngciaaDoor
open Go Go.Hm Go.Proofs
abbrev qsUh0 : Sch := .q 0 <| .q 2 <| .q 3 <| .q 4 <| .q 5 <| .q 6 <| .l 1 [6, 5, 4, 3, 2, 0] <| .q 7 <| .q 8 <| .q 9 <| .l 10 [] <| .done
theorem opWords_fn (gl) : FnOk Tryd.prog gl 53 [] (fun r y H' => y = .hs r 1 0 opW.length ∧ H' r = some (.row 1 (xrows opW))) := by
  refine FnOk.of_sem Tryd.func53 rfl (by kernel_rfl) (rs := [.tmp 0]) rfl Tryd.ntmps53 (Nat.le_of_ble_eq_true rfl) fun C w g root => ?_
  have fx := fx0
  refine k_run ?_
  clear fx
  exact e_list (t := 0) (by first | (simp []; done) | (simp []; rfl)) (by first | (simp []; done) | (simp []; rfl)) (by simp)
theorem lone_fn (gl) (c : Int) : FnOk Tryd.prog gl 54 [iv c] (fun _ y _ => y = bv (loneO c)) := by
  refine FnOk.of_sem Tryd.func54 rfl (by kernel_rfl) (rs := [.tmp 2]) rfl Tryd.ntmps54 (Nat.le_of_ble_eq_true rfl) fun C w g root => ?_
  cases h1 : (c == 0)
  · cases h2 : (c == 14)
    · cases h3 : (c == 19)
      · skip
        have fx := And.intro h1 <| And.intro h2 <| h3
        refine k_run ?_
        clear fx
        refine e_ret [] .nil (by simp; rfl) (by simp [loneO, h1, h2, h3])
      · skip
        have fx := And.intro h1 <| And.intro h2 <| h3
        refine k_run ?_
        clear fx
        refine e_ret [] .nil (by simp; rfl) (by simp [loneO, h1, h2, h3])
    · skip
      have fx := And.intro h1 <| h2
      refine k_run ?_
      clear fx
      refine e_ret [] .nil (by simp; rfl) (by simp [loneO, h1, h2])
  · skip
    have fx :=  h1
    refine k_run ?_
    clear fx
    refine e_ret [] .nil (by simp; rfl) (by simp [loneO, h1])
theorem codeOps_txt {p : Prg} {b : Int} (hs : Sml p) : (∀ o ∈ (codeG p b).ops, TxtO o) ∧ (codeG p b).ops.length ≤ 60 := by
  cases hb : blkAt p b
  · have h2 : codeG p b = noCode := by simp [codeG, hb]
    rw [h2]
    exact ⟨fun o h => (by cases h), by simp [noCode]⟩
  · obtain ⟨B, k, rfl, hk, hP, _⟩ := blkAt_parts hs hb
    have h1 : codeG p B = codeL p B := by simp [codeG, hb]
    have hops : (codeL p B).ops = opsL p B := by simp [codeL, hk]
    rw [h1, hops]
    exact ⟨ord_txt hP.sh hk, opsL_len hP.sh⟩
theorem spec_ShowCode_fn (gl) (p : Prg) (b : Int) (hs : Sml p) : FnOk Tryd.prog gl 28 [pav p, iv b] (fun _ y _ => y = tx (fmtO (codeG p b).ops)) := by
  have hpl := hs.len
  have hw : IntKind.i64.wrap ((p.length : Int) - 1) = (p.length : Int) - 1 := wrp (by omega) (by omega)
  obtain ⟨hot, hol⟩ := codeOps_txt (b := b) hs
  refine FnOk.of_sem Tryd.func28 rfl (by kernel_rfl) (rs := [.tmp 4]) rfl Tryd.ntmps28 (Nat.le_of_ble_eq_true rfl) fun C w g root => ?_
  cases hv : progOk p
  · have hno : fmtO (codeG p b).ops = [] := by simp [codeG, blkAt, hv, noCode, fmtO, linesL]
    rw [hno]
    have fx := And.intro hv <| hw
    have c1 := validProgram_fn gl p hs
    refine k_run ?_
    repeat ((first | refine wSc (id := 8) qsUh0 mixed ?_); refine k_rund ?_; refine k_run ?_)
    clear fx c1
    refine e_ret [] .nil (by simp; rfl) (by simp)
  cases hb : blkAt p b
  · have hno : fmtO (codeG p b).ops = [] := by simp [codeG, hb, noCode, fmtO, linesL]
    have hn := blkAt_not hb hv
    have hr : (decide (0 ≤ b) && decide (b ≤ (p.length : Int) - 1)) = false := by
      apply Bool.eq_false_iff.2
      intro h
      simp only [Bool.and_eq_true, decide_eq_true_eq] at h
      exact hn h
    rw [hno]
    have fx := And.intro hv <| And.intro hw <| hr
    have c1 := validProgram_fn gl p hs
    have c2 := inRange_fn gl b 0 ((p.length : Int) - 1)
    refine k_run ?_
    repeat ((first | refine wSc (id := 8) qsUh0 mixed ?_); refine k_rund ?_; refine k_run ?_)
    clear fx c1 c2
    refine e_ret [] .nil (by simp; rfl) (by simp)
  obtain ⟨B, k, rfl, hk, hP, _⟩ := blkAt_parts hs hb
  have hBl := (gS hk).1
  have hr : (B : Int) ≤ (p.length : Int) - 1 := by omega
  have hcc := spec_compiled_fn gl p B k hk hP
  have h1 : codeG p B = codeL p B := by simp [codeG, hb]
  rw [h1] at hot hol ⊢
  clear h1
  generalize codeL p B = c at *
  have fx := And.intro hv <| And.intro hw <| hr
  have c1 := validProgram_fn gl p hs
  have c2 := inRange_fn gl B 0 ((p.length : Int) - 1)
  have e1 := hcc
  refine k_run ?_
  repeat ((first | refine wSc (id := 8) qsUh0 mixed ?_); refine k_rund ?_; refine k_run ?_)
  clear fx c1 c2 e1
  rintro K hK y H' ⟨rfl, hO⟩
  obtain ⟨o1, o2, o3, o4, o5⟩ := hO.hcln
  refine ⟨by simp, ?_⟩
  have fx := And.intro o1 <| And.intro o2 <| And.intro o3 <| And.intro o4 <| o5
  refine k_run ?_
  repeat ((first | refine wSc (id := 8) qsUh0 mixed ?_); refine k_rund ?_; refine k_run ?_)
  clear fx
  refine w_loop (fun n st => ∃ i : Nat, n = c.ops.length - i ∧ i ≤ c.ops.length ∧ st.tm 6 = .hs (.c (.s 22) 0 5) 2 0 c.ops.length ∧ st.hp (.c (.s 22) 0 5) = some (.row 2 (orows c.ops)) ∧ st.tm 7 = iv i ∧ st.tm 5 = tx (fmtO (c.ops.take i))) c.ops.length ?_ ?_
  · exact ⟨0, by omega, by omega, by simp, by simp [o5], by simp, by simp [fmtO, linesL]⟩
  rintro n st - - ⟨i, rfl, hi, h6, hp6, h7, h5⟩
  by_cases hil : i < c.ops.length
  · obtain ⟨o, ho⟩ : ∃ o, c.ops[i]? = some o := ⟨_, gE hil⟩
    obtain ⟨_, hoE⟩ := gS ho
    have hto := hot o (List.mem_of_getElem? ho)
    have hco := hto.code
    have har := hto.arg
    have hsl := showO_len hto
    have hfl := fmtO_len (i := i) hot
    have hnext := fmtO_succ ho
    obtain ⟨c1, a1⟩ := o
    simp only at hco har
    obtain ⟨J, rfl⟩ : ∃ J : Nat, c1 = J := ⟨c1.toNat, by omega⟩
    have hJ : J < 21 := by omega
    have hJl : J < opW.length := hJ
    obtain ⟨v, hvw⟩ : ∃ v, opW[J]? = some v := ⟨_, gE hJl⟩
    obtain ⟨_, hvE⟩ := gS hvw
    have hvg : opW.getD J [] = v := by simp [List.getD_eq_getElem?_getD, hvw]
    have hvl := opW_len J hJ
    rw [hvg] at hvl
    generalize fmtO (c.ops.take i) = L at h5 hfl hnext
    cases hlo : loneO (J : Int)
    · rw [showO_arg hlo hvg] at hnext
      have hxl := numI_len har
      have hl1 : ∀ c, 2000000000 ≤ c → L.length + v.length ≤ c := fun c hc => by omega
      have hl2 : ∀ c, 2000000000 ≤ c → L.length + v.length + 1 ≤ c := fun c hc => by omega
      have hl3 : ∀ c, 2000000000 ≤ c → L.length + (v.length + 1) + (numI a1).length ≤ c := fun c hc => by omega
      have hl4 : ∀ c, 2000000000 ≤ c → L.length + (v.length + ((numI a1).length + 1)) ≤ c := fun c hc => by omega
      have hl5 : ∀ c, 2000000000 ≤ c → L.length + (v.length + (numI a1).length) ≤ c := fun c hc => by omega
      have fx := And.intro h6 <| And.intro hp6 <| And.intro h7 <| And.intro h5 <| And.intro hil <| And.intro ho <| And.intro hoE <| And.intro hJl <| And.intro hvw <| And.intro hvE <| And.intro hlo <| And.intro hl1 <| And.intro hl2 <| And.intro hl3 <| And.intro hl4 <| hl5
      have c1 := lone_fn gl (J : Int)
      have c2 := number_fn gl a1 (by omega) (by omega)
      have d1 := opWords_fn gl
      refine k_run ?_
      repeat ((first | refine wSc (id := 8) qsUh0 mixed ?_); refine k_rund ?_; refine k_run ?_)
      clear fx c1 c2 d1
      refine ⟨c.ops.length - (i + 1), by omega, i + 1, rfl, by omega, by simp [h6], by simp [hp6], by simp [h7]; exact wrp (by omega) (by omega), by simp [hnext]⟩
    · rw [showO_lone hlo hvg] at hnext
      have hl1 : ∀ c, 2000000000 ≤ c → L.length + v.length ≤ c := fun c hc => by omega
      have fx := And.intro h6 <| And.intro hp6 <| And.intro h7 <| And.intro h5 <| And.intro hil <| And.intro ho <| And.intro hoE <| And.intro hJl <| And.intro hvw <| And.intro hvE <| And.intro hlo <| hl1
      have c1 := lone_fn gl (J : Int)
      have d1 := opWords_fn gl
      refine k_run ?_
      repeat ((first | refine wSc (id := 8) qsUh0 mixed ?_); refine k_rund ?_; refine k_run ?_)
      clear fx c1 d1
      refine ⟨c.ops.length - (i + 1), by omega, i + 1, rfl, by omega, by simp [h6], by simp [hp6], by simp [h7]; exact wrp (by omega) (by omega), by simp [hnext]⟩
  · obtain rfl : i = c.ops.length := by omega
    have fx := And.intro h6 <| And.intro hp6 <| And.intro h7 <| And.intro h5 <| hil
    refine k_run ?_
    repeat ((first | refine wSc (id := 8) qsUh0 mixed ?_); refine k_rund ?_; refine k_run ?_)
    clear fx
    refine e_ret [] .nil (by simp [h5]; rfl) ?_
    simp
end Go.Proofs.YtmaoicgfcngciaaDoor
end
section
namespace Go.Proofs.YtmaoicgfcngciaaDoor
open Go Go.Hm Go.Proofs
open Go.Shelf
def libRen : Ren := ⟨fun | 0 => 0 | 1 => 1 | 2 => 2 | 129 => 135 | 138 => 132 | 143 => 133 | 146 => 96 | 166 => 20 | 169 => 24 | 171 => 47 | 195 => 139 | 197 => 140 | 217 => 146 | 218 => 141 | 219 => 142 | 221 => 118 | 224 => 148 | 225 => 147 | 240 => 46 | 243 => 86 | 246 => 109 | 260 => 145 | 266 => 150 | 267 => 149 | 268 => 131 | 276 => 85 | 283 => 121 | 284 => 122 | 285 => 123 | 286 => 124 | 314 => 151 | 317 => 134 | 318 => 136 | 319 => 137 | 320 => 138 | 337 => 143 | 338 => 144 | 347 => 152 | 348 => 153 | 349 => 154 | 350 => 155 | 351 => 156 | 352 => 157 | 353 => 158 | 354 => 159 | 355 => 160 | 356 => 161 | 357 => 162 | 358 => 163 | 359 => 164 | 360 => 165 | 361 => 166 | 362 => 167 | 366 => 179 | 367 => 189 | n => n, fun | 0 => 0 | 1 => 1 | 2 => 2 | 3 => 3 | 4 => 4 | 5 => 5 | 6 => 6 | 7 => 7 | 8 => 8 | 9 => 9 | 10 => 10 | 11 => 11 | 12 => 12 | 13 => 13 | 14 => 14 | 15 => 15 | 16 => 16 | 17 => 17 | 18 => 18 | 19 => 19 | 20 => 20 | 21 => 21 | 27 => 183 | 28 => 47 | 29 => 82 | 30 => 109 | 31 => 71 | 34 => 133 | 36 => 96 | 37 => 33 | 46 => 188 | 47 => 189 | 51 => 186 | 52 => 193 | 53 => 175 | 54 => 176 | 55 => 192 | 61 => 137 | 70 => 44 | 71 => 45 | 72 => 46 | 74 => 51 | 75 => 52 | 76 => 53 | 77 => 54 | 80 => 61 | 81 => 108 | 83 => 90 | 84 => 166 | 103 => 39 | 105 => 190 | 106 => 191 | 111 => 102 | 113 => 172 | 114 => 68 | 119 => 196 | 127 => 91 | 131 => 141 | 137 => 197 | 138 => 198 | 139 => 199 | 146 => 200 | 150 => 182 | 151 => 201 | 164 => 131 | 165 => 132 | 171 => 174 | 172 => 177 | 173 => 178 | 174 => 179 | 211 => 184 | 212 => 185 | 213 => 187 | 232 => 194 | 233 => 195 | 238 => 202 | 239 => 203 | 240 => 204 | 241 => 205 | 242 => 206 | 243 => 207 | 244 => 208 | 245 => 209 | 246 => 210 | 247 => 211 | 248 => 212 | 249 => 213 | n => n, fun | 1 => 3 | 3 => 6 | 4 => 7 | 17 => 2 | 18 => 4 | 19 => 5 | n => n⟩
theorem lay146 : Lays.n146 Tryd.prog libRen := { mixed := by kernel_rfl, f138 := Tryd.func132.trans (congrArg some (by kernel_rfl)), f143 := Tryd.func133.trans (congrArg some (by kernel_rfl)), f146 := Tryd.func96.trans (congrArg some (by kernel_rfl)), f195 := Tryd.func139.trans (congrArg some (by kernel_rfl)), f197 := Tryd.func140.trans (congrArg some (by kernel_rfl)), f217 := Tryd.func146.trans (congrArg some (by kernel_rfl)), f218 := Tryd.func141.trans (congrArg some (by kernel_rfl)), f219 := Tryd.func142.trans (congrArg some (by kernel_rfl)), f221 := Tryd.func118.trans (congrArg some (by kernel_rfl)), f224 := Tryd.func148.trans (congrArg some (by kernel_rfl)), f225 := Tryd.func147.trans (congrArg some (by kernel_rfl)), f260 := Tryd.func145.trans (congrArg some (by kernel_rfl)), f266 := Tryd.func150.trans (congrArg some (by kernel_rfl)), f267 := Tryd.func149.trans (congrArg some (by kernel_rfl)), f268 := Tryd.func131.trans (congrArg some (by kernel_rfl)), f314 := Tryd.func151.trans (congrArg some (by kernel_rfl)), t0 := Tryd.underlying0, a0 := Tryd.isAgg0, z0 := Tryd.sizeOf0, v0 := Tryd.zeroValue0, t3 := Tryd.underlying3, a3 := Tryd.isAgg3, z3 := Tryd.sizeOf3, v3 := Tryd.zeroValue3, t4 := Tryd.underlying4, a4 := Tryd.isAgg4, z4 := Tryd.sizeOf4, v4 := Tryd.zeroValue4, t5 := Tryd.underlying5, a5 := Tryd.isAgg5, z5 := Tryd.sizeOf5, v5 := Tryd.zeroValue5, t9 := Tryd.underlying9, a9 := Tryd.isAgg9, z9 := Tryd.sizeOf9, v9 := Tryd.zeroValue9, t21 := Tryd.underlying21, a21 := Tryd.isAgg21, z21 := Tryd.sizeOf21, v21 := Tryd.zeroValue21, t31 := Tryd.underlying71, a31 := Tryd.isAgg71, z31 := Tryd.sizeOf71, v31 := Tryd.zeroValue71, t46 := Tryd.underlying188, a46 := Tryd.isAgg188, z46 := Tryd.sizeOf188, v46 := Tryd.zeroValue188, t51 := Tryd.underlying186, a51 := Tryd.isAgg186, z51 := Tryd.sizeOf186, v51 := Tryd.zeroValue186, t105 := Tryd.underlying190, a105 := Tryd.isAgg190, z105 := Tryd.sizeOf190, v105 := Tryd.zeroValue190, t119 := Tryd.underlying196, a119 := Tryd.isAgg196, z119 := Tryd.sizeOf196, t138 := Tryd.underlying198, a138 := Tryd.isAgg198, z138 := Tryd.sizeOf198, v138 := Tryd.zeroValue198, t139 := Tryd.underlying199, a139 := Tryd.isAgg199, z139 := Tryd.sizeOf199, v139 := Tryd.zeroValue199, t146 := Tryd.underlying200, a146 := Tryd.isAgg200, z146 := Tryd.sizeOf200, v146 := Tryd.zeroValue200, g1 := by kernel_rfl, g3 := by kernel_rfl, g4 := by kernel_rfl }
@[simp] theorem lib_b : libRen.t 72 = 46 := rfl
@[simp] theorem lib_u : libRen.t 5 = 5 := rfl
theorem split_at_fn (gl) {m : Int} (hgm : gl 3 = some [.sc (.int .i64 m)]) (l : Txt) (c : UInt8) (hl : l.length < 4294967281) : FnOk Tryd.prog gl 96 [tx l, tx [c]] (fun _ y _ => y = xsl (splitL c l)) :=
  split_fn lay146 (by kernel_rfl) gl m hgm l c hl
end Go.Proofs.YtmaoicgfcngciaaDoor
end
section
namespace Go.Proofs.YtmaoicgfcngciaaDoor
open Go Go.Hm Go.Proofs
attribute [local simp] slcAV
theorem u8w {n : Int} (h1 : 0 ≤ n) (h2 : n ≤ 255) : IntKind.u8.wrap n = n := by rw [IntKind.wrap_u8]; omega
theorem codeW_first {v : Txt} {i : Nat} {u : Txt} (hu : opW[i]? = some u) (he : u = v) (hno : ∀ j, j < i → ∀ x, opW[j]? = some x → x ≠ v) : codeW v = some i := by
  obtain ⟨hi, hE⟩ := gS hu
  unfold codeW
  rw [List.findIdx?_eq_some_iff_getElem]
  refine ⟨hi, by simp [hE, he], fun j hj => ?_⟩
  have := hno j hj _ (gE (by omega))
  simpa using this
theorem codeW_no {v : Txt} (hno : ∀ j, j < 21 → ∀ x, opW[j]? = some x → x ≠ v) : codeW v = none := by
  unfold codeW
  rw [List.findIdx?_eq_none_iff]
  intro x hx
  obtain ⟨j, hj⟩ := List.getElem?_of_mem hx
  have := hno j (gS hj).1 x hj
  simpa using this
def wordI (o : Option Nat) : Int := match o with | some n => n | none => -1
theorem codeOf_fn (gl) (hgl : gl 1 = some ((vtx opW).map AV.sc)) (v : Txt) : FnOk Tryd.prog gl 60 [tx v] (fun _ y _ => y = iv (wordI (codeW v))) := by
  have hol : opW.length = 21 := rfl
  have htk : List.take 21 opW = opW := rfl
  have htm : ∀ f : Txt → AV, List.take 21 (List.map f opW) = List.map f opW := fun f => rfl
  refine FnOk.of_sem Tryd.func60 rfl (by kernel_rfl) (rs := [.tmp 2]) rfl Tryd.ntmps60 (Nat.le_of_ble_eq_true rfl) fun C w g root => ?_
  have fx := And.intro hgl <| And.intro hol <| And.intro htk <| htm
  refine k_run ?_
  clear fx
  refine w_loop (fun n st => ∃ i : Nat, n = 21 - i ∧ i ≤ 21 ∧ st.tm 0 = tx v ∧ st.tm 5 = .agg ((vtx opW).map AV.sc) ∧ st.tm 6 = iv i ∧ ∀ j, j < i → ∀ x, opW[j]? = some x → x ≠ v) 21 ?_ ?_
  · exact ⟨0, by omega, by omega, by simp, by simp [htk, htm], by simp, fun j hj => absurd hj (by omega)⟩
  rintro n st - - ⟨i, rfl, hi, h0, h5, h6, hno⟩
  by_cases hil : i < 21
  · have hii : (i : Int) < 21 := by omega
    have hil' : i < opW.length := hil
    obtain ⟨u, hu⟩ : ∃ u, opW[i]? = some u := ⟨_, gE hil'⟩
    obtain ⟨_, huE⟩ := gS hu
    by_cases he : u = v
    · have hb : (u == v) = true := by simpa using he
      have fx := And.intro h0 <| And.intro h5 <| And.intro h6 <| And.intro hii <| And.intro hil <| And.intro hil' <| And.intro hu <| And.intro huE <| hb
      refine k_run ?_
      clear fx
      rw [codeW_first hu he hno]
      refine e_ret [] .nil (by simp; rfl) (by simp [wordI])
    · have hb : (u == v) = false := by simpa using he
      have fx := And.intro h0 <| And.intro h5 <| And.intro h6 <| And.intro hii <| And.intro hil <| And.intro hil' <| And.intro hu <| And.intro huE <| hb
      refine k_run ?_
      clear fx
      refine ⟨21 - (i + 1), by omega, i + 1, rfl, by omega, by simp [h0], by simp [h5], by simp [h6]; exact wrp (by omega) (by omega), fun j hj x hx => ?_⟩
      by_cases e : j = i
      · subst e
        rw [hu] at hx
        obtain rfl := Option.some.inj hx
        exact he
      · exact hno j (by omega) x hx
  · obtain rfl : i = 21 := by omega
    rw [codeW_no hno]
    have fx := And.intro h0 <| And.intro h5 <| h6
    refine k_run ?_
    clear fx
    refine e_ret [] .nil (by simp; rfl) (by simp [wordI])
end Go.Proofs.YtmaoicgfcngciaaDoor
end
