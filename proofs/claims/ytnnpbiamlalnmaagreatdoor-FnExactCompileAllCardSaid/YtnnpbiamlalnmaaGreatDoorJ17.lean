/-
  Own texts, joined by mkclaim.py: Kb, Kj, Kl, Kn, Ha, Hb.
-/
import Derived.Test.YtnnpbiamlalnmaaGreatDoorJ16
import Derived.Test.YtnnpbiamlalnmaaGreatDoorJ15
import Derived.Test.YtnnpbiamlalnmaaGreatDoorJ11
set_option linter.unusedSimpArgs false
set_option linter.unusedVariables false
set_option maxRecDepth 100000
set_option maxHeartbeats 4000000

section
namespace Go.Proofs.YtnnpbiamlalnmaaGreatDoor
open Go Go.Hm Go.Proofs
structure LookP (p : Prg) : Prop where
  sml : Sml p
  sh : ShapeP p
theorem LookP.heads {p : Prg} (h : LookP p) : Heads p := h.sh.heads
theorem LookP.len {p : Prg} (h : LookP p) : p.length ≤ 7 := h.sh.len.2
theorem fasts_fn (gl) (p : Prg) (b : Nat) (k : Blk) (hk : p[b]? = some k) (hP : LookP p) : FnOk Tryz.prog gl 44 [pav p, iv b] (fun r y H' => y = .hs r 1 0 (fastsL p b).length ∧ H' r = some (.row 1 (irows (fastsL p b)))) := by
  have hs := hP.sml
  have hh := hP.heads
  have hl7 := hP.len
  obtain ⟨hbl, hbE⟩ := gS hk
  have hka : kindAt p b = k.kind := by simp [kindAt, hk]
  have hcl := cellsL_len (p := p) (b := b)
  refine FnOk.of_sem Tryz.func44 rfl (by kernel_rfl) (rs := [.tmp 4]) rfl Tryz.ntmps44 (Nat.le_of_ble_eq_true rfl) fun C w g root => ?_
  cases hkd : (k.kind == 1)
  · have hc : fastsL p b = [] := by
      have : ¬ k.kind = 1 := by simpa using hkd
      simp [fastsL, hka, this]
    rw [hc]
    all_goals have fx := fx0
    repeat' (first
     | refine w_seq ?_ | refine w_block ?_ | refine w_skip ?_ | refine w_reg fun K hK => ?_
     | ((with_reducible refine s_end hK ?_); clear hK K)
     | (with_reducible first | refine then_normal ?_ | refine in_normal ?_ | refine then_exit ?_ | refine in_exit ?_ | refine then_ret ?_ | refine in_ret ?_ | refine in_other (by decide) ?_)
     | refine w_exit ?_
     | refine w_ret ?_
     | (with_reducible refine s_none ?_)
     | ((with_reducible refine g_id ?_); refine x_guard (h := ?_))
     | (with_reducible first | refine gx_tt ?_ | refine gx_ff ?_ | refine x_tf (h := ?_) | refine x_ft (h := ?_) | refine x_u (h := ?_) | refine x_assign (h := ?_) | refine x_box (h := ?_) | refine x_append0 (T := 26) (h := ?_) | refine x_append (T := 26) (h := ?_) | refine x_build (h := ?_))
     | ((with_reducible refine o_id 45 rfl ?_); refine x_callh (hF := cellNames_fn _ p b k hk hs hh hl7) (h := ?_))
     | (with_reducible refine x_q (h := ?_))
     | (with_reducible refine gx_s (fun ht => ?_) (fun ht => ?_))
     | refine x_condt (h1 := ?_) | refine x_condf (h1 := ?_)
     | fail)
    all_goals try clear fx
    refine w_loop (fun n st => n = 0 ∧ st.tm 1 = iv b ∧ st.tm 2 = .pt (.s 2) 0 ∧ st.hp (.s 2) = some (.row 1 [[ksl p]]) ∧ st.tm 7 = iv 0 ∧ st.tm 5 = .hs (.s 5) 1 0 0 ∧ st.hp (.s 5) = some (.row 1 [])) 0 ?_ ?_
    · exact ⟨rfl, by simp⟩
    rintro n st - - ⟨rfl, h1, h2, hp2, h7, h5, hp5⟩
    all_goals have fx := And.intro h1 <| And.intro h2 <| And.intro hp2 <| And.intro h7 <| And.intro h5 <| And.intro hp5 <| And.intro hk <| And.intro hbE <| And.intro hkd <| hbl
    repeat' (first
     | refine w_seq ?_ | refine w_block ?_ | refine w_skip ?_ | refine w_reg fun K hK => ?_
     | ((with_reducible refine s_end hK ?_); clear hK K)
     | (with_reducible first | refine then_normal ?_ | refine in_normal ?_ | refine then_exit ?_ | refine in_exit ?_ | refine then_ret ?_ | refine in_ret ?_ | refine in_other (by decide) ?_)
     | refine w_exit ?_
     | refine w_ret ?_
     | (with_reducible refine s_none ?_)
     | ((with_reducible refine g_id ?_); refine x_guard (h := ?_))
     | (with_reducible first | refine gx_tt ?_ | refine gx_ff ?_ | refine x_tf (h := ?_) | refine x_ft (h := ?_) | refine x_u (h := ?_) | refine x_assign (h := ?_) | refine x_box (h := ?_) | refine x_append0 (T := 26) (h := ?_) | refine x_append (T := 26) (h := ?_) | refine x_build (h := ?_))
     | (with_reducible refine x_q (h := ?_))
     | (with_reducible refine gx_s (fun ht => ?_) (fun ht => ?_))
     | refine x_condt (h1 := ?_) | refine x_condf (h1 := ?_)
     | fail)
    all_goals try clear fx
    exact e_list (t := 4) (by first | (simp [hp5]; done) | (simp [hp5]; rfl)) (by first | (simp [hp5]; done) | (simp [hp5]; rfl)) (by simp)
  have hc : fastsL p b = picked (fastIn p b) 8 := by
    have : k.kind = 1 := by simpa using hkd
    simp [fastsL, hka, this]
  rw [hc]
  all_goals have fx := fx0
  repeat' (first
   | refine w_seq ?_ | refine w_block ?_ | refine w_skip ?_ | refine w_reg fun K hK => ?_
   | ((with_reducible refine s_end hK ?_); clear hK K)
   | (with_reducible first | refine then_normal ?_ | refine in_normal ?_ | refine then_exit ?_ | refine in_exit ?_ | refine then_ret ?_ | refine in_ret ?_ | refine in_other (by decide) ?_)
   | refine w_exit ?_
   | refine w_ret ?_
   | (with_reducible refine s_none ?_)
   | ((with_reducible refine g_id ?_); refine x_guard (h := ?_))
   | (with_reducible first | refine gx_tt ?_ | refine gx_ff ?_ | refine x_tf (h := ?_) | refine x_ft (h := ?_) | refine x_u (h := ?_) | refine x_assign (h := ?_) | refine x_box (h := ?_) | refine x_append0 (T := 26) (h := ?_) | refine x_append (T := 26) (h := ?_) | refine x_build (h := ?_))
   | ((with_reducible refine o_id 45 rfl ?_); refine x_callh (hF := cellNames_fn _ p b k hk hs hh hl7) (h := ?_))
   | (with_reducible refine x_q (h := ?_))
   | (with_reducible refine gx_s (fun ht => ?_) (fun ht => ?_))
   | refine x_condt (h1 := ?_) | refine x_condf (h1 := ?_)
   | fail)
  all_goals try clear fx
  refine w_loop (fun n st => ∃ x : Nat, n = 8 - x ∧ x ≤ 8 ∧ st.tm 1 = iv b ∧ st.tm 2 = .pt (.s 2) 0 ∧ st.hp (.s 2) = some (.row 1 [[ksl p]]) ∧ st.tm 7 = iv x ∧ st.tm 6 = .hs (.s 6) 1 0 (cellsL p b).length ∧ st.hp (.s 6) = some (.row 1 (irows (cellsL p b))) ∧ st.tm 5 = .hs (.s 5) 1 0 (picked (fastIn p b) x).length ∧ st.hp (.s 5) = some (.row 1 (irows (picked (fastIn p b) x)))) 8 ?_ ?_
  · exact ⟨0, by omega, by omega, by simp, by simp, by simp, by simp, by simp, by simp, by simp [picked], by simp [picked]⟩
  rintro n st - - ⟨x, rfl, hx, h1, h2, hp2, h7, h6, hp6, h5, hp5⟩
  have hll := picked_len (f := fastIn p b) x
  by_cases hlt : x < 8
  · have hx7 : (x : Int) ≤ 7 := by omega
    have hfi : fastIn p b x = (isLocal b k x && !decide ((x : Int) ∈ cellsL p b)) := by simp only [fastIn, hk]
    have hnext : picked (fastIn p b) (x + 1) = if fastIn p b x = true then picked (fastIn p b) x ++ [(x : Int)] else picked (fastIn p b) x := rfl
    generalize hL : picked (fastIn p b) x = L at h5 hp5 hnext hll
    cases hlo : isLocal b k x
    · rw [if_neg (by rw [hfi, hlo]; simp)] at hnext
      all_goals have fx := And.intro h1 <| And.intro h2 <| And.intro hp2 <| And.intro h7 <| And.intro h6 <| And.intro hp6 <| And.intro h5 <| And.intro hp5 <| And.intro hk <| And.intro hbE <| And.intro hkd <| And.intro hbl <| And.intro hx7 <| hlo
      repeat' (first
       | refine w_seq ?_ | refine w_block ?_ | refine w_skip ?_ | refine w_reg fun K hK => ?_
       | ((with_reducible refine s_end hK ?_); clear hK K)
       | (with_reducible first | refine then_normal ?_ | refine in_normal ?_ | refine then_exit ?_ | refine in_exit ?_ | refine then_ret ?_ | refine in_ret ?_ | refine in_other (by decide) ?_)
       | refine w_exit ?_
       | refine w_ret ?_
       | (with_reducible refine s_none ?_)
       | ((with_reducible refine g_id ?_); refine x_guard (h := ?_))
       | (with_reducible first | refine gx_tt ?_ | refine gx_ff ?_ | refine x_tf (h := ?_) | refine x_ft (h := ?_) | refine x_u (h := ?_) | refine x_assign (h := ?_) | refine x_box (h := ?_) | refine x_append0 (T := 26) (h := ?_) | refine x_append (T := 26) (h := ?_) | refine x_build (h := ?_))
       | ((with_reducible refine o_id 69 rfl ?_); refine x_call (hF := isLocal_fn _ p b k x hk (hs.bsm hk)) (h := ?_))
       | ((with_reducible refine o_id 41 rfl ?_); refine x_call (hF := has_fn _ _ _ (Nat.le_trans cellsL_len (by decide))) (h := ?_))
       | (with_reducible refine x_q (h := ?_))
       | (with_reducible refine gx_s (fun ht => ?_) (fun ht => ?_))
       | refine x_condt (h1 := ?_) | refine x_condf (h1 := ?_)
       | fail)
      all_goals try clear fx
      exact ⟨8 - (x + 1), by omega, x + 1, rfl, by omega, by simp [h1], by simp [h2], by simp [hp2], by simp [h7]; exact wrp (by omega) (by omega), by simp [h6], by simp [hp6], by simp [hnext, h5], by simp [hnext, hp5]⟩
    cases hce : decide ((x : Int) ∈ cellsL p b)
    rotate_left
    · rw [if_neg (by rw [hfi, hlo, hce]; decide)] at hnext
      all_goals have fx := And.intro h1 <| And.intro h2 <| And.intro hp2 <| And.intro h7 <| And.intro h6 <| And.intro hp6 <| And.intro h5 <| And.intro hp5 <| And.intro hk <| And.intro hbE <| And.intro hkd <| And.intro hbl <| And.intro hx7 <| And.intro hlo <| hce
      repeat' (first
       | refine w_seq ?_ | refine w_block ?_ | refine w_skip ?_ | refine w_reg fun K hK => ?_
       | ((with_reducible refine s_end hK ?_); clear hK K)
       | (with_reducible first | refine then_normal ?_ | refine in_normal ?_ | refine then_exit ?_ | refine in_exit ?_ | refine then_ret ?_ | refine in_ret ?_ | refine in_other (by decide) ?_)
       | refine w_exit ?_
       | refine w_ret ?_
       | (with_reducible refine s_none ?_)
       | ((with_reducible refine g_id ?_); refine x_guard (h := ?_))
       | (with_reducible first | refine gx_tt ?_ | refine gx_ff ?_ | refine x_tf (h := ?_) | refine x_ft (h := ?_) | refine x_u (h := ?_) | refine x_assign (h := ?_) | refine x_box (h := ?_) | refine x_append0 (T := 26) (h := ?_) | refine x_append (T := 26) (h := ?_) | refine x_build (h := ?_))
       | ((with_reducible refine o_id 69 rfl ?_); refine x_call (hF := isLocal_fn _ p b k x hk (hs.bsm hk)) (h := ?_))
       | ((with_reducible refine o_id 41 rfl ?_); refine x_call (hF := has_fn _ _ _ (Nat.le_trans cellsL_len (by decide))) (h := ?_))
       | (with_reducible refine x_q (h := ?_))
       | (with_reducible refine gx_s (fun ht => ?_) (fun ht => ?_))
       | refine x_condt (h1 := ?_) | refine x_condf (h1 := ?_)
       | fail)
      all_goals try clear fx
      exact ⟨8 - (x + 1), by omega, x + 1, rfl, by omega, by simp [h1], by simp [h2], by simp [hp2], by simp [h7]; exact wrp (by omega) (by omega), by simp [h6], by simp [hp6], by simp [hnext, h5], by simp [hnext, hp5]⟩
    · rw [if_pos (by rw [hfi, hlo, hce]; rfl)] at hnext
      all_goals have fx := And.intro h1 <| And.intro h2 <| And.intro hp2 <| And.intro h7 <| And.intro h6 <| And.intro hp6 <| And.intro h5 <| And.intro hp5 <| And.intro hk <| And.intro hbE <| And.intro hkd <| And.intro hbl <| And.intro hx7 <| And.intro hlo <| hce
      repeat' (first
       | refine w_seq ?_ | refine w_block ?_ | refine w_skip ?_ | refine w_reg fun K hK => ?_
       | ((with_reducible refine s_end hK ?_); clear hK K)
       | (with_reducible first | refine then_normal ?_ | refine in_normal ?_ | refine then_exit ?_ | refine in_exit ?_ | refine then_ret ?_ | refine in_ret ?_ | refine in_other (by decide) ?_)
       | refine w_exit ?_
       | refine w_ret ?_
       | (with_reducible refine s_none ?_)
       | ((with_reducible refine g_id ?_); refine x_guard (h := ?_))
       | (with_reducible first | refine gx_tt ?_ | refine gx_ff ?_ | refine x_tf (h := ?_) | refine x_ft (h := ?_) | refine x_u (h := ?_) | refine x_assign (h := ?_) | refine x_box (h := ?_) | refine x_append0 (T := 26) (h := ?_) | refine x_append (T := 26) (h := ?_) | refine x_build (h := ?_))
       | ((with_reducible refine o_id 69 rfl ?_); refine x_call (hF := isLocal_fn _ p b k x hk (hs.bsm hk)) (h := ?_))
       | ((with_reducible refine o_id 41 rfl ?_); refine x_call (hF := has_fn _ _ _ (Nat.le_trans cellsL_len (by decide))) (h := ?_))
       | (with_reducible refine x_q (h := ?_))
       | (with_reducible refine gx_s (fun ht => ?_) (fun ht => ?_))
       | refine x_condt (h1 := ?_) | refine x_condf (h1 := ?_)
       | fail)
      all_goals try clear fx
      refine ⟨8 - (x + 1), by omega, x + 1, rfl, by omega, by simp [h1], by simp [h2], by simp [hp2], by simp [h7]; exact wrp (by omega) (by omega), by simp [h6], by simp [hp6], by simp [hnext, h5], ?_⟩
      rw [hnext]
      simp [hp5, irows]
  · have hge : x = 8 := by omega
    subst hge
    all_goals have fx := And.intro h1 <| And.intro h2 <| And.intro hp2 <| And.intro h7 <| And.intro h5 <| And.intro hp5 <| And.intro hk <| And.intro hbE <| And.intro hkd <| hbl
    repeat' (first
     | refine w_seq ?_ | refine w_block ?_ | refine w_skip ?_ | refine w_reg fun K hK => ?_
     | ((with_reducible refine s_end hK ?_); clear hK K)
     | (with_reducible first | refine then_normal ?_ | refine in_normal ?_ | refine then_exit ?_ | refine in_exit ?_ | refine then_ret ?_ | refine in_ret ?_ | refine in_other (by decide) ?_)
     | refine w_exit ?_
     | refine w_ret ?_
     | (with_reducible refine s_none ?_)
     | ((with_reducible refine g_id ?_); refine x_guard (h := ?_))
     | (with_reducible first | refine gx_tt ?_ | refine gx_ff ?_ | refine x_tf (h := ?_) | refine x_ft (h := ?_) | refine x_u (h := ?_) | refine x_assign (h := ?_) | refine x_box (h := ?_) | refine x_append0 (T := 26) (h := ?_) | refine x_append (T := 26) (h := ?_) | refine x_build (h := ?_))
     | (with_reducible refine x_q (h := ?_))
     | (with_reducible refine gx_s (fun ht => ?_) (fun ht => ?_))
     | refine x_condt (h1 := ?_) | refine x_condf (h1 := ?_)
     | fail)
    all_goals try clear fx
    exact e_list (t := 4) (by first | (simp [hp5]; done) | (simp [hp5]; rfl)) (by first | (simp [hp5]; done) | (simp [hp5]; rfl)) (by simp)
theorem cellPlace_fn (gl) (p : Prg) (b : Nat) (k : Blk) (x : Int) (hk : p[b]? = some k) (hP : LookP p) : FnOk Tryz.prog gl 95 [pav p, iv b, iv x] (fun _ y _ => y = iv (cellPl p b x)) := by
  have hs := hP.sml
  have hh := hP.heads
  have hl7 := hP.len
  have hbl := (gS hk).1
  have hcl := cellsL_len (p := p) (b := b)
  have hfl := freesL_len (p := p) (b := b)
  have hbd := placeIn_bd (xs := freesL p b) (x := x)
  have hw : IntKind.i64.wrap (((cellsL p b).length : Int) + placeIn (freesL p b) x) = (cellsL p b).length + placeIn (freesL p b) x := wrp (by omega) (by omega)
  refine FnOk.of_sem Tryz.func95 rfl (by kernel_rfl) (rs := [.tmp 6]) rfl Tryz.ntmps95 (Nat.le_of_ble_eq_true rfl) fun C w g root => ?_
  by_cases hm : x ∈ cellsL p b
  · have h0 : 0 ≤ placeIn (cellsL p b) x := placeIn_nonneg.2 hm
    all_goals have fx :=  h0
    repeat' (first
     | refine w_seq ?_ | refine w_skip ?_ | refine w_reg fun K hK => ?_
     | ((with_reducible refine s_end hK ?_); clear hK K)
     | (with_reducible first | refine then_normal ?_ | refine then_ret ?_)
     | refine w_ret ?_
     | (with_reducible first | refine s_none ?_ | refine x_assign (h := ?_) | refine x_box (h := ?_))
     | ((with_reducible refine o_id 45 rfl ?_); refine x_callh (hF := cellNames_fn _ p b k hk hs hh hl7) (h := ?_))
     | ((with_reducible refine o_id 68 rfl ?_); refine x_call (hF := placeIn_fn _ (cellsL p b) _ (by omega)) (h := ?_))
     | (with_reducible refine x_q (h := ?_))
     | refine x_condt (h1 := ?_) | refine x_condf (h1 := ?_)
     | fail)
    all_goals try clear fx
    refine e_ret [] .nil (by simp; rfl) ?_
    simp [cellPl, hm]
  · have h0 : ¬ 0 ≤ placeIn (cellsL p b) x := fun h => hm (placeIn_nonneg.1 h)
    all_goals have fx := And.intro h0 <| hw
    repeat' (first
     | refine w_seq ?_ | refine w_skip ?_ | refine w_reg fun K hK => ?_
     | ((with_reducible refine s_end hK ?_); clear hK K)
     | (with_reducible first | refine then_normal ?_ | refine then_ret ?_)
     | refine w_ret ?_
     | (with_reducible first | refine s_none ?_ | refine x_assign (h := ?_) | refine x_box (h := ?_))
     | ((with_reducible refine o_id 45 rfl ?_); refine x_callh (hF := cellNames_fn _ p b k hk hs hh hl7) (h := ?_))
     | ((with_reducible refine o_id 46 rfl ?_); refine x_callh (hF := frees_fn _ p b hbl hs hh hl7) (h := ?_))
     | ((with_reducible refine o_id 68 rfl ?_); refine x_call (hF := placeIn_fn _ (cellsL p b) _ (by omega)) (h := ?_))
     | ((with_reducible refine o_id 68 rfl ?_); refine x_call (hF := placeIn_fn _ (freesL p b) _ (by omega)) (h := ?_))
     | (with_reducible refine x_q (h := ?_))
     | refine x_condt (h1 := ?_) | refine x_condf (h1 := ?_)
     | fail)
    all_goals try clear fx
    refine e_ret [] .nil (by simp; rfl) ?_
    simp [cellPl, hm]
theorem symbol_fn (gl) (p : Prg) (b : Nat) (k : Blk) (x : Int) (hk : p[b]? = some k) (hP : LookP p) : FnOk Tryz.prog gl 94 [pav p, iv b, iv x] (fun _ y _ => y = iv (symOf p b x)) := by
  have hs := hP.sml
  have hh := hP.heads
  have hl7 := hP.len
  obtain ⟨hbl, hbE⟩ := gS hk
  have hka : kindAt p b = k.kind := by simp [kindAt, hk]
  refine FnOk.of_sem Tryz.func94 rfl (by kernel_rfl) (rs := [.tmp 6]) rfl Tryz.ntmps94 (Nat.le_of_ble_eq_true rfl) fun C w g root => ?_
  cases ho : decide (owner p b x < 0)
  rotate_left
  · skip
    all_goals have fx :=  ho
    repeat' (first
     | refine w_seq ?_ | refine w_block ?_ | refine w_skip ?_ | refine w_reg fun K hK => ?_
     | ((with_reducible refine s_end hK ?_); clear hK K)
     | (with_reducible first | refine then_normal ?_ | refine in_normal ?_ | refine then_ret ?_ | refine in_ret ?_)
     | refine w_ret ?_
     | (with_reducible first | refine s_none ?_ | refine x_assign (h := ?_) | refine x_box (h := ?_))
     | ((with_reducible refine o_id 71 rfl ?_); refine x_call (hF := owner_fn _ p b k x hk hs hh) (h := ?_))
     | (with_reducible refine x_q (h := ?_))
     | refine x_condt (h1 := ?_) | refine x_condf (h1 := ?_)
     | fail)
    all_goals try clear fx
    refine e_ret [] .nil (by simp; rfl) ?_
    have ho' : owner p b x < 0 := by simpa using ho
    simp [symOf, ho']
  cases hb : (owner p b x == (b : Int))
  · skip
    all_goals have fx := And.intro ho <| And.intro hb <| @bne_def
    repeat' (first
     | refine w_seq ?_ | refine w_block ?_ | refine w_skip ?_ | refine w_reg fun K hK => ?_
     | ((with_reducible refine s_end hK ?_); clear hK K)
     | (with_reducible first | refine then_normal ?_ | refine in_normal ?_ | refine then_ret ?_ | refine in_ret ?_)
     | refine w_ret ?_
     | (with_reducible first | refine s_none ?_ | refine x_assign (h := ?_) | refine x_box (h := ?_))
     | ((with_reducible refine o_id 71 rfl ?_); refine x_call (hF := owner_fn _ p b k x hk hs hh) (h := ?_))
     | (with_reducible refine x_q (h := ?_))
     | refine x_condt (h1 := ?_) | refine x_condf (h1 := ?_)
     | fail)
    all_goals try clear fx
    refine e_ret [] .nil (by simp; rfl) ?_
    have ho' : ¬ owner p b x < 0 := by simpa using ho
    have hb' : ¬ owner p b x = b := by simpa using hb
    simp only [symOf, if_neg ho', if_pos hb']
    rfl
  have hb' : owner p b x = b := by simpa using hb
  have hnl : ¬ owner p b x < 0 := by omega
  have hnn : ¬ owner p b x ≠ b := fun h => h hb'
  cases hkd : (k.kind == 2)
  rotate_left
  · skip
    all_goals have fx := And.intro ho <| And.intro hb <| And.intro @bne_def <| And.intro hk <| And.intro hbE <| And.intro hbl <| hkd
    repeat' (first
     | refine w_seq ?_ | refine w_block ?_ | refine w_skip ?_ | refine w_reg fun K hK => ?_
     | ((with_reducible refine s_end hK ?_); clear hK K)
     | (with_reducible first | refine then_normal ?_ | refine in_normal ?_ | refine then_ret ?_ | refine in_ret ?_)
     | refine w_ret ?_
     | (with_reducible first | refine s_none ?_ | refine x_assign (h := ?_) | refine x_box (h := ?_))
     | ((with_reducible refine o_id 71 rfl ?_); refine x_call (hF := owner_fn _ p b k x hk hs hh) (h := ?_))
     | (with_reducible refine x_q (h := ?_))
     | refine x_condt (h1 := ?_) | refine x_condf (h1 := ?_)
     | fail)
    all_goals try clear fx
    refine e_ret [] .nil (by simp; rfl) ?_
    have hkd' : k.kind = 2 := by simpa using hkd
    simp only [symOf, if_neg hnl, if_neg hnn, hka, if_pos hkd']
    rfl
  have hkd' : ¬ k.kind = 2 := by simpa using hkd
  cases hce : decide (x ∈ cellsL p b)
  all_goals
    all_goals have fx := And.intro ho <| And.intro hb <| And.intro @bne_def <| And.intro hk <| And.intro hbE <| And.intro hbl <| And.intro hkd <| hce
    repeat' (first
     | refine w_seq ?_ | refine w_block ?_ | refine w_skip ?_ | refine w_reg fun K hK => ?_
     | ((with_reducible refine s_end hK ?_); clear hK K)
     | (with_reducible first | refine then_normal ?_ | refine in_normal ?_ | refine then_ret ?_ | refine in_ret ?_)
     | refine w_ret ?_
     | (with_reducible first | refine s_none ?_ | refine x_assign (h := ?_) | refine x_box (h := ?_))
     | ((with_reducible refine o_id 71 rfl ?_); refine x_call (hF := owner_fn _ p b k x hk hs hh) (h := ?_))
     | ((with_reducible refine o_id 45 rfl ?_); refine x_callh (hF := cellNames_fn _ p b k hk hs hh hl7) (h := ?_))
     | ((with_reducible refine o_id 41 rfl ?_); refine x_call (hF := has_fn _ _ _ (Nat.le_trans cellsL_len (by decide))) (h := ?_))
     | (with_reducible refine x_q (h := ?_))
     | refine x_condt (h1 := ?_) | refine x_condf (h1 := ?_)
     | fail)
    all_goals try clear fx
    refine e_ret [] .nil (by simp; rfl) ?_
    simp at hce
    simp only [symOf, if_neg hnl, if_neg hnn, hka, if_neg hkd', hce]
    rfl
theorem nameOp_fn (gl) (p : Prg) (b : Nat) (k : Blk) (x w : Int) (hk : p[b]? = some k) (hP : LookP p) (hw0 : 0 ≤ w) (hw2 : w ≤ 2) : FnOk Tryz.prog gl 74 [pav p, iv b, iv x, iv w] (fun _ y _ => y = .agg [iv (nameOp p b x w).1, iv (nameOp p b x w).2]) := by
  have hw8 : IntKind.i64.wrap (8 + w) = 8 + w := wrp (by omega) (by omega)
  have hw11 : IntKind.i64.wrap (11 + w) = 11 + w := wrp (by omega) (by omega)
  have hw22 : IntKind.i64.wrap (2 + w) = 2 + w := wrp (by omega) (by omega)
  have hw5 : IntKind.i64.wrap (5 + w) = 5 + w := wrp (by omega) (by omega)
  refine FnOk.of_sem Tryz.func74 rfl (by kernel_rfl) (rs := [.cell 8 90]) rfl Tryz.ntmps74 (Nat.le_of_ble_eq_true rfl) fun C w g root => ?_
  cases h0 : (symOf p b x == 0)
  rotate_left
  · have h0' : symOf p b x = 0 := by simpa using h0
    all_goals have fx := And.intro h0 <| hw8
    repeat' (first
     | refine w_seq ?_ | refine w_block ?_ | refine w_skip ?_ | refine w_reg fun K hK => ?_
     | ((with_reducible refine s_end hK ?_); clear hK K)
     | (with_reducible first | refine then_normal ?_ | refine in_normal ?_ | refine then_ret ?_ | refine in_ret ?_)
     | refine w_ret ?_
     | (with_reducible first | refine s_none ?_ | refine x_assign (h := ?_) | refine x_box (h := ?_) | refine x_alloc (h := ?_) | refine x_store0 (h := ?_))
     | ((with_reducible refine o_id 94 rfl ?_); refine x_call (hF := symbol_fn _ p b k x hk hP) (h := ?_))
     | (with_reducible refine x_q (h := ?_))
     | refine x_condt (h1 := ?_) | refine x_condf (h1 := ?_)
     | fail)
    all_goals try clear fx
    refine e_ret [] .nil (by simp; rfl) ?_
    simp [nameOp, h0']
  have h0' : ¬ symOf p b x = 0 := by simpa using h0
  cases h2 : (symOf p b x == 2)
  rotate_left
  · have h2' : symOf p b x = 2 := by simpa using h2
    all_goals have fx := And.intro h0 <| And.intro h2 <| hw11
    repeat' (first
     | refine w_seq ?_ | refine w_block ?_ | refine w_skip ?_ | refine w_reg fun K hK => ?_
     | ((with_reducible refine s_end hK ?_); clear hK K)
     | (with_reducible first | refine then_normal ?_ | refine in_normal ?_ | refine then_ret ?_ | refine in_ret ?_)
     | refine w_ret ?_
     | (with_reducible first | refine s_none ?_ | refine x_assign (h := ?_) | refine x_box (h := ?_) | refine x_alloc (h := ?_) | refine x_store0 (h := ?_))
     | ((with_reducible refine o_id 94 rfl ?_); refine x_call (hF := symbol_fn _ p b k x hk hP) (h := ?_))
     | (with_reducible refine x_q (h := ?_))
     | refine x_condt (h1 := ?_) | refine x_condf (h1 := ?_)
     | fail)
    all_goals try clear fx
    refine e_ret [] .nil (by simp; rfl) ?_
    simp [nameOp, h2']
  have h2' : ¬ symOf p b x = 2 := by simpa using h2
  cases h4 : (symOf p b x == 4)
  rotate_left
  · have h4' : symOf p b x = 4 := by simpa using h4
    all_goals have fx := And.intro h0 <| And.intro h2 <| And.intro h4 <| hw22
    repeat' (first
     | refine w_seq ?_ | refine w_block ?_ | refine w_skip ?_ | refine w_reg fun K hK => ?_
     | ((with_reducible refine s_end hK ?_); clear hK K)
     | (with_reducible first | refine then_normal ?_ | refine in_normal ?_ | refine then_ret ?_ | refine in_ret ?_)
     | refine w_ret ?_
     | (with_reducible first | refine s_none ?_ | refine x_assign (h := ?_) | refine x_box (h := ?_) | refine x_alloc (h := ?_) | refine x_store0 (h := ?_))
     | ((with_reducible refine o_id 94 rfl ?_); refine x_call (hF := symbol_fn _ p b k x hk hP) (h := ?_))
     | ((with_reducible refine o_id 44 rfl ?_); refine x_callh (hF := fasts_fn _ p b k hk hP) (h := ?_))
     | ((with_reducible refine o_id 68 rfl ?_); refine x_call (hF := placeIn_fn _ (fastsL p b) _ (Nat.le_trans fastsL_len (by decide))) (h := ?_))
     | (with_reducible refine x_q (h := ?_))
     | refine x_condt (h1 := ?_) | refine x_condf (h1 := ?_)
     | fail)
    all_goals try clear fx
    refine e_ret [] .nil (by simp; rfl) ?_
    simp [nameOp, h4']
  have h4' : ¬ symOf p b x = 4 := by simpa using h4
  all_goals have fx := And.intro h0 <| And.intro h2 <| And.intro h4 <| hw5
  repeat' (first
   | refine w_seq ?_ | refine w_block ?_ | refine w_skip ?_ | refine w_reg fun K hK => ?_
   | ((with_reducible refine s_end hK ?_); clear hK K)
   | (with_reducible first | refine then_normal ?_ | refine in_normal ?_ | refine then_ret ?_ | refine in_ret ?_)
   | refine w_ret ?_
   | (with_reducible first | refine s_none ?_ | refine x_assign (h := ?_) | refine x_box (h := ?_) | refine x_alloc (h := ?_) | refine x_store0 (h := ?_))
   | ((with_reducible refine o_id 94 rfl ?_); refine x_call (hF := symbol_fn _ p b k x hk hP) (h := ?_))
   | ((with_reducible refine o_id 95 rfl ?_); refine x_call (hF := cellPlace_fn _ p b k x hk hP) (h := ?_))
   | (with_reducible refine x_q (h := ?_))
   | refine x_condt (h1 := ?_) | refine x_condf (h1 := ?_)
   | fail)
  all_goals try clear fx
  refine e_ret [] .nil (by simp; rfl) ?_
  simp only [nameOp, if_neg h0', if_neg h2', if_neg h4']
  rfl
abbrev qsKj0 : Sch := .q 0 <| .q 1 <| .q 2 <| .q 3 <| .q 4 <| .q 5 <| .q 6 <| .l 7 [5, 4, 3, 0] <| .l 8 [5, 4, 3, 0] <| .l 9 [5, 4, 3] <| .l 10 [] <| .done
theorem kinds12 {k : Int} (h : 0 ≤ k ∧ k ≤ 11) : k = 0 ∨ k = 1 ∨ k = 2 ∨ k = 3 ∨ k = 4 ∨ k = 5 ∨ k = 6 ∨ k = 7 ∨ k = 8 ∨ k = 9 ∨ k = 10 ∨ k = 11 := by omega
abbrev preL (p : Prg) (b : Nat) (s : Stm) (i : Nat) : List (Int × Int) := (0, 0) :: (s.reads.take i).map fun x => nameOp p b x 0
theorem preL_next {p : Prg} {b : Nat} {s : Stm} {i : Nat} {u : Int} (h : s.reads[i]? = some u) : preL p b s (i + 1) = preL p b s i ++ [nameOp p b u 0] := by
  simp [preL, List.take_add_one, h]
theorem stmtL_pre {p : Prg} {b : Nat} {s : Stm} : stmtL p b s = preL p b s s.reads.length ++ (workL s ++ setL p b s) := by simp [stmtL, preL, readL]
theorem spec_stmtOps_fn (gl) (p : Prg) (b : Nat) (k : Blk) (s : Stm) (hk : p[b]? = some k) (hP : LookP p) (hkd : 0 ≤ s.kind ∧ s.kind ≤ 11) : FnOk Tryz.prog gl 47 [pav p, iv b, s.av] (fun r y H' => y = .hs r 2 0 (stmtL p b s).length ∧ H' r = some (.row 2 (orows (stmtL p b s)))) := by
  have hrl := s.reads_len
  rw [stmtL_pre]
  refine FnOk.of_sem Tryz.func47 rfl (by kernel_rfl) (rs := [.tmp 6]) rfl Tryz.ntmps47 (Nat.le_of_ble_eq_true rfl) fun C w g root => ?_
  have fx := fx0
  have d1 := readsOf_fn gl s
  refine k_run ?_
  repeat ((first | refine wSc (id := 6) qsKj0 mixed ?_); refine k_rund ?_; refine k_run ?_)
  clear fx d1
  refine w_loop (fun n st => ∃ i : Nat, n = s.reads.length - i ∧ i ≤ s.reads.length ∧ st.tm 1 = iv b ∧ st.tm 3 = .pt (.s 3) 0 ∧ st.hp (.s 3) = some (.row 1 [[ksl p]]) ∧ st.tm 5 = .pt (.s 5) 0 ∧ st.hp (.s 5) = some (.row 4 [s.cells]) ∧ st.tm 8 = .hs (.s 8) 1 0 s.reads.length ∧ st.hp (.s 8) = some (.row 1 (irows s.reads)) ∧ st.tm 9 = iv i ∧ st.tm 7 = .hs (.s 7) 2 0 (preL p b s i).length ∧ st.hp (.s 7) = some (.row 2 (orows (preL p b s i)))) s.reads.length ?_ ?_
  · exact ⟨0, by omega, by omega, by simp, by simp, by simp, by simp, by simp, by simp, by simp, by simp, by simp, by simp [orows]⟩
  rintro n st - - ⟨i, rfl, hi, h1, h3, hp3, h5, hp5, h8, hp8, h9, h7, hp7⟩
  have hll : (preL p b s i).length ≤ 10 := by simp; omega
  by_cases hil : i < s.reads.length
  · obtain ⟨u, hu⟩ : ∃ u, s.reads[i]? = some u := ⟨_, gE hil⟩
    obtain ⟨_, huE⟩ := gS hu
    have hnx := preL_next (p := p) (b := b) hu
    generalize hL : preL p b s i = L at h7 hp7 hnx hll
    have fx := And.intro h1 <| And.intro h3 <| And.intro hp3 <| And.intro h5 <| And.intro hp5 <| And.intro h8 <| And.intro hp8 <| And.intro h9 <| And.intro h7 <| And.intro hp7 <| And.intro hu <| And.intro huE <| And.intro hil <| hll
    have c1 := nameOp_fn gl p b k u 0 hk hP (by decide) (by decide)
    refine k_run ?_
    repeat ((first | refine wSc (id := 6) qsKj0 mixed ?_); refine k_rund ?_; refine k_run ?_)
    clear fx c1
    refine ⟨s.reads.length - (i + 1), by omega, i + 1, rfl, by omega, by simp [h1], by simp [h3], by simp [hp3], by simp [h5], by simp [hp5], by simp [h8], by simp [hp8], by simp; exact wrp (by omega) (by omega), by simp [hnx], ?_⟩
    rw [hnx]
    simp [orows_snoc]
  · have hge : i = s.reads.length := by omega
    rw [hge] at h7 hp7 hll
    generalize hL : preL p b s s.reads.length = L at h7 hp7 hll
    have hw5 : s.kind = 5 → IntKind.i64.wrap ((s.reads.length : Int) - 1) = (s.reads.length : Int) - 1 := fun _ => wrp (by omega) (by omega)
    obtain ⟨kd, to, a, c⟩ := s
    simp only at hkd hw5
    rcases kinds12 hkd with rfl | rfl | rfl | rfl | rfl | rfl | rfl | rfl | rfl | rfl | rfl | rfl
    all_goals
      have fx := And.intro h1 <| And.intro h3 <| And.intro hp3 <| And.intro h5 <| And.intro hp5 <| And.intro h8 <| And.intro hp8 <| And.intro h9 <| And.intro h7 <| And.intro hp7 <| And.intro hil <| And.intro hge <| And.intro hll <| hw5
      have c1 := nameOp_fn gl p b k to 1 hk hP (by decide) (by decide)
      have c2 := nameOp_fn gl p b k to 2 hk hP (by decide) (by decide)
      refine k_run ?_
      repeat ((first | refine wSc (id := 6) qsKj0 mixed ?_); refine k_rund ?_; refine k_run ?_)
      clear fx c1 c2
      refine e_list (t := 6) ?_ ?_ ?_
      all_goals simp [workL, setL, orows_snoc, List.take_append, List.take_of_length_le, h7, hp7]
abbrev qsKl0 : Sch := .q 0 <| .q 1 <| .q 2 <| .q 3 <| .q 4 <| .q 5 <| .q 6 <| .q 7 <| .q 8 <| .q 9 <| .q 10 <| .q 11 <| .q 13 <| .q 14 <| .q 16 <| .q 17 <| .q 19 <| .q 20 <| .l2 12 [20, 19, 17, 16, 14, 13, 10, 9, 8, 7, 6, 5, 4, 3, 2, 1, 0] (.l2 15 [20, 19, 17, 16, 10, 9, 8, 7, 6, 5, 4, 3, 2, 1, 0] (.l2 18 [20, 19, 10, 9, 8, 7, 6, 5, 4, 3, 2, 1, 0] (.l2 21 [10, 9, 8, 7, 6, 5, 4, 3, 2, 1, 0] (.q 22 <| .l 23 [22, 10, 9, 8, 7, 6, 5, 4, 3, 2, 1, 0] <| .l 24 [] <| .done) 23 [20, 19, 10, 9, 8, 7, 6, 5, 4, 3, 2, 1, 0] (.l 21 [10, 9, 8, 7, 6, 5, 4, 3, 2, 1, 0] <| .q 22 <| .l 24 [] <| .done)) 23 [20, 19, 17, 16, 10, 9, 8, 7, 6, 5, 4, 3, 2, 1, 0] (.l 18 [20, 19, 10, 9, 8, 7, 6, 5, 4, 3, 2, 1, 0] <| .l 21 [10, 9, 8, 7, 6, 5, 4, 3, 2, 1, 0] <| .q 22 <| .l 24 [] <| .done)) 23 [20, 19, 17, 16, 14, 13, 10, 9, 8, 7, 6, 5, 4, 3, 2, 1, 0] (.l 15 [20, 19, 17, 16, 10, 9, 8, 7, 6, 5, 4, 3, 2, 1, 0] <| .l 18 [20, 19, 10, 9, 8, 7, 6, 5, 4, 3, 2, 1, 0] <| .l 21 [10, 9, 8, 7, 6, 5, 4, 3, 2, 1, 0] <| .q 22 <| .l 24 [] <| .done)) 23 [20, 19, 17, 16, 14, 13, 11, 10, 9, 8, 7, 6, 5, 4, 3, 2, 1, 0] (.l 12 [20, 19, 17, 16, 14, 13, 10, 9, 8, 7, 6, 5, 4, 3, 2, 1, 0] <| .l 15 [20, 19, 17, 16, 10, 9, 8, 7, 6, 5, 4, 3, 2, 1, 0] <| .l 18 [20, 19, 10, 9, 8, 7, 6, 5, 4, 3, 2, 1, 0] <| .l 21 [10, 9, 8, 7, 6, 5, 4, 3, 2, 1, 0] <| .q 22 <| .l 24 [] <| .done)
abbrev qsKl1 : Sch := .q 0 <| .q 1 <| .q 2 <| .q 3 <| .q 4 <| .q 5 <| .q 6 <| .q 7 <| .q 8 <| .q 9 <| .q 10 <| .q 11 <| .q 12 <| .l 13 [11, 10, 9, 8, 7, 6, 5, 4, 1, 0] <| .l 14 [11, 10, 9, 8, 7, 6, 5, 4, 0] <| .q 15 <| .l 16 [] <| .done
theorem blkAt_parts {p : Prg} {b : Int} (hs : Sml p) (h : blkAt p b = true) : ∃ (B : Nat) (k : Blk), b = B ∧ p[B]? = some k ∧ LookP p ∧ progOk p = true := by
  simp only [blkAt, Bool.and_eq_true, decide_eq_true_eq] at h
  obtain ⟨h1, h2, h3⟩ := h
  have hl : b.toNat < p.length := by omega
  obtain ⟨k, hk⟩ : ∃ k, p[b.toNat]? = some k := ⟨_, gE hl⟩
  have h1' := h1
  simp only [progOk, Bool.and_eq_true] at h1
  exact ⟨b.toNat, k, by omega, hk, ⟨hs, ShapeP.of hs h1.1⟩, h1'⟩
theorem blkAt_not {p : Prg} {b : Int} (h : blkAt p b = false) (hv : progOk p = true) : ¬ (0 ≤ b ∧ b ≤ (p.length : Int) - 1) := fun e => by
  simp only [blkAt, hv, Bool.true_and] at h
  have h1 : (decide (0 ≤ b) && decide (b < p.length)) = true := by simp; omega
  rw [h1] at h
  cases h
theorem lookP_of {p : Prg} (hs : Sml p) (h : progOk p = true) : LookP p := by
  simp only [progOk, Bool.and_eq_true] at h
  exact ⟨hs, ShapeP.of hs h.1⟩
theorem spec_compiled_fn (gl) (p : Prg) (b : Nat) (k : Blk) (hk : p[b]? = some k) (hP : LookP p) : FnOk Tryz.prog gl 22 [pav p, iv b] (fun r y H' => y = .agg ((codeL p b).own r 0) ∧ OwnK H' r 0 (codeL p b)) := by
  have hs := hP.sml
  have hh := hP.heads
  have hl7 := hP.len
  have hkm := List.mem_of_getElem? hk
  obtain ⟨hbl, hbE⟩ := gS hk
  have hk12 := hP.sh.body k hkm
  have hkinds := (hP.sh.names k hkm).kinds
  obtain ⟨hpl, _⟩ := hs.bsm hk
  have hcode : codeL p b = ⟨k.kind, k.params, fastsL p b, cellsL p b, freesL p b, bodyL p b k.body⟩ := by simp [codeL, opsL, hk]
  rw [hcode]
  refine FnOk.of_sem Tryz.func22 rfl (by kernel_rfl) (rs := [.cell 4 29]) rfl Tryz.ntmps22 (Nat.le_of_ble_eq_true rfl) fun C w g root => ?_
  have fx := And.intro hk <| And.intro hbE <| hbl
  have d1 := copyInts_fn gl k.params (by omega)
  have d2 := fasts_fn gl p b k hk hP
  have d3 := cellNames_fn gl p b k hk hs hh hl7
  have d4 := frees_fn gl p b hbl hs hh hl7
  refine k_run ?_
  first | refine wSc (id := 1) qsKl0 mixed ?_ | refine wSc (id := 5) qsKl1 mixed ?_
  refine k_runj (fun st => st.tm 1 = iv b ∧ st.tm 2 = .pt (.s 2) 0 ∧ st.hp (.s 2) = some (.row 1 [[ksl p]]) ∧ st.tm 6 = iv 0 ∧ st.tm 5 = .pt (.s 5) 0 ∧ st.tm 4 = .pt (.s 4) 0 ∧ st.hp (.s 4) = some (.row 6 [noCode.own (.s 4) 0]) ∧ st.hp (.s 5) = some (.row 6 [Cod.own (.s 5) 0 ⟨k.kind, k.params, fastsL p b, cellsL p b, freesL p b, []⟩]) ∧ st.hp (.c (.s 5) 0 1) = some (.row 1 (irows k.params)) ∧ st.hp (.c (.s 5) 0 2) = some (.row 1 (irows (fastsL p b))) ∧ st.hp (.c (.s 5) 0 3) = some (.row 1 (irows (cellsL p b))) ∧ st.hp (.c (.s 5) 0 4) = some (.row 1 (irows (freesL p b))) ∧ st.hp (.c (.s 5) 0 5) = some (.row 2 [])) ?_
  clear fx d1 d2 d3 d4
  rintro st ⟨h1, h2, hp2, h6, h5, h4, hp4, hp5, q1, q2, q3, q4, q5⟩
  refine w_loop (fun n st => ∃ i : Nat, n = k.body.length - i ∧ i ≤ k.body.length ∧ st.tm 1 = iv b ∧ st.tm 2 = .pt (.s 2) 0 ∧ st.hp (.s 2) = some (.row 1 [[ksl p]]) ∧ st.tm 6 = iv i ∧ st.tm 5 = .pt (.s 5) 0 ∧ st.tm 4 = .pt (.s 4) 0 ∧ st.hp (.s 4) = some (.row 6 [noCode.own (.s 4) 0]) ∧ ∃ c : Cod, c = ⟨k.kind, k.params, fastsL p b, cellsL p b, freesL p b, bodyL p b (k.body.take i)⟩ ∧ st.hp (.s 5) = some (.row 6 [c.own (.s 5) 0]) ∧ OwnK st.hp (.s 5) 0 c) k.body.length ?_ ?_
  · refine ⟨0, by omega, by omega, h1, h2, hp2, h6, h5, h4, hp4, _, rfl, ?_, ⟨?_, ?_, ?_, ?_, ?_⟩⟩
    all_goals simp [bodyL, hp5, q1, q2, q3, q4, q5]
  clear h1 h2 hp2 h6 h5 h4 hp4 hp5 q1 q2 q3 q4 q5
  rintro n st - - ⟨i, rfl, hi, h1, h2, hp2, h6, h5, h4, hp4, c, hc, hp5, ⟨o1, o2, o3, o4, o5⟩⟩
  have hll := bodyL_len (p := p) (b := b) (k.body.take i)
  rw [List.length_take] at hll
  by_cases hil : i < k.body.length
  · obtain ⟨s, hss⟩ : ∃ s, k.body[i]? = some s := ⟨_, gE hil⟩
    obtain ⟨_, hsE⟩ := gS hss
    have hnx := bodyL_take (p := p) (b := b) hss
    have hsl := stmtL_len (p := p) (b := b) (s := s)
    generalize hL : bodyL p b (k.body.take i) = L at hc hnx hll
    subst hc
    simp only [Cod.own_eq] at hp5 o1 o2 o3 o4 o5
    have fx := And.intro h1 <| And.intro h2 <| And.intro hp2 <| And.intro h6 <| And.intro h5 <| And.intro hp5 <| And.intro o1 <| And.intro o2 <| And.intro o3 <| And.intro o4 <| And.intro o5 <| And.intro hk <| And.intro hbE <| And.intro hbl <| And.intro hss <| And.intro hsE <| And.intro hil <| And.intro hll <| hsl
    have d1 := spec_stmtOps_fn gl p b k s hk hP (hkinds s (List.mem_of_getElem? hss))
    refine k_run ?_
    repeat ((first | refine wSc (id := 1) qsKl0 mixed ?_ | refine wSc (id := 5) qsKl1 mixed ?_); refine k_rund ?_; refine k_run ?_)
    clear fx d1
    refine ⟨k.body.length - (i + 1), by omega, i + 1, rfl, by omega, by simp [h1], by simp [h2], by simp [hp2], by simp; exact wrp (by omega) (by omega), by simp [h5], by simp [h4], by simp [hp4], _, rfl, ?_, ⟨?_, ?_, ?_, ?_, ?_⟩⟩
    all_goals simp [hnx, o1, o2, o3, o4, o5, hp5]
  · have hge : i = k.body.length := by omega
    subst hge
    rw [List.take_length] at hc
    subst hc
    simp only [Cod.own_eq] at hp5 o1 o2 o3 o4 o5
    have fx := And.intro h1 <| And.intro h2 <| And.intro hp2 <| And.intro h6 <| And.intro h5 <| And.intro h4 <| And.intro hp4 <| And.intro hp5 <| And.intro o1 <| And.intro o2 <| And.intro o3 <| And.intro o4 <| And.intro o5 <| And.intro hk <| And.intro hbE <| And.intro hbl <| hil
    refine k_run ?_
    repeat ((first | refine wSc (id := 1) qsKl0 mixed ?_ | refine wSc (id := 5) qsKl1 mixed ?_); refine k_rund ?_; refine k_run ?_)
    clear fx
    refine e_ret [(.s 5, root)] (.one rfl) (by simp [h4]; rfl) ⟨?_, ⟨?_, ?_, ?_, ?_, ?_⟩⟩
    all_goals simp [h4, o1, o2, o3, o4, o5]
theorem spec_codes_fn (gl) (p : Prg) (hP : LookP p) : FnOk Tryz.prog gl 36 [pav p] (fun r y H' => y = .hs r 6 0 (codesTo p p.length).length ∧ OwnC H' r (codesTo p p.length)) := by
  have hl7 := hP.len
  refine FnOk.of_sem Tryz.func36 rfl (by kernel_rfl) (rs := [.tmp 2]) rfl Tryz.ntmps36 (Nat.le_of_ble_eq_true rfl) fun C w g root => ?_
  have fx := fx0
  refine k_run ?_
  clear fx
  refine w_loop (fun n st => ∃ i : Nat, n = p.length - i ∧ i ≤ p.length ∧ st.tm 1 = .pt (.s 1) 0 ∧ st.hp (.s 1) = some (.row 1 [[ksl p]]) ∧ st.tm 4 = iv i ∧ ∃ cs : List Cod, cs = codesTo p i ∧ cs.length = i ∧ st.tm 3 = .hs (.s 3) 6 0 cs.length ∧ OwnC st.hp (.s 3) cs) p.length ?_ ?_
  · refine ⟨0, by omega, by omega, by simp, by simp, by simp, [], by simp, rfl, by simp, ⟨by simp, fun i c h => by simp at h⟩⟩
  rintro n st - - ⟨i, rfl, hi, h1, hp1, h4, cs, hcs, hcl, h3, ⟨ht, he⟩⟩
  by_cases hil : i < p.length
  · obtain ⟨k, hk⟩ : ∃ k, p[i]? = some k := ⟨_, gE hil⟩
    have hnx := codesTo_succ (p := p) (n := i)
    have hcc := spec_compiled_fn gl p i k hk hP
    rw [← hcs] at hnx
    generalize hC : codeL p i = c at hcc hnx
    have hcl7 : cs.length ≤ 7 := by omega
    have fx := And.intro h1 <| And.intro hp1 <| And.intro h4 <| hil
    have e1 := hcc
    refine k_run ?_
    clear fx e1
    rintro K hK y H' ⟨rfl, hO⟩
    obtain ⟨o1, o2, o3, o4, o5⟩ := hO.hcln
    refine ⟨by simp, ?_⟩
    have fx := And.intro h1 <| And.intro hp1 <| And.intro h4 <| And.intro h3 <| And.intro ht <| And.intro hcl7 <| And.intro o1 <| And.intro o2 <| And.intro o3 <| And.intro o4 <| o5
    refine k_run ?_
    clear fx
    refine ⟨p.length - (i + 1), by omega, i + 1, rfl, by omega, by simp [h1], by simp [hp1], by simp [h4]; exact wrp (by omega) (by omega), cs ++ [c], hnx.symm, by simp [hcl], by simp, ⟨?_, fun j d hj => ?_⟩⟩
    · simp [ht, kdRows_app]
    · rcases Nat.lt_or_ge j cs.length with hlj | hgj
      · rw [List.getElem?_append_left hlj] at hj
        have hne : ¬ j = cs.length := by omega
        obtain ⟨e1, e2, e3, e4, e5⟩ := he j d hj
        exact ⟨by simp [hne, e1], by simp [hne, e2], by simp [hne, e3], by simp [hne, e4], by simp [hne, e5]⟩
      · rw [List.getElem?_append_right hgj] at hj
        obtain rfl : j = cs.length := by
          have := (gS hj).1
          simp at this
          omega
        simp at hj
        subst hj
        exact ⟨by simp [o1], by simp [o2], by simp [o3], by simp [o4], by simp [o5]⟩
  · have hge : i = p.length := by omega
    subst hge
    subst hcs
    have fx := And.intro h1 <| And.intro hp1 <| And.intro h4 <| And.intro hil <| And.intro h3 <| ht
    refine k_run ?_
    clear fx
    refine e_ret [(.s 2, root)] (.one rfl) (by simp; rfl) ⟨by simp, ⟨by simp [ht, kdRows_tr (n := .s 2) (m := root) (f := finf noD [(.s 2, root)]) (by simp)], fun j d hj => ?_⟩⟩
    obtain ⟨e1, e2, e3, e4, e5⟩ := he j d hj
    exact ⟨by simp [e1], by simp [e2], by simp [e3], by simp [e4], by simp [e5]⟩
theorem spec_CompileBlock_fn (gl) (p : Prg) (b : Int) (hs : Sml p) : FnOk Tryz.prog gl 6 [pav p, iv b] (fun r y H' => y = .agg ((codeG p b).own r 0) ∧ OwnK H' r 0 (codeG p b)) := by
  have hpl := hs.len
  have hw : IntKind.i64.wrap ((p.length : Int) - 1) = (p.length : Int) - 1 := wrp (by omega) (by omega)
  refine FnOk.of_sem Tryz.func6 rfl (by kernel_rfl) (rs := [.cell 4 29]) rfl Tryz.ntmps6 (Nat.le_of_ble_eq_true rfl) fun C w g root => ?_
  cases hv : progOk p
  · have hno : codeG p b = noCode := by simp [codeG, blkAt, hv]
    rw [hno]
    have fx := And.intro hv <| hw
    have c1 := validProgram_fn gl p hs
    refine k_run ?_
    clear fx c1
    refine e_ret [(.s 4, root)] (.one rfl) (by simp; rfl) ⟨?_, ⟨?_, ?_, ?_, ?_, ?_⟩⟩
    all_goals simp
  cases hb : blkAt p b
  · have hno : codeG p b = noCode := by simp [codeG, hb]
    have hn := blkAt_not hb hv
    have hr : (decide (0 ≤ b) && decide (b ≤ (p.length : Int) - 1)) = false := by
      apply Bool.eq_false_iff.2
      intro h
      simp only [Bool.and_eq_true, decide_eq_true_eq] at h
      exact hn h
    rw [hno]
    have fx := And.intro hv <| And.intro hw <| hr
    have c1 := validProgram_fn gl p hs
    have c2 := inRange_fn gl b 0 ((p.length : Int) - 1)
    refine k_run ?_
    clear fx c1 c2
    refine e_ret [(.s 4, root)] (.one rfl) (by simp; rfl) ⟨?_, ⟨?_, ?_, ?_, ?_, ?_⟩⟩
    all_goals simp
  · obtain ⟨B, k, rfl, hk, hP, _⟩ := blkAt_parts hs hb
    have hBl := (gS hk).1
    have hr : (B : Int) ≤ (p.length : Int) - 1 := by omega
    have hco : codeG p B = codeL p B := by simp [codeG, hb]
    rw [hco]
    have hcc := spec_compiled_fn gl p B k hk hP
    generalize codeL p B = c at hcc
    have fx := And.intro hv <| And.intro hw <| hr
    have c1 := validProgram_fn gl p hs
    have c2 := inRange_fn gl B 0 ((p.length : Int) - 1)
    have e1 := hcc
    refine k_run ?_
    clear fx c1 c2 e1
    rintro K hK y H' ⟨rfl, hO⟩
    obtain ⟨o1, o2, o3, o4, o5⟩ := hO.hcln
    refine ⟨by simp, ?_⟩
    have fx := And.intro o1 <| And.intro o2 <| And.intro o3 <| And.intro o4 <| o5
    refine k_run ?_
    clear fx
    refine e_ret [(.s 20, root)] (.one rfl) (by simp; rfl) ⟨?_, ⟨?_, ?_, ?_, ?_, ?_⟩⟩
    all_goals simp [o1, o2, o3, o4, o5]
theorem spec_CompileAll_fn (gl) (p : Prg) (hs : Sml p) : FnOk Tryz.prog gl 14 [pav p] (fun r y H' => y = .hs r 6 0 (codesG p).length ∧ OwnC H' r (codesG p)) := by
  refine FnOk.of_sem Tryz.func14 rfl (by kernel_rfl) (rs := [.tmp 2]) rfl Tryz.ntmps14 (Nat.le_of_ble_eq_true rfl) fun C w g root => ?_
  cases hv : progOk p
  · have hno : codesG p = [] := by simp [codesG, hv]
    rw [hno]
    have fx :=  hv
    have c1 := validProgram_fn gl p hs
    refine k_run ?_
    clear fx c1
    refine e_ret [(.s 2, root)] (.one rfl) (by simp; rfl) ⟨by simp, ⟨by simp, fun i c h => by simp at h⟩⟩
  · have hP := lookP_of hs hv
    have hco : codesG p = codesTo p p.length := by simp [codesG, hv]
    rw [hco]
    have hcc := spec_codes_fn gl p hP
    generalize codesTo p p.length = cs at hcc
    have fx :=  hv
    have c1 := validProgram_fn gl p hs
    have e1 := hcc
    refine k_run ?_
    clear fx c1 e1
    rintro K hK y H' ⟨rfl, hO⟩
    obtain ⟨ht, he⟩ := hO.hcln
    refine ⟨by simp, ?_⟩
    have fx :=  ht
    refine k_run ?_
    clear fx
    refine e_ret [(.s 2, root)] (.one rfl) (by simp; rfl) ⟨by simp, ⟨by simp [ht, kdRows_tr (n := .s 2) (m := root) (f := finf noD [(.s 2, root)]) (by simp)], fun j d hj => ?_⟩⟩
    obtain ⟨e1, e2, e3, e4, e5⟩ := he j d hj
    exact ⟨by simp [e1], by simp [e2], by simp [e3], by simp [e4], by simp [e5]⟩
def formAV (s : Stm) : AV :=
  if s.kind = 0 then .ifc 117 (.agg [iv s.a]) else if s.kind = 1 then .ifc 119 (.agg [iv s.a]) else if s.kind = 2 then .ifc 121 (.agg [iv s.a, iv s.b])
  else if s.kind = 3 then .ifc 102 (.agg [iv 1, iv s.a]) else if s.kind = 4 then .ifc 102 (.agg [iv 2, iv s.a]) else if s.kind = 5 then .ifc 123 (.agg [iv s.a, iv s.b])
  else if s.kind = 6 then .ifc 125 (.agg [iv s.a, iv s.b]) else if s.kind = 7 then .ifc 127 (.agg [iv s.a]) else if s.kind = 8 then .ifc 128 (.agg [iv s.a])
  else if s.kind = 9 ∨ s.kind = 10 then .ifc 130 (.agg []) else if s.kind = 11 then .ifc 131 (.agg []) else .sc .nilIface
@[simp] theorem formAV_cln (s : Stm) : (formAV s).cln = true := by
  unfold formAV
  repeat' split
  all_goals simp
section
variable {n : Int} {to a b : Int}
@[simp] theorem formAV_0 : formAV ⟨0, to, a, b⟩ = .ifc 117 (.agg [iv a]) := by simp [formAV]
@[simp] theorem formAV_1 : formAV ⟨1, to, a, b⟩ = .ifc 119 (.agg [iv a]) := by simp [formAV]
@[simp] theorem formAV_2 : formAV ⟨2, to, a, b⟩ = .ifc 121 (.agg [iv a, iv b]) := by simp [formAV]
@[simp] theorem formAV_3 : formAV ⟨3, to, a, b⟩ = .ifc 102 (.agg [iv 1, iv a]) := by simp [formAV]
@[simp] theorem formAV_4 : formAV ⟨4, to, a, b⟩ = .ifc 102 (.agg [iv 2, iv a]) := by simp [formAV]
@[simp] theorem formAV_5 : formAV ⟨5, to, a, b⟩ = .ifc 123 (.agg [iv a, iv b]) := by simp [formAV]
@[simp] theorem formAV_6 : formAV ⟨6, to, a, b⟩ = .ifc 125 (.agg [iv a, iv b]) := by simp [formAV]
@[simp] theorem formAV_7 : formAV ⟨7, to, a, b⟩ = .ifc 127 (.agg [iv a]) := by simp [formAV]
@[simp] theorem formAV_8 : formAV ⟨8, to, a, b⟩ = .ifc 128 (.agg [iv a]) := by simp [formAV]
@[simp] theorem formAV_9 : formAV ⟨9, to, a, b⟩ = .ifc 130 (.agg []) := by simp [formAV]
@[simp] theorem formAV_10 : formAV ⟨10, to, a, b⟩ = .ifc 130 (.agg []) := by simp [formAV]
@[simp] theorem formAV_11 : formAV ⟨11, to, a, b⟩ = .ifc 131 (.agg []) := by simp [formAV]
theorem formAV_no {s : Stm} (h : ¬ (0 ≤ s.kind ∧ s.kind ≤ 11)) : formAV s = .sc .nilIface := by
  unfold formAV
  repeat' split
  all_goals first | rfl | omega
theorem kind_cases (n : Int) : n = 0 ∨ n = 1 ∨ n = 2 ∨ n = 3 ∨ n = 4 ∨ n = 5 ∨ n = 6 ∨ n = 7 ∨ n = 8 ∨ n = 9 ∨ n = 10 ∨ n = 11 ∨ ¬ (0 ≤ n ∧ n ≤ 11) := by omega
end
theorem formOf_fn (gl) (s : Stm) : FnOk Tryz.prog gl 79 [s.av] (fun _ x _ => x = formAV s) := by
  refine FnOk.of_sem Tryz.func79 rfl (by kernel_rfl) (rs := [.tmp 2]) rfl Tryz.ntmps79 (Nat.le_of_ble_eq_true rfl) fun C w g root => ?_
  all_goals have fx := fx0
  repeat' (first
   | refine w_seq ?_ | refine w_block ?_ | refine w_skip ?_ | refine w_reg fun K hK => ?_
   | ((with_reducible refine s_end hK ?_); clear hK K)
   | (with_reducible first | refine then_normal ?_ | refine then_ret ?_ | refine in_ret ?_)
   | refine w_ret ?_
   | (with_reducible first | refine s_none ?_ | refine x_assign (h := ?_) | refine x_box (h := ?_))
   | (with_reducible refine x_q (h := ?_))
   | refine x_condt (h1 := ?_)
   | refine x_if (h1 := fun ht => ?_) (h2 := fun ht => ?_)
   | fail)
  all_goals try clear fx
  all_goals refine e_ret [] .nil (by simp; rfl) ?_
  all_goals simp_all [formAV]
theorem binds_fn (gl) (s : Stm) : FnOk Tryz.prog gl 88 [s.av] (fun _ x _ => x = bv (decide (s.sets ∨ s.kind = 11))) := by
  obtain ⟨n, to, a, b⟩ := s
  refine FnOk.of_sem Tryz.func88 rfl (by kernel_rfl) (rs := [.tmp 2]) rfl Tryz.ntmps88 (Nat.le_of_ble_eq_true rfl) fun C w g root => ?_
  rcases kind_cases n with rfl | rfl | rfl | rfl | rfl | rfl | rfl | rfl | rfl | rfl | rfl | rfl | hn
  case inr.inr.inr.inr.inr.inr.inr.inr.inr.inr.inr.inr =>
    have hf : formAV ⟨n, to, a, b⟩ = .sc .nilIface := formAV_no hn
    have fx :=  hf
    have c1 := formOf_fn gl ⟨n, to, a, b⟩
    refine k_run ?_
    clear fx c1
    refine e_ret [] .nil (by simp; rfl) ?_
    have h1 : ¬ (0 ≤ n ∧ n ≤ 6 ∨ n = 11) := by omega
    simp [h1]
  all_goals
    all_goals have fx := fx0
    repeat' (first
     | refine w_seq ?_ | refine w_block ?_ | refine w_skip ?_ | refine w_reg fun K hK => ?_
     | ((with_reducible refine s_end hK ?_); clear hK K)
     | (with_reducible first | refine then_normal ?_ | refine in_normal ?_ | refine then_ret ?_ | refine in_ret ?_)
     | refine w_ret ?_
     | (with_reducible first | refine s_none ?_ | refine x_assign (h := ?_) | refine x_box (h := ?_))
     | ((with_reducible refine o_id 79 rfl ?_); refine x_call (hF := formOf_fn _ ⟨_, to, a, b⟩) (h := ?_))
     | (with_reducible refine x_q (h := ?_))
     | refine x_condt (h1 := ?_) | refine x_condf (h1 := ?_)
     | fail)
    all_goals try clear fx
  all_goals refine e_ret [] .nil (by simp; rfl) ?_
  all_goals simp
theorem impl_isBlock_fn (gl) (p : Prg) (b : Int) : FnOk Tryz.prog gl 25 [pav p, iv b] (fun _ x _ => x = bv (decide (0 ≤ b ∧ b < p.length))) := by
  refine FnOk.of_sem Tryz.func25 rfl (by kernel_rfl) (rs := [.tmp 4]) rfl Tryz.ntmps25 (Nat.le_of_ble_eq_true rfl) fun C w g root => ?_
  all_goals have fx := fx0
  repeat' (first
   | refine w_seq ?_ | refine w_reg fun K hK => ?_
   | ((with_reducible refine s_end hK ?_); clear hK K)
   | (with_reducible first | refine then_normal ?_)
   | refine w_ret ?_
   | (with_reducible refine s_none ?_)
   | ((with_reducible refine g_id ?_); refine x_guard (h := ?_))
   | (with_reducible first | refine gx_tt ?_ | refine x_tf (h := ?_) | refine x_assign (h := ?_) | refine x_box (h := ?_))
   | (with_reducible refine x_q (h := ?_))
   | (with_reducible refine gx_s (fun ht => ?_) (fun ht => ?_))
   | fail)
  all_goals try clear fx
  all_goals refine e_ret [] .nil (by simp; rfl) ?_
  all_goals simp_all
  all_goals omega
theorem fitsHead_fn (gl) (i : Nat) (k : Blk) : FnOk Tryz.prog gl 77 [iv i, k.av] (fun _ x _ => x = bv (headOk i k)) := by
  obtain ⟨kind, parent, params, body⟩ := k
  refine FnOk.of_sem Tryz.func77 rfl (by kernel_rfl) (rs := [.tmp 4]) rfl Tryz.ntmps77 (Nat.le_of_ble_eq_true rfl) fun C w g root => ?_
  rcases params with _ | ⟨x, _ | ⟨y, l⟩⟩
  · skip
    all_goals have fx := fx0
    repeat' (first
     | refine w_seq ?_ | refine w_block ?_ | refine w_skip ?_ | refine w_reg fun K hK => ?_
     | ((with_reducible refine s_end hK ?_); clear hK K)
     | (with_reducible first | refine then_normal ?_ | refine then_ret ?_ | refine in_ret ?_)
     | refine w_ret ?_
     | (with_reducible refine s_none ?_)
     | ((with_reducible refine g_id ?_); refine x_guard (h := ?_))
     | (with_reducible first | refine gx_tt ?_ | refine gx_ff ?_ | refine x_tf (h := ?_) | refine x_ft (h := ?_) | refine x_u (h := ?_) | refine x_assign (h := ?_) | refine x_box (h := ?_))
     | (with_reducible refine x_q (h := ?_))
     | (with_reducible refine gx_s (fun ht => ?_) (fun ht => ?_))
     | refine x_condt (h1 := ?_)
     | refine x_if (h1 := fun ht => ?_) (h2 := fun ht => ?_)
     | fail)
    all_goals try clear fx
    all_goals refine e_ret [] .nil (by simp; rfl) ?_
    all_goals simp_all [headOk, HeadOk]
    all_goals grind
  · skip
    all_goals have fx := fx0
    repeat' (first
     | refine w_seq ?_ | refine w_block ?_ | refine w_skip ?_ | refine w_reg fun K hK => ?_
     | ((with_reducible refine s_end hK ?_); clear hK K)
     | (with_reducible first | refine then_normal ?_ | refine then_ret ?_ | refine in_ret ?_)
     | refine w_ret ?_
     | (with_reducible refine s_none ?_)
     | ((with_reducible refine g_id ?_); refine x_guard (h := ?_))
     | (with_reducible first | refine gx_tt ?_ | refine gx_ff ?_ | refine x_tf (h := ?_) | refine x_ft (h := ?_) | refine x_assign (h := ?_) | refine x_box (h := ?_))
     | ((with_reducible refine o_id 97 rfl ?_); refine x_call (hF := impl_isName_fn _ x) (h := ?_))
     | (with_reducible refine x_q (h := ?_))
     | (with_reducible refine gx_s (fun ht => ?_) (fun ht => ?_))
     | refine x_condt (h1 := ?_)
     | refine x_if (h1 := fun ht => ?_) (h2 := fun ht => ?_)
     | fail)
    all_goals try clear fx
    all_goals refine e_ret [] .nil (by simp; rfl) ?_
    all_goals simp_all [headOk, HeadOk]
    all_goals grind
  · have h1 : ((l.length : Int) + 1 + 1 == 1) = false := by simp; omega
    have h0 : ((l.length : Int) + 1 + 1 == 0) = false := by simp; omega
    all_goals have fx := And.intro h0 <| h1
    repeat' (first
     | refine w_seq ?_ | refine w_block ?_ | refine w_skip ?_ | refine w_reg fun K hK => ?_
     | ((with_reducible refine s_end hK ?_); clear hK K)
     | (with_reducible first | refine then_normal ?_ | refine then_ret ?_ | refine in_ret ?_)
     | refine w_ret ?_
     | (with_reducible refine s_none ?_)
     | ((with_reducible refine g_id ?_); refine x_guard (h := ?_))
     | (with_reducible first | refine gx_tt ?_ | refine gx_ff ?_ | refine x_tf (h := ?_) | refine x_ft (h := ?_) | refine x_assign (h := ?_) | refine x_box (h := ?_))
     | (with_reducible refine x_q (h := ?_))
     | (with_reducible refine gx_s (fun ht => ?_) (fun ht => ?_))
     | refine x_condt (h1 := ?_)
     | refine x_if (h1 := fun ht => ?_) (h2 := fun ht => ?_)
     | fail)
    all_goals try clear fx
    all_goals refine e_ret [] .nil (by simp; rfl) ?_
    all_goals simp_all [headOk, HeadOk]
    all_goals grind
end Go.Proofs.YtnnpbiamlalnmaaGreatDoor
end
