/-
  Own texts, joined by mkclaim.py: Ka.
-/
import Derived.Test.YtnnpbiamlalnmaaGreatDoorJ15
import Derived.Test.YtnnpbiamlalnmaaGreatDoorJ11
set_option linter.unusedSimpArgs false
set_option linter.unusedVariables false
set_option maxRecDepth 100000
set_option maxHeartbeats 4000000

section
namespace Go.Proofs.YtnnpbiamlalnmaaGreatDoor
open Go Go.Hm Go.Proofs
abbrev qsKa0 : Sch := .q 0 <| .q 1 <| .q 2 <| .q 3 <| .q 4 <| .q 5 <| .q 7 <| .l 6 [7, 4, 3, 2] <| .q 8 <| .done
abbrev qsKa1 : Sch := .q 0 <| .q 1 <| .q 2 <| .q 3 <| .q 4 <| .q 5 <| .l 6 [4, 3, 2] <| .l 7 [] <| .done
theorem cellsRaw_next {p : Prg} {b c : Nat} (h : b + 1 ≤ c) : cellsRaw p b (c + 1 - (b + 1)) = cellsRaw p b (c - (b + 1)) ++ cellAt p b c := by
  rw [show c + 1 - (b + 1) = c - (b + 1) + 1 by omega, cellsRaw_succ, show b + 1 + (c - (b + 1)) = c by omega]
theorem freesRaw_next {p : Prg} {b c : Nat} (h : b ≤ c) : freesRaw p b (c + 1 - b) = freesRaw p b (c - b) ++ freeAt p b c := by
  rw [show c + 1 - b = c - b + 1 by omega, freesRaw_succ, show b + (c - b) = c by omega]
theorem cellNames_fn (gl) (p : Prg) (b : Nat) (k : Blk) (hk : p[b]? = some k) (hs : Sml p) (hh : Heads p) (hl7 : p.length ≤ 7) : FnOk Tryz.prog gl 45 [pav p, iv b] (fun r y H' => y = .hs r 1 0 (cellsL p b).length ∧ H' r = some (.row 1 (irows (cellsL p b)))) := by
  obtain ⟨hbl, hbE⟩ := gS hk
  have hka : kindAt p b = k.kind := by simp [kindAt, hk]
  have hw : IntKind.i64.wrap ((b : Int) + 1) = ((b + 1 : Nat) : Int) := by rw [wrp (by omega) (by omega)]; rfl
  refine FnOk.of_sem Tryz.func45 rfl (by kernel_rfl) (rs := [.tmp 4]) rfl Tryz.ntmps45 (Nat.le_of_ble_eq_true rfl) fun C w g root => ?_
  cases hkd : (k.kind == 1)
  · have hc : cellsL p b = sorted [] := by
      have : ¬ k.kind = 1 := by simpa using hkd
      simp [cellsL, hka, this]
      rfl
    rw [hc]
    all_goals have fx :=  hw
    repeat' (first
     | refine w_seq ?_ | refine w_block ?_ | refine w_skip ?_ | refine w_reg fun K hK => ?_
     | ((with_reducible refine s_end hK ?_); clear hK K)
     | (with_reducible first | refine then_normal ?_ | refine in_normal ?_ | refine then_exit ?_ | refine in_exit ?_ | refine then_ret ?_ | refine in_ret ?_ | refine s_nil ?_ | refine in_other (by decide) ?_)
     | refine w_exit ?_
     | refine w_ret ?_
     | (with_reducible refine s_none ?_)
     | ((with_reducible refine g_id ?_); refine x_guard (h := ?_))
     | (with_reducible first | refine gx_tt ?_ | refine gx_ff ?_ | refine x_tf (h := ?_) | refine x_ft (h := ?_) | refine x_u (h := ?_) | refine x_assign (h := ?_) | refine x_box (h := ?_) | refine x_append0 (T := 26) (h := ?_) | refine x_append (T := 26) (h := ?_) | refine x_build (h := ?_))
     | (with_reducible refine x_q (h := ?_))
     | (with_reducible refine gx_s (fun ht => ?_) (fun ht => ?_))
     | refine x_condt (h1 := ?_) | refine x_condf (h1 := ?_)
     | (refine wSc (id := 9) qsKa0 mixed fun K hK => ?_)
     | ((with_reducible refine a_end hK ?_); clear hK K)
     | ((with_reducible refine a_id ?_); first | refine xa_q (h := ?_) | refine xa_qt (h := ?_) | refine xa_qf (h := ?_) | refine xa_qu (h := ?_))
     | ((with_reducible refine a_id ?_); refine xa_gq (h1 := fun ht => ?_) (h2 := fun ht => ?_))
     | refine a_l rfl ?_ | refine a_l2 ?_ ?_ | (with_reducible refine And.intro ?_ ?_) | exact st_nil | refine xa_st (h2 := ?_)
     | fail)
    all_goals try clear fx
    refine w_loop (fun n st => n = 0 ∧ st.tm 1 = iv b ∧ st.tm 2 = .pt (.s 2) 0 ∧ st.hp (.s 2) = some (.row 1 [[ksl p]]) ∧ st.tm 6 = iv ((b + 1 : Nat) : Int) ∧ st.tm 5 = .hs (.s 5) 1 0 0 ∧ st.hp (.s 5) = some (.row 1 [])) 0 ?_ ?_
    · exact ⟨rfl, by simp⟩
    rintro n st - - ⟨rfl, h1, h2, hp2, h6, h5, hp5⟩
    generalize hc0 : b + 1 = c at h6
    by_cases hlt : c < p.length
    · skip
      all_goals have fx := And.intro h1 <| And.intro h2 <| And.intro hp2 <| And.intro h6 <| And.intro h5 <| And.intro hp5 <| And.intro hk <| And.intro hbE <| And.intro hkd <| And.intro hlt <| hbl
      repeat' (first
       | refine w_seq ?_ | refine w_block ?_ | refine w_skip ?_ | refine w_reg fun K hK => ?_
       | ((with_reducible refine s_end hK ?_); clear hK K)
       | (with_reducible first | refine then_normal ?_ | refine in_normal ?_ | refine then_exit ?_ | refine in_exit ?_ | refine then_ret ?_ | refine in_ret ?_ | refine s_nil ?_ | refine in_other (by decide) ?_)
       | refine w_exit ?_
       | refine w_ret ?_
       | (with_reducible refine s_none ?_)
       | ((with_reducible refine g_id ?_); refine x_guard (h := ?_))
       | (with_reducible first | refine gx_tt ?_ | refine gx_ff ?_ | refine x_tf (h := ?_) | refine x_ft (h := ?_) | refine x_u (h := ?_) | refine x_assign (h := ?_) | refine x_box (h := ?_) | refine x_append0 (T := 26) (h := ?_) | refine x_append (T := 26) (h := ?_) | refine x_build (h := ?_))
       | ((with_reducible refine o_id 67 rfl ?_); refine x_callh (hF := sorted_fn _ [] (by simp)) (h := ?_))
       | (with_reducible refine x_q (h := ?_))
       | (with_reducible refine gx_s (fun ht => ?_) (fun ht => ?_))
       | refine x_condt (h1 := ?_) | refine x_condf (h1 := ?_)
       | (refine wSc (id := 9) qsKa0 mixed fun K hK => ?_)
       | ((with_reducible refine a_end hK ?_); clear hK K)
       | ((with_reducible refine a_id ?_); first | refine xa_q (h := ?_) | refine xa_qt (h := ?_) | refine xa_qf (h := ?_) | refine xa_qu (h := ?_))
       | ((with_reducible refine a_id ?_); refine xa_gq (h1 := fun ht => ?_) (h2 := fun ht => ?_))
       | refine a_l rfl ?_ | refine a_l2 ?_ ?_ | (with_reducible refine And.intro ?_ ?_) | exact st_nil | refine xa_st (h2 := ?_)
       | fail)
      all_goals try clear fx
      exact e_list (t := 4) (by first | (simp []; done) | (simp []; rfl)) (by first | (simp []; done) | (simp []; rfl)) (by simp)
    · skip
      all_goals have fx := And.intro h1 <| And.intro h2 <| And.intro hp2 <| And.intro h6 <| And.intro h5 <| And.intro hp5 <| And.intro hk <| And.intro hbE <| And.intro hkd <| And.intro hlt <| hbl
      repeat' (first
       | refine w_seq ?_ | refine w_block ?_ | refine w_skip ?_ | refine w_reg fun K hK => ?_
       | ((with_reducible refine s_end hK ?_); clear hK K)
       | (with_reducible first | refine then_normal ?_ | refine in_normal ?_ | refine then_exit ?_ | refine in_exit ?_ | refine then_ret ?_ | refine in_ret ?_ | refine s_nil ?_ | refine in_other (by decide) ?_)
       | refine w_exit ?_
       | refine w_ret ?_
       | (with_reducible refine s_none ?_)
       | ((with_reducible refine g_id ?_); refine x_guard (h := ?_))
       | (with_reducible first | refine gx_tt ?_ | refine gx_ff ?_ | refine x_tf (h := ?_) | refine x_ft (h := ?_) | refine x_u (h := ?_) | refine x_assign (h := ?_) | refine x_box (h := ?_) | refine x_append0 (T := 26) (h := ?_) | refine x_append (T := 26) (h := ?_) | refine x_build (h := ?_))
       | ((with_reducible refine o_id 67 rfl ?_); refine x_callh (hF := sorted_fn _ [] (by simp)) (h := ?_))
       | (with_reducible refine x_q (h := ?_))
       | (with_reducible refine gx_s (fun ht => ?_) (fun ht => ?_))
       | refine x_condt (h1 := ?_) | refine x_condf (h1 := ?_)
       | (refine wSc (id := 9) qsKa0 mixed fun K hK => ?_)
       | ((with_reducible refine a_end hK ?_); clear hK K)
       | ((with_reducible refine a_id ?_); first | refine xa_q (h := ?_) | refine xa_qt (h := ?_) | refine xa_qf (h := ?_) | refine xa_qu (h := ?_))
       | ((with_reducible refine a_id ?_); refine xa_gq (h1 := fun ht => ?_) (h2 := fun ht => ?_))
       | refine a_l rfl ?_ | refine a_l2 ?_ ?_ | (with_reducible refine And.intro ?_ ?_) | exact st_nil | refine xa_st (h2 := ?_)
       | fail)
      all_goals try clear fx
      exact e_list (t := 4) (by first | (simp []; done) | (simp []; rfl)) (by first | (simp []; done) | (simp []; rfl)) (by simp)
  have hc : cellsL p b = sorted (cellsRaw p b (p.length - (b + 1))) := by
    have : k.kind = 1 := by simpa using hkd
    simp [cellsL, hka, this]
  rw [hc]
  all_goals have fx :=  hw
  repeat' (first
   | refine w_seq ?_ | refine w_block ?_ | refine w_skip ?_ | refine w_reg fun K hK => ?_
   | ((with_reducible refine s_end hK ?_); clear hK K)
   | (with_reducible first | refine then_normal ?_ | refine in_normal ?_ | refine then_exit ?_ | refine in_exit ?_ | refine then_ret ?_ | refine in_ret ?_ | refine s_nil ?_ | refine in_other (by decide) ?_)
   | refine w_exit ?_
   | refine w_ret ?_
   | (with_reducible refine s_none ?_)
   | ((with_reducible refine g_id ?_); refine x_guard (h := ?_))
   | (with_reducible first | refine gx_tt ?_ | refine gx_ff ?_ | refine x_tf (h := ?_) | refine x_ft (h := ?_) | refine x_u (h := ?_) | refine x_assign (h := ?_) | refine x_box (h := ?_) | refine x_append0 (T := 26) (h := ?_) | refine x_append (T := 26) (h := ?_) | refine x_build (h := ?_))
   | (with_reducible refine x_q (h := ?_))
   | (with_reducible refine gx_s (fun ht => ?_) (fun ht => ?_))
   | refine x_condt (h1 := ?_) | refine x_condf (h1 := ?_)
   | (refine wSc (id := 9) qsKa0 mixed fun K hK => ?_)
   | ((with_reducible refine a_end hK ?_); clear hK K)
   | ((with_reducible refine a_id ?_); first | refine xa_q (h := ?_) | refine xa_qt (h := ?_) | refine xa_qf (h := ?_) | refine xa_qu (h := ?_))
   | ((with_reducible refine a_id ?_); refine xa_gq (h1 := fun ht => ?_) (h2 := fun ht => ?_))
   | refine a_l rfl ?_ | refine a_l2 ?_ ?_ | (with_reducible refine And.intro ?_ ?_) | exact st_nil | refine xa_st (h2 := ?_)
   | fail)
  all_goals try clear fx
  refine w_loop (fun n st => ∃ c : Nat, n = p.length - c ∧ b + 1 ≤ c ∧ c ≤ p.length ∧ st.tm 1 = iv b ∧ st.tm 2 = .pt (.s 2) 0 ∧ st.hp (.s 2) = some (.row 1 [[ksl p]]) ∧ st.tm 6 = iv c ∧ st.tm 5 = .hs (.s 5) 1 0 (cellsRaw p b (c - (b + 1))).length ∧ st.hp (.s 5) = some (.row 1 (irows (cellsRaw p b (c - (b + 1)))))) (p.length - (b + 1)) ?_ ?_
  · exact ⟨b + 1, rfl, by omega, by omega, by simp, by simp, by simp, by simp, by simp [cellsRaw, joined], by simp [cellsRaw, joined]⟩
  rintro n st - - ⟨c, rfl, hc1, hc2, h1, h2, hp2, h6, h5, hp5⟩
  have hcl := freesRaw_len (p := p) (b := b) (n := c)
  have hrl := cellsRaw_len (p := p) (b := b) (n := c - (b + 1))
  by_cases hlt : c < p.length
  · obtain ⟨q, hq⟩ : ∃ q, p[c]? = some q := ⟨_, gE hlt⟩
    have hul := q.us_len
    have hnext := cellsRaw_next (p := p) hc1
    have hat : cellAt p b c = q.us.filter (cellIn p b c) := by simp [cellAt, hq]
    rw [hat] at hnext
    generalize hR : cellsRaw p b (c - (b + 1)) = R at h5 hp5 hnext hrl
    all_goals have fx := And.intro h1 <| And.intro h2 <| And.intro hp2 <| And.intro h6 <| And.intro h5 <| And.intro hp5 <| And.intro hk <| And.intro hbE <| And.intro hkd <| And.intro hlt <| And.intro hbl <| hq
    repeat' (first
     | refine w_seq ?_ | refine w_block ?_ | refine w_skip ?_ | refine w_reg fun K hK => ?_
     | ((with_reducible refine s_end hK ?_); clear hK K)
     | (with_reducible first | refine then_normal ?_ | refine in_normal ?_ | refine then_exit ?_ | refine in_exit ?_ | refine then_ret ?_ | refine in_ret ?_ | refine s_nil ?_ | refine in_other (by decide) ?_)
     | refine w_exit ?_
     | refine w_ret ?_
     | (with_reducible refine s_none ?_)
     | ((with_reducible refine g_id ?_); refine x_guard (h := ?_))
     | (with_reducible first | refine gx_tt ?_ | refine gx_ff ?_ | refine x_tf (h := ?_) | refine x_ft (h := ?_) | refine x_u (h := ?_) | refine x_assign (h := ?_) | refine x_box (h := ?_) | refine x_append0 (T := 26) (h := ?_) | refine x_append (T := 26) (h := ?_) | refine x_build (h := ?_))
     | ((with_reducible refine o_id 70 rfl ?_); refine x_callh (hF := used_fn _ p c q hq (hs.bsm hq)) (h := ?_))
     | (with_reducible refine x_q (h := ?_))
     | (with_reducible refine gx_s (fun ht => ?_) (fun ht => ?_))
     | refine x_condt (h1 := ?_) | refine x_condf (h1 := ?_)
     | (refine wSc (id := 9) qsKa0 mixed fun K hK => ?_)
     | ((with_reducible refine a_end hK ?_); clear hK K)
     | ((with_reducible refine a_id ?_); first | refine xa_q (h := ?_) | refine xa_qt (h := ?_) | refine xa_qf (h := ?_) | refine xa_qu (h := ?_))
     | ((with_reducible refine a_id ?_); refine xa_gq (h1 := fun ht => ?_) (h2 := fun ht => ?_))
     | refine a_l rfl ?_ | refine a_l2 ?_ ?_ | (with_reducible refine And.intro ?_ ?_) | exact st_nil | refine xa_st (h2 := ?_)
     | fail)
    all_goals try clear fx
    refine w_loop (fun n st => ∃ i : Nat, n = q.us.length - i ∧ i ≤ q.us.length ∧ st.tm 1 = iv b ∧ st.tm 2 = .pt (.s 2) 0 ∧ st.hp (.s 2) = some (.row 1 [[ksl p]]) ∧ st.tm 6 = iv c ∧ st.tm 7 = .hs (.s 7) 1 0 q.us.length ∧ st.hp (.s 7) = some (.row 1 (irows q.us)) ∧ st.tm 8 = iv i ∧ st.tm 5 = .hs (.s 5) 1 0 (R ++ (q.us.take i).filter (cellIn p b c)).length ∧ st.hp (.s 5) = some (.row 1 (irows (R ++ (q.us.take i).filter (cellIn p b c))))) q.us.length ?_ ?_
    · exact ⟨0, by omega, by omega, by simp [h1], by simp [h2], by simp [hp2], by simp [h6], by simp, by simp, by simp, by simp [h5], by simp [hp5]⟩
    clear h1 h2 hp2 h6 h5 hp5
    rintro n st - - ⟨i, rfl, hi, h1, h2, hp2, h6, h7, hp7, h8, h5, hp5⟩
    have hfl : ((q.us.take i).filter (cellIn p b c)).length ≤ 8 := filter_len8 (Nat.le_trans (List.length_take_le' _ _) hul)
    have hLl : (R ++ (q.us.take i).filter (cellIn p b c)).length ≤ 1000 := by simp; omega
    by_cases hil : i < q.us.length
    · obtain ⟨u, hu⟩ : ∃ u, q.us[i]? = some u := ⟨_, gE hil⟩
      obtain ⟨_, huE⟩ := gS hu
      have hnx : R ++ (q.us.take (i + 1)).filter (cellIn p b c) = R ++ (q.us.take i).filter (cellIn p b c) ++ (if cellIn p b c u = true then [u] else []) := by rw [take_succ_filter hu, List.append_assoc]
      generalize hL : R ++ (q.us.take i).filter (cellIn p b c) = L at h5 hp5 hnx hLl
      cases ho : (owner p c u == (b : Int))
      · rw [if_neg (by simp only [cellIn, ho]; decide), List.append_nil] at hnx
        all_goals have fx := And.intro h1 <| And.intro h2 <| And.intro hp2 <| And.intro h6 <| And.intro h7 <| And.intro hp7 <| And.intro h8 <| And.intro h5 <| And.intro hp5 <| And.intro hq <| And.intro hu <| And.intro huE <| And.intro hil <| ho
        repeat' (first
         | refine w_seq ?_ | refine w_block ?_ | refine w_skip ?_ | refine w_reg fun K hK => ?_
         | ((with_reducible refine s_end hK ?_); clear hK K)
         | (with_reducible first | refine then_normal ?_ | refine in_normal ?_ | refine then_exit ?_ | refine in_exit ?_ | refine then_ret ?_ | refine in_ret ?_ | refine s_nil ?_ | refine in_other (by decide) ?_)
         | refine w_exit ?_
         | refine w_ret ?_
         | (with_reducible refine s_none ?_)
         | ((with_reducible refine g_id ?_); refine x_guard (h := ?_))
         | (with_reducible first | refine gx_tt ?_ | refine gx_ff ?_ | refine x_tf (h := ?_) | refine x_ft (h := ?_) | refine x_u (h := ?_) | refine x_assign (h := ?_) | refine x_box (h := ?_) | refine x_append0 (T := 26) (h := ?_) | refine x_append (T := 26) (h := ?_) | refine x_build (h := ?_))
         | ((with_reducible refine o_id 71 rfl ?_); refine x_call (hF := owner_fn _ p c q u hq hs hh) (h := ?_))
         | (with_reducible refine x_q (h := ?_))
         | (with_reducible refine gx_s (fun ht => ?_) (fun ht => ?_))
         | refine x_condt (h1 := ?_) | refine x_condf (h1 := ?_)
         | (refine wSc (id := 9) qsKa0 mixed fun K hK => ?_)
         | ((with_reducible refine a_end hK ?_); clear hK K)
         | ((with_reducible refine a_id ?_); first | refine xa_q (h := ?_) | refine xa_qt (h := ?_) | refine xa_qf (h := ?_) | refine xa_qu (h := ?_))
         | ((with_reducible refine a_id ?_); refine xa_gq (h1 := fun ht => ?_) (h2 := fun ht => ?_))
         | refine a_l rfl ?_ | refine a_l2 ?_ ?_ | (with_reducible refine And.intro ?_ ?_) | exact st_nil | refine xa_st (h2 := ?_)
         | fail)
        all_goals try clear fx
        exact ⟨q.us.length - (i + 1), by omega, i + 1, rfl, by omega, by simp [h1], by simp [h2], by simp [hp2], by simp [h6], by simp [h7], by simp [hp7], by simp; exact wrp (by omega) (by omega), by simp [hnx, h5], by simp [hnx, hp5]⟩
      · rw [if_pos (by simp only [cellIn, ho])] at hnx
        all_goals have fx := And.intro h1 <| And.intro h2 <| And.intro hp2 <| And.intro h6 <| And.intro h7 <| And.intro hp7 <| And.intro h8 <| And.intro h5 <| And.intro hp5 <| And.intro hq <| And.intro hu <| And.intro huE <| And.intro hil <| And.intro ho <| hLl
        repeat' (first
         | refine w_seq ?_ | refine w_block ?_ | refine w_skip ?_ | refine w_reg fun K hK => ?_
         | ((with_reducible refine s_end hK ?_); clear hK K)
         | (with_reducible first | refine then_normal ?_ | refine in_normal ?_ | refine then_exit ?_ | refine in_exit ?_ | refine then_ret ?_ | refine in_ret ?_ | refine s_nil ?_ | refine in_other (by decide) ?_)
         | refine w_exit ?_
         | refine w_ret ?_
         | (with_reducible refine s_none ?_)
         | ((with_reducible refine g_id ?_); refine x_guard (h := ?_))
         | (with_reducible first | refine gx_tt ?_ | refine gx_ff ?_ | refine x_tf (h := ?_) | refine x_ft (h := ?_) | refine x_u (h := ?_) | refine x_assign (h := ?_) | refine x_box (h := ?_) | refine x_append0 (T := 26) (h := ?_) | refine x_append (T := 26) (h := ?_) | refine x_build (h := ?_))
         | ((with_reducible refine o_id 71 rfl ?_); refine x_call (hF := owner_fn _ p c q u hq hs hh) (h := ?_))
         | (with_reducible refine x_q (h := ?_))
         | (with_reducible refine gx_s (fun ht => ?_) (fun ht => ?_))
         | refine x_condt (h1 := ?_) | refine x_condf (h1 := ?_)
         | (refine wSc (id := 9) qsKa0 mixed fun K hK => ?_)
         | ((with_reducible refine a_end hK ?_); clear hK K)
         | ((with_reducible refine a_id ?_); first | refine xa_q (h := ?_) | refine xa_qt (h := ?_) | refine xa_qf (h := ?_) | refine xa_qu (h := ?_))
         | ((with_reducible refine a_id ?_); refine xa_gq (h1 := fun ht => ?_) (h2 := fun ht => ?_))
         | refine a_l rfl ?_ | refine a_l2 ?_ ?_ | (with_reducible refine And.intro ?_ ?_) | exact st_nil | refine xa_st (h2 := ?_)
         | fail)
        all_goals try clear fx
        refine ⟨q.us.length - (i + 1), by omega, i + 1, rfl, by omega, by simp [h1], by simp [h2], by simp [hp2], by simp [h6], by simp [h7], by simp [hp7], by simp; exact wrp (by omega) (by omega), by simp [hnx, h5], ?_⟩
        rw [hnx]
        simp [hp5, irows]
    · have hge : i = q.us.length := by omega
      rw [hge, List.take_length, ← hnext] at h5 hp5
      all_goals have fx := And.intro h1 <| And.intro h2 <| And.intro hp2 <| And.intro h6 <| And.intro h7 <| And.intro hp7 <| And.intro h8 <| hil
      repeat' (first
       | refine w_seq ?_ | refine w_block ?_ | refine w_skip ?_ | refine w_reg fun K hK => ?_
       | ((with_reducible refine s_end hK ?_); clear hK K)
       | (with_reducible first | refine then_normal ?_ | refine in_normal ?_ | refine then_exit ?_ | refine in_exit ?_ | refine then_ret ?_ | refine in_ret ?_ | refine s_nil ?_ | refine in_other (by decide) ?_)
       | refine w_exit ?_
       | refine w_ret ?_
       | (with_reducible refine s_none ?_)
       | ((with_reducible refine g_id ?_); refine x_guard (h := ?_))
       | (with_reducible first | refine gx_tt ?_ | refine gx_ff ?_ | refine x_tf (h := ?_) | refine x_ft (h := ?_) | refine x_u (h := ?_) | refine x_assign (h := ?_) | refine x_box (h := ?_) | refine x_append0 (T := 26) (h := ?_) | refine x_append (T := 26) (h := ?_) | refine x_build (h := ?_))
       | (with_reducible refine x_q (h := ?_))
       | (with_reducible refine gx_s (fun ht => ?_) (fun ht => ?_))
       | refine x_condt (h1 := ?_) | refine x_condf (h1 := ?_)
       | (refine wSc (id := 9) qsKa0 mixed fun K hK => ?_)
       | ((with_reducible refine a_end hK ?_); clear hK K)
       | ((with_reducible refine a_id ?_); first | refine xa_q (h := ?_) | refine xa_qt (h := ?_) | refine xa_qf (h := ?_) | refine xa_qu (h := ?_))
       | ((with_reducible refine a_id ?_); refine xa_gq (h1 := fun ht => ?_) (h2 := fun ht => ?_))
       | refine a_l rfl ?_ | refine a_l2 ?_ ?_ | (with_reducible refine And.intro ?_ ?_) | exact st_nil | refine xa_st (h2 := ?_)
       | fail)
      all_goals try clear fx
      exact ⟨p.length - (c + 1), by omega, c + 1, rfl, by omega, by omega, by simp [h1], by simp [h2], by simp [hp2], by simp [h6]; exact wrp (by omega) (by omega), by simp [h5], by simp [hp5]⟩
  · have hge : c = p.length := by omega
    subst hge
    all_goals have fx := And.intro h1 <| And.intro h2 <| And.intro hp2 <| And.intro h6 <| And.intro h5 <| And.intro hp5 <| And.intro hk <| And.intro hbE <| And.intro hkd <| And.intro hlt <| hbl
    repeat' (first
     | refine w_seq ?_ | refine w_block ?_ | refine w_skip ?_ | refine w_reg fun K hK => ?_
     | ((with_reducible refine s_end hK ?_); clear hK K)
     | (with_reducible first | refine then_normal ?_ | refine in_normal ?_ | refine then_exit ?_ | refine in_exit ?_ | refine then_ret ?_ | refine in_ret ?_ | refine s_nil ?_ | refine in_other (by decide) ?_)
     | refine w_exit ?_
     | refine w_ret ?_
     | (with_reducible refine s_none ?_)
     | ((with_reducible refine g_id ?_); refine x_guard (h := ?_))
     | (with_reducible first | refine gx_tt ?_ | refine gx_ff ?_ | refine x_tf (h := ?_) | refine x_ft (h := ?_) | refine x_u (h := ?_) | refine x_assign (h := ?_) | refine x_box (h := ?_) | refine x_append0 (T := 26) (h := ?_) | refine x_append (T := 26) (h := ?_) | refine x_build (h := ?_))
     | ((with_reducible refine o_id 67 rfl ?_); refine x_callh (hF := sorted_fn _ (cellsRaw p b (p.length - (b + 1))) (by omega)) (h := ?_))
     | (with_reducible refine x_q (h := ?_))
     | (with_reducible refine gx_s (fun ht => ?_) (fun ht => ?_))
     | refine x_condt (h1 := ?_) | refine x_condf (h1 := ?_)
     | (refine wSc (id := 9) qsKa0 mixed fun K hK => ?_)
     | ((with_reducible refine a_end hK ?_); clear hK K)
     | ((with_reducible refine a_id ?_); first | refine xa_q (h := ?_) | refine xa_qt (h := ?_) | refine xa_qf (h := ?_) | refine xa_qu (h := ?_))
     | ((with_reducible refine a_id ?_); refine xa_gq (h1 := fun ht => ?_) (h2 := fun ht => ?_))
     | refine a_l rfl ?_ | refine a_l2 ?_ ?_ | (with_reducible refine And.intro ?_ ?_) | exact st_nil | refine xa_st (h2 := ?_)
     | fail)
    all_goals try clear fx
    exact e_list (t := 4) (by first | (simp []; done) | (simp []; rfl)) (by first | (simp []; done) | (simp []; rfl)) (by simp)
theorem frees_fn (gl) (p : Prg) (b : Nat) (hbl : b < p.length) (hs : Sml p) (hh : Heads p) (hl7 : p.length ≤ 7) : FnOk Tryz.prog gl 46 [pav p, iv b] (fun r y H' => y = .hs r 1 0 (freesL p b).length ∧ H' r = some (.row 1 (irows (freesL p b)))) := by
  have hc : freesL p b = sorted (freesRaw p b (p.length - b)) := rfl
  rw [hc]
  refine FnOk.of_sem Tryz.func46 rfl (by kernel_rfl) (rs := [.tmp 4]) rfl Tryz.ntmps46 (Nat.le_of_ble_eq_true rfl) fun C w g root => ?_
  all_goals have fx := fx0
  repeat' (first
   | refine w_seq ?_ | refine w_block ?_ | refine w_skip ?_ | refine w_reg fun K hK => ?_
   | ((with_reducible refine s_end hK ?_); clear hK K)
   | (with_reducible first | refine then_normal ?_ | refine in_normal ?_ | refine then_exit ?_ | refine in_exit ?_ | refine then_ret ?_ | refine in_ret ?_ | refine s_nil ?_ | refine in_other (by decide) ?_)
   | refine w_exit ?_
   | refine w_ret ?_
   | (with_reducible refine s_none ?_)
   | ((with_reducible refine g_id ?_); refine x_guard (h := ?_))
   | (with_reducible first | refine gx_tt ?_ | refine gx_ff ?_ | refine x_tf (h := ?_) | refine x_ft (h := ?_) | refine x_u (h := ?_) | refine x_assign (h := ?_) | refine x_box (h := ?_) | refine x_append0 (T := 26) (h := ?_) | refine x_append (T := 26) (h := ?_) | refine x_build (h := ?_))
   | (with_reducible refine x_q (h := ?_))
   | (with_reducible refine gx_s (fun ht => ?_) (fun ht => ?_))
   | refine x_condt (h1 := ?_) | refine x_condf (h1 := ?_)
   | (refine wSc (id := 9) qsKa1 mixed fun K hK => ?_)
   | ((with_reducible refine a_end hK ?_); clear hK K)
   | ((with_reducible refine a_id ?_); first | refine xa_q (h := ?_) | refine xa_qt (h := ?_) | refine xa_qf (h := ?_) | refine xa_qu (h := ?_))
   | ((with_reducible refine a_id ?_); refine xa_gq (h1 := fun ht => ?_) (h2 := fun ht => ?_))
   | refine a_l rfl ?_ | refine a_l2 ?_ ?_ | (with_reducible refine And.intro ?_ ?_) | exact st_nil | refine xa_st (h2 := ?_)
   | fail)
  all_goals try clear fx
  refine w_loop (fun n st => ∃ c : Nat, n = p.length - c ∧ b ≤ c ∧ c ≤ p.length ∧ st.tm 1 = iv b ∧ st.tm 2 = .pt (.s 2) 0 ∧ st.hp (.s 2) = some (.row 1 [[ksl p]]) ∧ st.tm 6 = iv c ∧ st.tm 5 = .hs (.s 5) 1 0 (freesRaw p b (c - b)).length ∧ st.hp (.s 5) = some (.row 1 (irows (freesRaw p b (c - b))))) (p.length - b) ?_ ?_
  · exact ⟨b, rfl, by omega, by omega, by simp, by simp, by simp, by simp, by simp [freesRaw, joined], by simp [freesRaw, joined]⟩
  rintro n st - - ⟨c, rfl, hc1, hc2, h1, h2, hp2, h6, h5, hp5⟩
  have hrl := freesRaw_len (p := p) (b := b) (n := c - b)
  by_cases hlt : c < p.length
  · obtain ⟨q, hq⟩ : ∃ q, p[c]? = some q := ⟨_, gE hlt⟩
    have hul := q.us_len
    have hnext := freesRaw_next (p := p) hc1
    cases hin : inside p c b
    · have hat : freeAt p b c = [] := by simp [freeAt, hq, hin]
      rw [hat, List.append_nil] at hnext
      generalize hR : freesRaw p b (c - b) = R at h5 hp5 hnext hrl
      all_goals have fx := And.intro h1 <| And.intro h2 <| And.intro hp2 <| And.intro h6 <| And.intro h5 <| And.intro hp5 <| And.intro hlt <| hq
      repeat' (first
       | refine w_seq ?_ | refine w_block ?_ | refine w_skip ?_ | refine w_reg fun K hK => ?_
       | ((with_reducible refine s_end hK ?_); clear hK K)
       | (with_reducible first | refine then_normal ?_ | refine in_normal ?_ | refine then_exit ?_ | refine in_exit ?_ | refine then_ret ?_ | refine in_ret ?_ | refine s_nil ?_ | refine in_other (by decide) ?_)
       | refine w_exit ?_
       | refine w_ret ?_
       | (with_reducible refine s_none ?_)
       | ((with_reducible refine g_id ?_); refine x_guard (h := ?_))
       | (with_reducible first | refine gx_tt ?_ | refine gx_ff ?_ | refine x_tf (h := ?_) | refine x_ft (h := ?_) | refine x_u (h := ?_) | refine x_assign (h := ?_) | refine x_box (h := ?_) | refine x_append0 (T := 26) (h := ?_) | refine x_append (T := 26) (h := ?_) | refine x_build (h := ?_))
       | ((with_reducible refine o_id 70 rfl ?_); refine x_callh (hF := used_fn _ p c q hq (hs.bsm hq)) (h := ?_))
       | (with_reducible refine x_q (h := ?_))
       | (with_reducible refine gx_s (fun ht => ?_) (fun ht => ?_))
       | refine x_condt (h1 := ?_) | refine x_condf (h1 := ?_)
       | (refine wSc (id := 9) qsKa1 mixed fun K hK => ?_)
       | ((with_reducible refine a_end hK ?_); clear hK K)
       | ((with_reducible refine a_id ?_); first | refine xa_q (h := ?_) | refine xa_qt (h := ?_) | refine xa_qf (h := ?_) | refine xa_qu (h := ?_))
       | ((with_reducible refine a_id ?_); refine xa_gq (h1 := fun ht => ?_) (h2 := fun ht => ?_))
       | refine a_l rfl ?_ | refine a_l2 ?_ ?_ | (with_reducible refine And.intro ?_ ?_) | exact st_nil | refine xa_st (h2 := ?_)
       | fail)
      all_goals try clear fx
      refine w_loop (fun n st => n = 0 ∧ st.tm 1 = iv b ∧ st.tm 2 = .pt (.s 2) 0 ∧ st.hp (.s 2) = some (.row 1 [[ksl p]]) ∧ st.tm 6 = iv c ∧ st.tm 7 = .hs (.s 7) 1 0 q.us.length ∧ st.hp (.s 7) = some (.row 1 (irows q.us)) ∧ st.tm 8 = iv 0 ∧ st.tm 5 = .hs (.s 5) 1 0 R.length ∧ st.hp (.s 5) = some (.row 1 (irows R))) 0 ?_ ?_
      · exact ⟨rfl, by simp [h1], by simp [h2], by simp [hp2], by simp [h6], by simp, by simp, by simp, by simp [h5], by simp [hp5]⟩
      clear h1 h2 hp2 h6 h5 hp5
      rintro n st - - ⟨rfl, h1, h2, hp2, h6, h7, hp7, h8, h5, hp5⟩
      by_cases hu0 : 0 < q.us.length
      · skip
        all_goals have fx := And.intro h1 <| And.intro h2 <| And.intro hp2 <| And.intro h6 <| And.intro h7 <| And.intro hp7 <| And.intro h8 <| And.intro h5 <| And.intro hp5 <| And.intro hq <| And.intro hu0 <| hin
        repeat' (first
         | refine w_seq ?_ | refine w_block ?_ | refine w_skip ?_ | refine w_reg fun K hK => ?_
         | ((with_reducible refine s_end hK ?_); clear hK K)
         | (with_reducible first | refine then_normal ?_ | refine in_normal ?_ | refine then_exit ?_ | refine in_exit ?_ | refine then_ret ?_ | refine in_ret ?_ | refine s_nil ?_ | refine in_other (by decide) ?_)
         | refine w_exit ?_
         | refine w_ret ?_
         | (with_reducible refine s_none ?_)
         | ((with_reducible refine g_id ?_); refine x_guard (h := ?_))
         | (with_reducible first | refine gx_tt ?_ | refine gx_ff ?_ | refine x_tf (h := ?_) | refine x_ft (h := ?_) | refine x_u (h := ?_) | refine x_assign (h := ?_) | refine x_box (h := ?_) | refine x_append0 (T := 26) (h := ?_) | refine x_append (T := 26) (h := ?_) | refine x_build (h := ?_))
         | ((with_reducible refine o_id 72 rfl ?_); refine x_call (hF := inside_fn _ p c b hs hh hlt) (h := ?_))
         | (with_reducible refine x_q (h := ?_))
         | (with_reducible refine gx_s (fun ht => ?_) (fun ht => ?_))
         | refine x_condt (h1 := ?_) | refine x_condf (h1 := ?_)
         | (refine wSc (id := 9) qsKa1 mixed fun K hK => ?_)
         | ((with_reducible refine a_end hK ?_); clear hK K)
         | ((with_reducible refine a_id ?_); first | refine xa_q (h := ?_) | refine xa_qt (h := ?_) | refine xa_qf (h := ?_) | refine xa_qu (h := ?_))
         | ((with_reducible refine a_id ?_); refine xa_gq (h1 := fun ht => ?_) (h2 := fun ht => ?_))
         | refine a_l rfl ?_ | refine a_l2 ?_ ?_ | (with_reducible refine And.intro ?_ ?_) | exact st_nil | refine xa_st (h2 := ?_)
         | fail)
        all_goals try clear fx
        exact ⟨p.length - (c + 1), by omega, c + 1, rfl, by omega, by omega, by simp [h1], by simp [h2], by simp [hp2], by simp [h6]; exact wrp (by omega) (by omega), by simp [hnext, h5], by simp [hnext, hp5]⟩
      · skip
        all_goals have fx := And.intro h1 <| And.intro h2 <| And.intro hp2 <| And.intro h6 <| And.intro h7 <| And.intro hp7 <| And.intro h8 <| And.intro h5 <| And.intro hp5 <| And.intro hq <| And.intro hu0 <| hin
        repeat' (first
         | refine w_seq ?_ | refine w_block ?_ | refine w_skip ?_ | refine w_reg fun K hK => ?_
         | ((with_reducible refine s_end hK ?_); clear hK K)
         | (with_reducible first | refine then_normal ?_ | refine in_normal ?_ | refine then_exit ?_ | refine in_exit ?_ | refine then_ret ?_ | refine in_ret ?_ | refine s_nil ?_ | refine in_other (by decide) ?_)
         | refine w_exit ?_
         | refine w_ret ?_
         | (with_reducible refine s_none ?_)
         | ((with_reducible refine g_id ?_); refine x_guard (h := ?_))
         | (with_reducible first | refine gx_tt ?_ | refine gx_ff ?_ | refine x_tf (h := ?_) | refine x_ft (h := ?_) | refine x_u (h := ?_) | refine x_assign (h := ?_) | refine x_box (h := ?_) | refine x_append0 (T := 26) (h := ?_) | refine x_append (T := 26) (h := ?_) | refine x_build (h := ?_))
         | ((with_reducible refine o_id 72 rfl ?_); refine x_call (hF := inside_fn _ p c b hs hh hlt) (h := ?_))
         | (with_reducible refine x_q (h := ?_))
         | (with_reducible refine gx_s (fun ht => ?_) (fun ht => ?_))
         | refine x_condt (h1 := ?_) | refine x_condf (h1 := ?_)
         | (refine wSc (id := 9) qsKa1 mixed fun K hK => ?_)
         | ((with_reducible refine a_end hK ?_); clear hK K)
         | ((with_reducible refine a_id ?_); first | refine xa_q (h := ?_) | refine xa_qt (h := ?_) | refine xa_qf (h := ?_) | refine xa_qu (h := ?_))
         | ((with_reducible refine a_id ?_); refine xa_gq (h1 := fun ht => ?_) (h2 := fun ht => ?_))
         | refine a_l rfl ?_ | refine a_l2 ?_ ?_ | (with_reducible refine And.intro ?_ ?_) | exact st_nil | refine xa_st (h2 := ?_)
         | fail)
        all_goals try clear fx
        exact ⟨p.length - (c + 1), by omega, c + 1, rfl, by omega, by omega, by simp [h1], by simp [h2], by simp [hp2], by simp [h6]; exact wrp (by omega) (by omega), by simp [hnext, h5], by simp [hnext, hp5]⟩
    have hat : freeAt p b c = q.us.filter (freeIn p b c) := by simp [freeAt, hq, hin]
    rw [hat] at hnext
    generalize hR : freesRaw p b (c - b) = R at h5 hp5 hnext hrl
    all_goals have fx := And.intro h1 <| And.intro h2 <| And.intro hp2 <| And.intro h6 <| And.intro h5 <| And.intro hp5 <| And.intro hlt <| hq
    repeat' (first
     | refine w_seq ?_ | refine w_block ?_ | refine w_skip ?_ | refine w_reg fun K hK => ?_
     | ((with_reducible refine s_end hK ?_); clear hK K)
     | (with_reducible first | refine then_normal ?_ | refine in_normal ?_ | refine then_exit ?_ | refine in_exit ?_ | refine then_ret ?_ | refine in_ret ?_ | refine s_nil ?_ | refine in_other (by decide) ?_)
     | refine w_exit ?_
     | refine w_ret ?_
     | (with_reducible refine s_none ?_)
     | ((with_reducible refine g_id ?_); refine x_guard (h := ?_))
     | (with_reducible first | refine gx_tt ?_ | refine gx_ff ?_ | refine x_tf (h := ?_) | refine x_ft (h := ?_) | refine x_u (h := ?_) | refine x_assign (h := ?_) | refine x_box (h := ?_) | refine x_append0 (T := 26) (h := ?_) | refine x_append (T := 26) (h := ?_) | refine x_build (h := ?_))
     | ((with_reducible refine o_id 70 rfl ?_); refine x_callh (hF := used_fn _ p c q hq (hs.bsm hq)) (h := ?_))
     | (with_reducible refine x_q (h := ?_))
     | (with_reducible refine gx_s (fun ht => ?_) (fun ht => ?_))
     | refine x_condt (h1 := ?_) | refine x_condf (h1 := ?_)
     | (refine wSc (id := 9) qsKa1 mixed fun K hK => ?_)
     | ((with_reducible refine a_end hK ?_); clear hK K)
     | ((with_reducible refine a_id ?_); first | refine xa_q (h := ?_) | refine xa_qt (h := ?_) | refine xa_qf (h := ?_) | refine xa_qu (h := ?_))
     | ((with_reducible refine a_id ?_); refine xa_gq (h1 := fun ht => ?_) (h2 := fun ht => ?_))
     | refine a_l rfl ?_ | refine a_l2 ?_ ?_ | (with_reducible refine And.intro ?_ ?_) | exact st_nil | refine xa_st (h2 := ?_)
     | fail)
    all_goals try clear fx
    refine w_loop (fun n st => ∃ i : Nat, n = q.us.length - i ∧ i ≤ q.us.length ∧ st.tm 1 = iv b ∧ st.tm 2 = .pt (.s 2) 0 ∧ st.hp (.s 2) = some (.row 1 [[ksl p]]) ∧ st.tm 6 = iv c ∧ st.tm 7 = .hs (.s 7) 1 0 q.us.length ∧ st.hp (.s 7) = some (.row 1 (irows q.us)) ∧ st.tm 8 = iv i ∧ st.tm 5 = .hs (.s 5) 1 0 (R ++ (q.us.take i).filter (freeIn p b c)).length ∧ st.hp (.s 5) = some (.row 1 (irows (R ++ (q.us.take i).filter (freeIn p b c))))) q.us.length ?_ ?_
    · exact ⟨0, by omega, by omega, by simp [h1], by simp [h2], by simp [hp2], by simp [h6], by simp, by simp, by simp, by simp [h5], by simp [hp5]⟩
    clear h1 h2 hp2 h6 h5 hp5
    rintro n st - - ⟨i, rfl, hi, h1, h2, hp2, h6, h7, hp7, h8, h5, hp5⟩
    have hfl : ((q.us.take i).filter (freeIn p b c)).length ≤ 8 := filter_len8 (Nat.le_trans (List.length_take_le' _ _) hul)
    have hLl : (R ++ (q.us.take i).filter (freeIn p b c)).length ≤ 1000 := by simp; omega
    by_cases hil : i < q.us.length
    · obtain ⟨u, hu⟩ : ∃ u, q.us[i]? = some u := ⟨_, gE hil⟩
      obtain ⟨_, huE⟩ := gS hu
      have hnx : R ++ (q.us.take (i + 1)).filter (freeIn p b c) = R ++ (q.us.take i).filter (freeIn p b c) ++ (if freeIn p b c u = true then [u] else []) := by rw [take_succ_filter hu, List.append_assoc]
      generalize hL : R ++ (q.us.take i).filter (freeIn p b c) = L at h5 hp5 hnx hLl
      have no : freeIn p b c u = false → R ++ (q.us.take (i + 1)).filter (freeIn p b c) = L := fun h => by rw [hnx, h, if_neg (by decide), List.append_nil]
      cases ho : decide (0 < owner p c u)
      · have hno := no (by simp only [freeIn, ho]; rfl)
        all_goals have fx := And.intro h1 <| And.intro h2 <| And.intro hp2 <| And.intro h6 <| And.intro h7 <| And.intro hp7 <| And.intro h8 <| And.intro h5 <| And.intro hp5 <| And.intro hq <| And.intro hu <| And.intro huE <| And.intro hil <| And.intro hin <| ho
        repeat' (first
         | refine w_seq ?_ | refine w_block ?_ | refine w_skip ?_ | refine w_reg fun K hK => ?_
         | ((with_reducible refine s_end hK ?_); clear hK K)
         | (with_reducible first | refine then_normal ?_ | refine in_normal ?_ | refine then_exit ?_ | refine in_exit ?_ | refine then_ret ?_ | refine in_ret ?_ | refine s_nil ?_ | refine in_other (by decide) ?_)
         | refine w_exit ?_
         | refine w_ret ?_
         | (with_reducible refine s_none ?_)
         | ((with_reducible refine g_id ?_); refine x_guard (h := ?_))
         | (with_reducible first | refine gx_tt ?_ | refine gx_ff ?_ | refine x_tf (h := ?_) | refine x_ft (h := ?_) | refine x_u (h := ?_) | refine x_assign (h := ?_) | refine x_box (h := ?_) | refine x_append0 (T := 26) (h := ?_) | refine x_append (T := 26) (h := ?_) | refine x_build (h := ?_))
         | ((with_reducible refine o_id 72 rfl ?_); refine x_call (hF := inside_fn _ p c b hs hh hlt) (h := ?_))
         | ((with_reducible refine o_id 71 rfl ?_); refine x_call (hF := owner_fn _ p c q u hq hs hh) (h := ?_))
         | (with_reducible refine x_q (h := ?_))
         | (with_reducible refine gx_s (fun ht => ?_) (fun ht => ?_))
         | refine x_condt (h1 := ?_) | refine x_condf (h1 := ?_)
         | (refine wSc (id := 9) qsKa1 mixed fun K hK => ?_)
         | ((with_reducible refine a_end hK ?_); clear hK K)
         | ((with_reducible refine a_id ?_); first | refine xa_q (h := ?_) | refine xa_qt (h := ?_) | refine xa_qf (h := ?_) | refine xa_qu (h := ?_))
         | ((with_reducible refine a_id ?_); refine xa_gq (h1 := fun ht => ?_) (h2 := fun ht => ?_))
         | refine a_l rfl ?_ | refine a_l2 ?_ ?_ | (with_reducible refine And.intro ?_ ?_) | exact st_nil | refine xa_st (h2 := ?_)
         | fail)
        all_goals try clear fx
        exact ⟨q.us.length - (i + 1), by omega, i + 1, rfl, by omega, by simp [h1], by simp [h2], by simp [hp2], by simp [h6], by simp [h7], by simp [hp7], by simp; exact wrp (by omega) (by omega), by simp [hno, h5], by simp [hno, hp5]⟩
      cases ho2 : decide (owner p c u < b)
      · have hno := no (by simp only [freeIn, ho2]; simp)
        all_goals have fx := And.intro h1 <| And.intro h2 <| And.intro hp2 <| And.intro h6 <| And.intro h7 <| And.intro hp7 <| And.intro h8 <| And.intro h5 <| And.intro hp5 <| And.intro hq <| And.intro hu <| And.intro huE <| And.intro hil <| And.intro hin <| And.intro ho <| ho2
        repeat' (first
         | refine w_seq ?_ | refine w_block ?_ | refine w_skip ?_ | refine w_reg fun K hK => ?_
         | ((with_reducible refine s_end hK ?_); clear hK K)
         | (with_reducible first | refine then_normal ?_ | refine in_normal ?_ | refine then_exit ?_ | refine in_exit ?_ | refine then_ret ?_ | refine in_ret ?_ | refine s_nil ?_ | refine in_other (by decide) ?_)
         | refine w_exit ?_
         | refine w_ret ?_
         | (with_reducible refine s_none ?_)
         | ((with_reducible refine g_id ?_); refine x_guard (h := ?_))
         | (with_reducible first | refine gx_tt ?_ | refine gx_ff ?_ | refine x_tf (h := ?_) | refine x_ft (h := ?_) | refine x_u (h := ?_) | refine x_assign (h := ?_) | refine x_box (h := ?_) | refine x_append0 (T := 26) (h := ?_) | refine x_append (T := 26) (h := ?_) | refine x_build (h := ?_))
         | ((with_reducible refine o_id 72 rfl ?_); refine x_call (hF := inside_fn _ p c b hs hh hlt) (h := ?_))
         | ((with_reducible refine o_id 71 rfl ?_); refine x_call (hF := owner_fn _ p c q u hq hs hh) (h := ?_))
         | (with_reducible refine x_q (h := ?_))
         | (with_reducible refine gx_s (fun ht => ?_) (fun ht => ?_))
         | refine x_condt (h1 := ?_) | refine x_condf (h1 := ?_)
         | (refine wSc (id := 9) qsKa1 mixed fun K hK => ?_)
         | ((with_reducible refine a_end hK ?_); clear hK K)
         | ((with_reducible refine a_id ?_); first | refine xa_q (h := ?_) | refine xa_qt (h := ?_) | refine xa_qf (h := ?_) | refine xa_qu (h := ?_))
         | ((with_reducible refine a_id ?_); refine xa_gq (h1 := fun ht => ?_) (h2 := fun ht => ?_))
         | refine a_l rfl ?_ | refine a_l2 ?_ ?_ | (with_reducible refine And.intro ?_ ?_) | exact st_nil | refine xa_st (h2 := ?_)
         | fail)
        all_goals try clear fx
        exact ⟨q.us.length - (i + 1), by omega, i + 1, rfl, by omega, by simp [h1], by simp [h2], by simp [hp2], by simp [h6], by simp [h7], by simp [hp7], by simp; exact wrp (by omega) (by omega), by simp [hno, h5], by simp [hno, hp5]⟩
      · rw [if_pos (by simp only [freeIn, ho, ho2]; rfl)] at hnx
        all_goals have fx := And.intro h1 <| And.intro h2 <| And.intro hp2 <| And.intro h6 <| And.intro h7 <| And.intro hp7 <| And.intro h8 <| And.intro h5 <| And.intro hp5 <| And.intro hq <| And.intro hu <| And.intro huE <| And.intro hil <| And.intro hin <| And.intro ho <| And.intro ho2 <| hLl
        repeat' (first
         | refine w_seq ?_ | refine w_block ?_ | refine w_skip ?_ | refine w_reg fun K hK => ?_
         | ((with_reducible refine s_end hK ?_); clear hK K)
         | (with_reducible first | refine then_normal ?_ | refine in_normal ?_ | refine then_exit ?_ | refine in_exit ?_ | refine then_ret ?_ | refine in_ret ?_ | refine s_nil ?_ | refine in_other (by decide) ?_)
         | refine w_exit ?_
         | refine w_ret ?_
         | (with_reducible refine s_none ?_)
         | ((with_reducible refine g_id ?_); refine x_guard (h := ?_))
         | (with_reducible first | refine gx_tt ?_ | refine gx_ff ?_ | refine x_tf (h := ?_) | refine x_ft (h := ?_) | refine x_u (h := ?_) | refine x_assign (h := ?_) | refine x_box (h := ?_) | refine x_append0 (T := 26) (h := ?_) | refine x_append (T := 26) (h := ?_) | refine x_build (h := ?_))
         | ((with_reducible refine o_id 72 rfl ?_); refine x_call (hF := inside_fn _ p c b hs hh hlt) (h := ?_))
         | ((with_reducible refine o_id 71 rfl ?_); refine x_call (hF := owner_fn _ p c q u hq hs hh) (h := ?_))
         | (with_reducible refine x_q (h := ?_))
         | (with_reducible refine gx_s (fun ht => ?_) (fun ht => ?_))
         | refine x_condt (h1 := ?_) | refine x_condf (h1 := ?_)
         | (refine wSc (id := 9) qsKa1 mixed fun K hK => ?_)
         | ((with_reducible refine a_end hK ?_); clear hK K)
         | ((with_reducible refine a_id ?_); first | refine xa_q (h := ?_) | refine xa_qt (h := ?_) | refine xa_qf (h := ?_) | refine xa_qu (h := ?_))
         | ((with_reducible refine a_id ?_); refine xa_gq (h1 := fun ht => ?_) (h2 := fun ht => ?_))
         | refine a_l rfl ?_ | refine a_l2 ?_ ?_ | (with_reducible refine And.intro ?_ ?_) | exact st_nil | refine xa_st (h2 := ?_)
         | fail)
        all_goals try clear fx
        refine ⟨q.us.length - (i + 1), by omega, i + 1, rfl, by omega, by simp [h1], by simp [h2], by simp [hp2], by simp [h6], by simp [h7], by simp [hp7], by simp; exact wrp (by omega) (by omega), by simp [hnx, h5], ?_⟩
        rw [hnx]
        simp [hp5, irows]
    · have hge : i = q.us.length := by omega
      rw [hge, List.take_length, ← hnext] at h5 hp5
      all_goals have fx := And.intro h1 <| And.intro h2 <| And.intro hp2 <| And.intro h6 <| And.intro h7 <| And.intro hp7 <| And.intro h8 <| And.intro hil <| hin
      repeat' (first
       | refine w_seq ?_ | refine w_block ?_ | refine w_skip ?_ | refine w_reg fun K hK => ?_
       | ((with_reducible refine s_end hK ?_); clear hK K)
       | (with_reducible first | refine then_normal ?_ | refine in_normal ?_ | refine then_exit ?_ | refine in_exit ?_ | refine then_ret ?_ | refine in_ret ?_ | refine s_nil ?_ | refine in_other (by decide) ?_)
       | refine w_exit ?_
       | refine w_ret ?_
       | (with_reducible refine s_none ?_)
       | ((with_reducible refine g_id ?_); refine x_guard (h := ?_))
       | (with_reducible first | refine gx_tt ?_ | refine gx_ff ?_ | refine x_tf (h := ?_) | refine x_ft (h := ?_) | refine x_u (h := ?_) | refine x_assign (h := ?_) | refine x_box (h := ?_) | refine x_append0 (T := 26) (h := ?_) | refine x_append (T := 26) (h := ?_) | refine x_build (h := ?_))
       | ((with_reducible refine o_id 72 rfl ?_); refine x_call (hF := inside_fn _ p c b hs hh hlt) (h := ?_))
       | (with_reducible refine x_q (h := ?_))
       | (with_reducible refine gx_s (fun ht => ?_) (fun ht => ?_))
       | refine x_condt (h1 := ?_) | refine x_condf (h1 := ?_)
       | (refine wSc (id := 9) qsKa1 mixed fun K hK => ?_)
       | ((with_reducible refine a_end hK ?_); clear hK K)
       | ((with_reducible refine a_id ?_); first | refine xa_q (h := ?_) | refine xa_qt (h := ?_) | refine xa_qf (h := ?_) | refine xa_qu (h := ?_))
       | ((with_reducible refine a_id ?_); refine xa_gq (h1 := fun ht => ?_) (h2 := fun ht => ?_))
       | refine a_l rfl ?_ | refine a_l2 ?_ ?_ | (with_reducible refine And.intro ?_ ?_) | exact st_nil | refine xa_st (h2 := ?_)
       | fail)
      all_goals try clear fx
      exact ⟨p.length - (c + 1), by omega, c + 1, rfl, by omega, by omega, by simp [h1], by simp [h2], by simp [hp2], by simp [h6]; exact wrp (by omega) (by omega), by simp [h5], by simp [hp5]⟩
  · have hge : c = p.length := by omega
    subst hge
    all_goals have fx := And.intro h1 <| And.intro h2 <| And.intro hp2 <| And.intro h6 <| And.intro h5 <| And.intro hp5 <| hlt
    repeat' (first
     | refine w_seq ?_ | refine w_block ?_ | refine w_skip ?_ | refine w_reg fun K hK => ?_
     | ((with_reducible refine s_end hK ?_); clear hK K)
     | (with_reducible first | refine then_normal ?_ | refine in_normal ?_ | refine then_exit ?_ | refine in_exit ?_ | refine then_ret ?_ | refine in_ret ?_ | refine s_nil ?_ | refine in_other (by decide) ?_)
     | refine w_exit ?_
     | refine w_ret ?_
     | (with_reducible refine s_none ?_)
     | ((with_reducible refine g_id ?_); refine x_guard (h := ?_))
     | (with_reducible first | refine gx_tt ?_ | refine gx_ff ?_ | refine x_tf (h := ?_) | refine x_ft (h := ?_) | refine x_u (h := ?_) | refine x_assign (h := ?_) | refine x_box (h := ?_) | refine x_append0 (T := 26) (h := ?_) | refine x_append (T := 26) (h := ?_) | refine x_build (h := ?_))
     | ((with_reducible refine o_id 67 rfl ?_); refine x_callh (hF := sorted_fn _ (freesRaw p b (p.length - b)) (by omega)) (h := ?_))
     | (with_reducible refine x_q (h := ?_))
     | (with_reducible refine gx_s (fun ht => ?_) (fun ht => ?_))
     | refine x_condt (h1 := ?_) | refine x_condf (h1 := ?_)
     | (refine wSc (id := 9) qsKa1 mixed fun K hK => ?_)
     | ((with_reducible refine a_end hK ?_); clear hK K)
     | ((with_reducible refine a_id ?_); first | refine xa_q (h := ?_) | refine xa_qt (h := ?_) | refine xa_qf (h := ?_) | refine xa_qu (h := ?_))
     | ((with_reducible refine a_id ?_); refine xa_gq (h1 := fun ht => ?_) (h2 := fun ht => ?_))
     | refine a_l rfl ?_ | refine a_l2 ?_ ?_ | (with_reducible refine And.intro ?_ ?_) | exact st_nil | refine xa_st (h2 := ?_)
     | fail)
    all_goals try clear fx
    exact e_list (t := 4) (by first | (simp []; done) | (simp []; rfl)) (by first | (simp []; done) | (simp []; rfl)) (by simp)
end Go.Proofs.YtnnpbiamlalnmaaGreatDoor
end
