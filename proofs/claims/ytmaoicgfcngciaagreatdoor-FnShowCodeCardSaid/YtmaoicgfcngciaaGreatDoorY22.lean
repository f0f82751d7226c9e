/-
  Own texts, joined by mkclaim.py: Gn, Ka, Kb, Kj.
-/
import Derived.Test.YtmaoicgfcngciaaGreatDoorY18
import Derived.Test.YtmaoicgfcngciaaGreatDoorY10
import Derived.Test.YtmaoicgfcngciaaGreatDoorY11
import Derived.Test.YtmaoicgfcngciaaGreatDoorY12
set_option linter.unusedSimpArgs false
set_option linter.unusedVariables false
set_option maxRecDepth 100000
set_option maxHeartbeats 4000000

section
namespace Go.Proofs.YtmaoicgfcngciaaGreatDoor
open Go Go.Hm Go.Proofs
theorem inside_fn (gl) (p : Prg) (c b : Nat) (hs : Sml p) (hh : Heads p) (hc : c < p.length) : FnOk Tryz.prog gl 143 [pav p, iv c, iv b] (fun _ z _ => z = bv (inside p c b)) := by
  refine FnOk.of_sem Tryz.func143 rfl (by kernel_rfl) (rs := [.tmp 6]) rfl Tryz.ntmps143 (Nat.le_of_ble_eq_true rfl) fun C w g root => ?_
  all_goals have fx := fx0
  repeat' (first
   | refine w_seq ?_ | refine w_block ?_ | refine w_reg fun K hK => ?_
   | ((with_reducible refine s_end hK ?_); clear hK K)
   | (with_reducible first | refine s_none ?_ | refine x_assign (h := ?_) | refine x_box (h := ?_))
   | fail)
  all_goals try clear fx
  refine w_loop (fun n st => ∃ j : Int, n = (j + 1).toNat ∧ -1 ≤ j ∧ j < p.length ∧ inside p j b = inside p c b ∧ st.tm 1 = iv j ∧ st.tm 2 = iv b ∧ st.tm 3 = .pt (.s 3) 0 ∧ st.hp (.s 3) = some (.row 1 [[ksl p]])) (c + 1) ?_ ?_
  · exact ⟨c, by omega, by omega, by omega, rfl, by simp⟩
  rintro n st - - ⟨j, rfl, hj1, hj2, ho, h1, h2, h3, hp3⟩
  all_goals have fx := And.intro h1 <| And.intro h2 <| And.intro h3 <| hp3
  repeat' (first
   | refine w_seq ?_ | refine w_reg fun K hK => ?_
   | ((with_reducible refine s_end hK ?_); clear hK K)
   | (with_reducible first | refine then_normal ?_)
   | (with_reducible first | refine s_none ?_)
   | (with_reducible refine x_q (h := ?_))
   | fail)
  all_goals try clear fx
  refine w_if (by simp []; first | done | rfl | exact (Bool.not_not _).symm) (fun ht => ?_) (fun hf => ?_)
  · have hj0 : (b : Int) < j := by simpa using ht
    obtain ⟨j, rfl⟩ : ∃ i : Nat, j = i := ⟨j.toNat, by omega⟩
    obtain ⟨q, hq⟩ : ∃ q, p[j]? = some q := ⟨_, gE (by omega)⟩
    obtain ⟨hq1, hq2, _⟩ := hh j q hq
    all_goals have fx := And.intro h1 <| And.intro h2 <| And.intro h3 <| And.intro hp3 <| hq
    repeat' (first
     | refine w_block ?_ | refine w_skip ?_ | refine w_reg fun K hK => ?_
     | ((with_reducible refine s_end hK ?_); clear hK K)
     | (with_reducible first | refine then_normal ?_ | refine in_normal ?_)
     | (with_reducible first | refine s_none ?_ | refine x_assign (h := ?_))
     | (with_reducible refine x_q (h := ?_))
     | fail)
    all_goals try clear fx
    refine ⟨(q.parent + 1).toNat, by omega, q.parent, rfl, hq1, by omega, ?_, by simp [h2, h3, hp3]⟩
    rw [← ho, inside_step hh (by omega) hq hj0]
  · have hj : j ≤ b := by simpa using hf
    all_goals have fx := And.intro h1 <| h2
    repeat' (first
     | refine w_seq ?_ | refine w_reg fun K hK => ?_
     | ((with_reducible refine s_end hK ?_); clear hK K)
     | (with_reducible first | refine then_normal ?_)
     | refine w_exit ?_
     | refine w_ret ?_
     | (with_reducible first | refine s_none ?_ | refine x_assign (h := ?_))
     | (with_reducible refine x_q (h := ?_))
     | fail)
    all_goals try clear fx
    rw [inside_end hj] at ho
    refine e_ret [] .nil (by simp; rfl) ?_
    rw [← ho]
    rfl
theorem read_fnU (gl) (p : Prg) (b : Nat) (k : Blk) (hk : p[b]? = some k) (hs : BSm k) : FnOk Tryz.prog gl 175 [pav p, iv b] (fun r y H' => y = .hs r 1 0 k.rd.length ∧ H' r = some (.row 1 (irows k.rd))) := read_fn gl p b k hk hs.body
theorem used_fn (gl) (p : Prg) (b : Nat) (k : Blk) (hk : p[b]? = some k) (hs : BSm k) : FnOk Tryz.prog gl 141 [pav p, iv b] (fun r y H' => y = .hs r 1 0 k.us.length ∧ H' r = some (.row 1 (irows k.us))) := by
  have l1 := k.rd_len
  have l2 := k.bd_len
  have l3 := k.dc_len 9
  have l4 := k.dc_len 10
  have t1 : (k.rd ++ k.bd).take (k.rd.length + k.bd.length) = k.rd ++ k.bd := List.take_of_length_le (by simp)
  have t2 : (k.rd ++ (k.bd ++ k.dc 9)).take (k.rd.length + k.bd.length + (k.dc 9).length) = k.rd ++ (k.bd ++ k.dc 9) := List.take_of_length_le (by simp; omega)
  have hu : k.us = sorted (k.rd ++ (k.bd ++ (k.dc 9 ++ k.dc 10))) := by simp [Blk.us]
  rw [hu]
  refine FnOk.of_sem Tryz.func141 rfl (by kernel_rfl) (rs := [.tmp 4]) rfl Tryz.ntmps141 (Nat.le_of_ble_eq_true rfl) fun C w g root => ?_
  all_goals have fx := And.intro hk <| And.intro t1 <| t2
  repeat' (first
   | refine w_seq ?_ | refine w_reg fun K hK => ?_
   | ((with_reducible refine s_end hK ?_); clear hK K)
   | (with_reducible first | refine then_normal ?_ | refine s_nil ?_)
   | refine w_ret ?_
   | (with_reducible first | refine s_none ?_ | refine x_assign (h := ?_) | refine x_box (h := ?_) | refine x_append (T := 41) (h := ?_))
   | ((with_reducible refine o_id 175 rfl ?_); refine x_callh (hF := read_fnU _ p b k hk hs) (h := ?_))
   | ((with_reducible refine o_id 174 rfl ?_); refine x_callh (hF := bound_fn _ p b k hk hs) (h := ?_))
   | ((with_reducible refine o_id 87 rfl ?_); refine x_callh (hF := declared_fn _ p b k _ hk hs) (h := ?_))
   | ((with_reducible refine o_id 138 rfl ?_); refine x_callh (hF := sorted_fn _ (k.rd ++ (k.bd ++ (k.dc 9 ++ k.dc 10))) (by simp; omega)) (h := ?_))
   | (refine wSc (id := 1) (.q 0 <| .q 1 <| .q 3 <| .q 4 <| .q 7 <| .q 8 <| .q 11 <| .q 12 <| .l 2 [12, 11, 8, 7, 4, 3] <| .l 5 [12, 11, 8, 7] <| .l 6 [12, 11, 8, 7] <| .l 9 [12, 11] <| .l 10 [12, 11] <| .l 13 [] <| .l 14 [] <| .l 15 [] <| .l 16 [] <| .done) mixed fun K hK => ?_)
   | ((with_reducible refine a_end hK ?_); clear hK K)
   | ((with_reducible refine a_id ?_); first | refine xa_q (h := ?_))
   | refine a_l rfl ?_ | (with_reducible refine And.intro ?_ ?_) | exact st_nil | refine xa_st (h2 := ?_)
   | fail)
  all_goals try clear fx
  all_goals
    exact e_list (t := 4) (by first | (simp []; done) | (simp []; rfl)) (by first | (simp []; done) | (simp []; rfl)) (by simp)
abbrev qsKa0 : Sch := .q 0 <| .q 1 <| .q 2 <| .q 3 <| .q 4 <| .q 5 <| .q 7 <| .l 6 [7, 4, 3, 2] <| .q 8 <| .done
abbrev qsKa1 : Sch := .q 0 <| .q 1 <| .q 2 <| .q 3 <| .q 4 <| .q 5 <| .l 6 [4, 3, 2] <| .l 7 [] <| .done
theorem cellsRaw_next {p : Prg} {b c : Nat} (h : b + 1 ≤ c) : cellsRaw p b (c + 1 - (b + 1)) = cellsRaw p b (c - (b + 1)) ++ cellAt p b c := by
  rw [show c + 1 - (b + 1) = c - (b + 1) + 1 by omega, cellsRaw_succ, show b + 1 + (c - (b + 1)) = c by omega]
theorem freesRaw_next {p : Prg} {b c : Nat} (h : b ≤ c) : freesRaw p b (c + 1 - b) = freesRaw p b (c - b) ++ freeAt p b c := by
  rw [show c + 1 - b = c - b + 1 by omega, freesRaw_succ, show b + (c - b) = c by omega]
theorem cellNames_fn (gl) (p : Prg) (b : Nat) (k : Blk) (hk : p[b]? = some k) (hs : Sml p) (hh : Heads p) (hl7 : p.length ≤ 7) : FnOk Tryz.prog gl 92 [pav p, iv b] (fun r y H' => y = .hs r 1 0 (cellsL p b).length ∧ H' r = some (.row 1 (irows (cellsL p b)))) := by
  obtain ⟨hbl, hbE⟩ := gS hk
  have hka : kindAt p b = k.kind := by simp [kindAt, hk]
  have hw : IntKind.i64.wrap ((b : Int) + 1) = ((b + 1 : Nat) : Int) := by rw [wrp (by omega) (by omega)]; rfl
  refine FnOk.of_sem Tryz.func92 rfl (by kernel_rfl) (rs := [.tmp 4]) rfl Tryz.ntmps92 (Nat.le_of_ble_eq_true rfl) fun C w g root => ?_
  cases hkd : (k.kind == 1)
  · have hc : cellsL p b = sorted [] := by
      have : ¬ k.kind = 1 := by simpa using hkd
      simp [cellsL, hka, this]
      rfl
    rw [hc]
    have fx :=  hw
    refine k_run ?_
    repeat ((first | refine wSc (id := 9) qsKa0 mixed ?_); refine k_rund ?_; refine k_run ?_)
    clear fx
    refine w_loop (fun n st => n = 0 ∧ st.tm 1 = iv b ∧ st.tm 2 = .pt (.s 2) 0 ∧ st.hp (.s 2) = some (.row 1 [[ksl p]]) ∧ st.tm 6 = iv ((b + 1 : Nat) : Int) ∧ st.tm 5 = .hs (.s 5) 1 0 0 ∧ st.hp (.s 5) = some (.row 1 [])) 0 ?_ ?_
    · exact ⟨rfl, by simp⟩
    rintro n st - - ⟨rfl, h1, h2, hp2, h6, h5, hp5⟩
    generalize hc0 : b + 1 = c at h6
    by_cases hlt : c < p.length
    · skip
      have fx := And.intro h1 <| And.intro h2 <| And.intro hp2 <| And.intro h6 <| And.intro h5 <| And.intro hp5 <| And.intro hk <| And.intro hbE <| And.intro hkd <| And.intro hlt <| hbl
      have d1 := sorted_fn gl [] (by simp)
      refine k_run ?_
      repeat ((first | refine wSc (id := 9) qsKa0 mixed ?_); refine k_rund ?_; refine k_run ?_)
      clear fx d1
      exact e_list (t := 4) (by first | (simp []; done) | (simp []; rfl)) (by first | (simp []; done) | (simp []; rfl)) (by simp)
    · skip
      have fx := And.intro h1 <| And.intro h2 <| And.intro hp2 <| And.intro h6 <| And.intro h5 <| And.intro hp5 <| And.intro hk <| And.intro hbE <| And.intro hkd <| And.intro hlt <| hbl
      have d1 := sorted_fn gl [] (by simp)
      refine k_run ?_
      repeat ((first | refine wSc (id := 9) qsKa0 mixed ?_); refine k_rund ?_; refine k_run ?_)
      clear fx d1
      exact e_list (t := 4) (by first | (simp []; done) | (simp []; rfl)) (by first | (simp []; done) | (simp []; rfl)) (by simp)
  have hc : cellsL p b = sorted (cellsRaw p b (p.length - (b + 1))) := by
    have : k.kind = 1 := by simpa using hkd
    simp [cellsL, hka, this]
  rw [hc]
  have fx :=  hw
  refine k_run ?_
  repeat ((first | refine wSc (id := 9) qsKa0 mixed ?_); refine k_rund ?_; refine k_run ?_)
  clear fx
  refine w_loop (fun n st => ∃ c : Nat, n = p.length - c ∧ b + 1 ≤ c ∧ c ≤ p.length ∧ st.tm 1 = iv b ∧ st.tm 2 = .pt (.s 2) 0 ∧ st.hp (.s 2) = some (.row 1 [[ksl p]]) ∧ st.tm 6 = iv c ∧ st.tm 5 = .hs (.s 5) 1 0 (cellsRaw p b (c - (b + 1))).length ∧ st.hp (.s 5) = some (.row 1 (irows (cellsRaw p b (c - (b + 1)))))) (p.length - (b + 1)) ?_ ?_
  · exact ⟨b + 1, rfl, by omega, by omega, by simp, by simp, by simp, by simp, by simp [cellsRaw, joined], by simp [cellsRaw, joined]⟩
  rintro n st - - ⟨c, rfl, hc1, hc2, h1, h2, hp2, h6, h5, hp5⟩
  have hcl := freesRaw_len (p := p) (b := b) (n := c)
  have hrl := cellsRaw_len (p := p) (b := b) (n := c - (b + 1))
  by_cases hlt : c < p.length
  · obtain ⟨q, hq⟩ : ∃ q, p[c]? = some q := ⟨_, gE hlt⟩
    have hul := q.us_len
    have hnext := cellsRaw_next (p := p) hc1
    have hat : cellAt p b c = q.us.filter (cellIn p b c) := by simp [cellAt, hq]
    rw [hat] at hnext
    generalize hR : cellsRaw p b (c - (b + 1)) = R at h5 hp5 hnext hrl
    have fx := And.intro h1 <| And.intro h2 <| And.intro hp2 <| And.intro h6 <| And.intro h5 <| And.intro hp5 <| And.intro hk <| And.intro hbE <| And.intro hkd <| And.intro hlt <| And.intro hbl <| hq
    have d1 := used_fn gl p c q hq (hs.bsm hq)
    refine k_run ?_
    repeat ((first | refine wSc (id := 9) qsKa0 mixed ?_); refine k_rund ?_; refine k_run ?_)
    clear fx d1
    refine w_loop (fun n st => ∃ i : Nat, n = q.us.length - i ∧ i ≤ q.us.length ∧ st.tm 1 = iv b ∧ st.tm 2 = .pt (.s 2) 0 ∧ st.hp (.s 2) = some (.row 1 [[ksl p]]) ∧ st.tm 6 = iv c ∧ st.tm 7 = .hs (.s 7) 1 0 q.us.length ∧ st.hp (.s 7) = some (.row 1 (irows q.us)) ∧ st.tm 8 = iv i ∧ st.tm 5 = .hs (.s 5) 1 0 (R ++ (q.us.take i).filter (cellIn p b c)).length ∧ st.hp (.s 5) = some (.row 1 (irows (R ++ (q.us.take i).filter (cellIn p b c))))) q.us.length ?_ ?_
    · exact ⟨0, by omega, by omega, by simp [h1], by simp [h2], by simp [hp2], by simp [h6], by simp, by simp, by simp, by simp [h5], by simp [hp5]⟩
    clear h1 h2 hp2 h6 h5 hp5
    rintro n st - - ⟨i, rfl, hi, h1, h2, hp2, h6, h7, hp7, h8, h5, hp5⟩
    have hfl : ((q.us.take i).filter (cellIn p b c)).length ≤ 8 := filter_len8 (Nat.le_trans (List.length_take_le' _ _) hul)
    have hLl : (R ++ (q.us.take i).filter (cellIn p b c)).length ≤ 1000 := by simp; omega
    by_cases hil : i < q.us.length
    · obtain ⟨u, hu⟩ : ∃ u, q.us[i]? = some u := ⟨_, gE hil⟩
      obtain ⟨_, huE⟩ := gS hu
      have hnx : R ++ (q.us.take (i + 1)).filter (cellIn p b c) = R ++ (q.us.take i).filter (cellIn p b c) ++ (if cellIn p b c u = true then [u] else []) := by rw [take_succ_filter hu, List.append_assoc]
      generalize hL : R ++ (q.us.take i).filter (cellIn p b c) = L at h5 hp5 hnx hLl
      cases ho : (owner p c u == (b : Int))
      · rw [if_neg (by simp only [cellIn, ho]; decide), List.append_nil] at hnx
        have fx := And.intro h1 <| And.intro h2 <| And.intro hp2 <| And.intro h6 <| And.intro h7 <| And.intro hp7 <| And.intro h8 <| And.intro h5 <| And.intro hp5 <| And.intro hq <| And.intro hu <| And.intro huE <| And.intro hil <| ho
        have c1 := owner_fn gl p c q u hq hs hh
        refine k_run ?_
        repeat ((first | refine wSc (id := 9) qsKa0 mixed ?_); refine k_rund ?_; refine k_run ?_)
        clear fx c1
        exact ⟨q.us.length - (i + 1), by omega, i + 1, rfl, by omega, by simp [h1], by simp [h2], by simp [hp2], by simp [h6], by simp [h7], by simp [hp7], by simp; exact wrp (by omega) (by omega), by simp [hnx, h5], by simp [hnx, hp5]⟩
      · rw [if_pos (by simp only [cellIn, ho])] at hnx
        have fx := And.intro h1 <| And.intro h2 <| And.intro hp2 <| And.intro h6 <| And.intro h7 <| And.intro hp7 <| And.intro h8 <| And.intro h5 <| And.intro hp5 <| And.intro hq <| And.intro hu <| And.intro huE <| And.intro hil <| And.intro ho <| hLl
        have c1 := owner_fn gl p c q u hq hs hh
        refine k_run ?_
        repeat ((first | refine wSc (id := 9) qsKa0 mixed ?_); refine k_rund ?_; refine k_run ?_)
        clear fx c1
        refine ⟨q.us.length - (i + 1), by omega, i + 1, rfl, by omega, by simp [h1], by simp [h2], by simp [hp2], by simp [h6], by simp [h7], by simp [hp7], by simp; exact wrp (by omega) (by omega), by simp [hnx, h5], ?_⟩
        rw [hnx]
        simp [hp5, irows]
    · have hge : i = q.us.length := by omega
      rw [hge, List.take_length, ← hnext] at h5 hp5
      have fx := And.intro h1 <| And.intro h2 <| And.intro hp2 <| And.intro h6 <| And.intro h7 <| And.intro hp7 <| And.intro h8 <| hil
      refine k_run ?_
      repeat ((first | refine wSc (id := 9) qsKa0 mixed ?_); refine k_rund ?_; refine k_run ?_)
      clear fx
      exact ⟨p.length - (c + 1), by omega, c + 1, rfl, by omega, by omega, by simp [h1], by simp [h2], by simp [hp2], by simp [h6]; exact wrp (by omega) (by omega), by simp [h5], by simp [hp5]⟩
  · have hge : c = p.length := by omega
    subst hge
    have fx := And.intro h1 <| And.intro h2 <| And.intro hp2 <| And.intro h6 <| And.intro h5 <| And.intro hp5 <| And.intro hk <| And.intro hbE <| And.intro hkd <| And.intro hlt <| hbl
    have d1 := sorted_fn gl (cellsRaw p b (p.length - (b + 1))) (by omega)
    refine k_run ?_
    repeat ((first | refine wSc (id := 9) qsKa0 mixed ?_); refine k_rund ?_; refine k_run ?_)
    clear fx d1
    exact e_list (t := 4) (by first | (simp []; done) | (simp []; rfl)) (by first | (simp []; done) | (simp []; rfl)) (by simp)
theorem frees_fn (gl) (p : Prg) (b : Nat) (hbl : b < p.length) (hs : Sml p) (hh : Heads p) (hl7 : p.length ≤ 7) : FnOk Tryz.prog gl 93 [pav p, iv b] (fun r y H' => y = .hs r 1 0 (freesL p b).length ∧ H' r = some (.row 1 (irows (freesL p b)))) := by
  have hc : freesL p b = sorted (freesRaw p b (p.length - b)) := rfl
  rw [hc]
  refine FnOk.of_sem Tryz.func93 rfl (by kernel_rfl) (rs := [.tmp 4]) rfl Tryz.ntmps93 (Nat.le_of_ble_eq_true rfl) fun C w g root => ?_
  have fx := fx0
  refine k_run ?_
  repeat ((first | refine wSc (id := 9) qsKa1 mixed ?_); refine k_rund ?_; refine k_run ?_)
  clear fx
  refine w_loop (fun n st => ∃ c : Nat, n = p.length - c ∧ b ≤ c ∧ c ≤ p.length ∧ st.tm 1 = iv b ∧ st.tm 2 = .pt (.s 2) 0 ∧ st.hp (.s 2) = some (.row 1 [[ksl p]]) ∧ st.tm 6 = iv c ∧ st.tm 5 = .hs (.s 5) 1 0 (freesRaw p b (c - b)).length ∧ st.hp (.s 5) = some (.row 1 (irows (freesRaw p b (c - b))))) (p.length - b) ?_ ?_
  · exact ⟨b, rfl, by omega, by omega, by simp, by simp, by simp, by simp, by simp [freesRaw, joined], by simp [freesRaw, joined]⟩
  rintro n st - - ⟨c, rfl, hc1, hc2, h1, h2, hp2, h6, h5, hp5⟩
  have hrl := freesRaw_len (p := p) (b := b) (n := c - b)
  by_cases hlt : c < p.length
  · obtain ⟨q, hq⟩ : ∃ q, p[c]? = some q := ⟨_, gE hlt⟩
    have hul := q.us_len
    have hnext := freesRaw_next (p := p) hc1
    cases hin : inside p c b
    · have hat : freeAt p b c = [] := by simp [freeAt, hq, hin]
      rw [hat, List.append_nil] at hnext
      generalize hR : freesRaw p b (c - b) = R at h5 hp5 hnext hrl
      have fx := And.intro h1 <| And.intro h2 <| And.intro hp2 <| And.intro h6 <| And.intro h5 <| And.intro hp5 <| And.intro hlt <| hq
      have d1 := used_fn gl p c q hq (hs.bsm hq)
      refine k_run ?_
      repeat ((first | refine wSc (id := 9) qsKa1 mixed ?_); refine k_rund ?_; refine k_run ?_)
      clear fx d1
      refine w_loop (fun n st => n = 0 ∧ st.tm 1 = iv b ∧ st.tm 2 = .pt (.s 2) 0 ∧ st.hp (.s 2) = some (.row 1 [[ksl p]]) ∧ st.tm 6 = iv c ∧ st.tm 7 = .hs (.s 7) 1 0 q.us.length ∧ st.hp (.s 7) = some (.row 1 (irows q.us)) ∧ st.tm 8 = iv 0 ∧ st.tm 5 = .hs (.s 5) 1 0 R.length ∧ st.hp (.s 5) = some (.row 1 (irows R))) 0 ?_ ?_
      · exact ⟨rfl, by simp [h1], by simp [h2], by simp [hp2], by simp [h6], by simp, by simp, by simp, by simp [h5], by simp [hp5]⟩
      clear h1 h2 hp2 h6 h5 hp5
      rintro n st - - ⟨rfl, h1, h2, hp2, h6, h7, hp7, h8, h5, hp5⟩
      by_cases hu0 : 0 < q.us.length
      · skip
        have fx := And.intro h1 <| And.intro h2 <| And.intro hp2 <| And.intro h6 <| And.intro h7 <| And.intro hp7 <| And.intro h8 <| And.intro h5 <| And.intro hp5 <| And.intro hq <| And.intro hu0 <| hin
        have c1 := inside_fn gl p c b hs hh hlt
        refine k_run ?_
        repeat ((first | refine wSc (id := 9) qsKa1 mixed ?_); refine k_rund ?_; refine k_run ?_)
        clear fx c1
        exact ⟨p.length - (c + 1), by omega, c + 1, rfl, by omega, by omega, by simp [h1], by simp [h2], by simp [hp2], by simp [h6]; exact wrp (by omega) (by omega), by simp [hnext, h5], by simp [hnext, hp5]⟩
      · skip
        have fx := And.intro h1 <| And.intro h2 <| And.intro hp2 <| And.intro h6 <| And.intro h7 <| And.intro hp7 <| And.intro h8 <| And.intro h5 <| And.intro hp5 <| And.intro hq <| And.intro hu0 <| hin
        have c1 := inside_fn gl p c b hs hh hlt
        refine k_run ?_
        repeat ((first | refine wSc (id := 9) qsKa1 mixed ?_); refine k_rund ?_; refine k_run ?_)
        clear fx c1
        exact ⟨p.length - (c + 1), by omega, c + 1, rfl, by omega, by omega, by simp [h1], by simp [h2], by simp [hp2], by simp [h6]; exact wrp (by omega) (by omega), by simp [hnext, h5], by simp [hnext, hp5]⟩
    have hat : freeAt p b c = q.us.filter (freeIn p b c) := by simp [freeAt, hq, hin]
    rw [hat] at hnext
    generalize hR : freesRaw p b (c - b) = R at h5 hp5 hnext hrl
    have fx := And.intro h1 <| And.intro h2 <| And.intro hp2 <| And.intro h6 <| And.intro h5 <| And.intro hp5 <| And.intro hlt <| hq
    have d1 := used_fn gl p c q hq (hs.bsm hq)
    refine k_run ?_
    repeat ((first | refine wSc (id := 9) qsKa1 mixed ?_); refine k_rund ?_; refine k_run ?_)
    clear fx d1
    refine w_loop (fun n st => ∃ i : Nat, n = q.us.length - i ∧ i ≤ q.us.length ∧ st.tm 1 = iv b ∧ st.tm 2 = .pt (.s 2) 0 ∧ st.hp (.s 2) = some (.row 1 [[ksl p]]) ∧ st.tm 6 = iv c ∧ st.tm 7 = .hs (.s 7) 1 0 q.us.length ∧ st.hp (.s 7) = some (.row 1 (irows q.us)) ∧ st.tm 8 = iv i ∧ st.tm 5 = .hs (.s 5) 1 0 (R ++ (q.us.take i).filter (freeIn p b c)).length ∧ st.hp (.s 5) = some (.row 1 (irows (R ++ (q.us.take i).filter (freeIn p b c))))) q.us.length ?_ ?_
    · exact ⟨0, by omega, by omega, by simp [h1], by simp [h2], by simp [hp2], by simp [h6], by simp, by simp, by simp, by simp [h5], by simp [hp5]⟩
    clear h1 h2 hp2 h6 h5 hp5
    rintro n st - - ⟨i, rfl, hi, h1, h2, hp2, h6, h7, hp7, h8, h5, hp5⟩
    have hfl : ((q.us.take i).filter (freeIn p b c)).length ≤ 8 := filter_len8 (Nat.le_trans (List.length_take_le' _ _) hul)
    have hLl : (R ++ (q.us.take i).filter (freeIn p b c)).length ≤ 1000 := by simp; omega
    by_cases hil : i < q.us.length
    · obtain ⟨u, hu⟩ : ∃ u, q.us[i]? = some u := ⟨_, gE hil⟩
      obtain ⟨_, huE⟩ := gS hu
      have hnx : R ++ (q.us.take (i + 1)).filter (freeIn p b c) = R ++ (q.us.take i).filter (freeIn p b c) ++ (if freeIn p b c u = true then [u] else []) := by rw [take_succ_filter hu, List.append_assoc]
      generalize hL : R ++ (q.us.take i).filter (freeIn p b c) = L at h5 hp5 hnx hLl
      have no : freeIn p b c u = false → R ++ (q.us.take (i + 1)).filter (freeIn p b c) = L := fun h => by rw [hnx, h, if_neg (by decide), List.append_nil]
      cases ho : decide (0 < owner p c u)
      · have hno := no (by simp only [freeIn, ho]; rfl)
        have fx := And.intro h1 <| And.intro h2 <| And.intro hp2 <| And.intro h6 <| And.intro h7 <| And.intro hp7 <| And.intro h8 <| And.intro h5 <| And.intro hp5 <| And.intro hq <| And.intro hu <| And.intro huE <| And.intro hil <| And.intro hin <| ho
        have c1 := inside_fn gl p c b hs hh hlt
        have c2 := owner_fn gl p c q u hq hs hh
        refine k_run ?_
        repeat ((first | refine wSc (id := 9) qsKa1 mixed ?_); refine k_rund ?_; refine k_run ?_)
        clear fx c1 c2
        exact ⟨q.us.length - (i + 1), by omega, i + 1, rfl, by omega, by simp [h1], by simp [h2], by simp [hp2], by simp [h6], by simp [h7], by simp [hp7], by simp; exact wrp (by omega) (by omega), by simp [hno, h5], by simp [hno, hp5]⟩
      cases ho2 : decide (owner p c u < b)
      · have hno := no (by simp only [freeIn, ho2]; simp)
        have fx := And.intro h1 <| And.intro h2 <| And.intro hp2 <| And.intro h6 <| And.intro h7 <| And.intro hp7 <| And.intro h8 <| And.intro h5 <| And.intro hp5 <| And.intro hq <| And.intro hu <| And.intro huE <| And.intro hil <| And.intro hin <| And.intro ho <| ho2
        have c1 := inside_fn gl p c b hs hh hlt
        have c2 := owner_fn gl p c q u hq hs hh
        refine k_run ?_
        repeat ((first | refine wSc (id := 9) qsKa1 mixed ?_); refine k_rund ?_; refine k_run ?_)
        clear fx c1 c2
        exact ⟨q.us.length - (i + 1), by omega, i + 1, rfl, by omega, by simp [h1], by simp [h2], by simp [hp2], by simp [h6], by simp [h7], by simp [hp7], by simp; exact wrp (by omega) (by omega), by simp [hno, h5], by simp [hno, hp5]⟩
      · rw [if_pos (by simp only [freeIn, ho, ho2]; rfl)] at hnx
        have fx := And.intro h1 <| And.intro h2 <| And.intro hp2 <| And.intro h6 <| And.intro h7 <| And.intro hp7 <| And.intro h8 <| And.intro h5 <| And.intro hp5 <| And.intro hq <| And.intro hu <| And.intro huE <| And.intro hil <| And.intro hin <| And.intro ho <| And.intro ho2 <| hLl
        have c1 := inside_fn gl p c b hs hh hlt
        have c2 := owner_fn gl p c q u hq hs hh
        refine k_run ?_
        repeat ((first | refine wSc (id := 9) qsKa1 mixed ?_); refine k_rund ?_; refine k_run ?_)
        clear fx c1 c2
        refine ⟨q.us.length - (i + 1), by omega, i + 1, rfl, by omega, by simp [h1], by simp [h2], by simp [hp2], by simp [h6], by simp [h7], by simp [hp7], by simp; exact wrp (by omega) (by omega), by simp [hnx, h5], ?_⟩
        rw [hnx]
        simp [hp5, irows]
    · have hge : i = q.us.length := by omega
      rw [hge, List.take_length, ← hnext] at h5 hp5
      have fx := And.intro h1 <| And.intro h2 <| And.intro hp2 <| And.intro h6 <| And.intro h7 <| And.intro hp7 <| And.intro h8 <| And.intro hil <| hin
      have c1 := inside_fn gl p c b hs hh hlt
      refine k_run ?_
      repeat ((first | refine wSc (id := 9) qsKa1 mixed ?_); refine k_rund ?_; refine k_run ?_)
      clear fx c1
      exact ⟨p.length - (c + 1), by omega, c + 1, rfl, by omega, by omega, by simp [h1], by simp [h2], by simp [hp2], by simp [h6]; exact wrp (by omega) (by omega), by simp [h5], by simp [hp5]⟩
  · have hge : c = p.length := by omega
    subst hge
    have fx := And.intro h1 <| And.intro h2 <| And.intro hp2 <| And.intro h6 <| And.intro h5 <| And.intro hp5 <| hlt
    have d1 := sorted_fn gl (freesRaw p b (p.length - b)) (by omega)
    refine k_run ?_
    repeat ((first | refine wSc (id := 9) qsKa1 mixed ?_); refine k_rund ?_; refine k_run ?_)
    clear fx d1
    exact e_list (t := 4) (by first | (simp []; done) | (simp []; rfl)) (by first | (simp []; done) | (simp []; rfl)) (by simp)
end Go.Proofs.YtmaoicgfcngciaaGreatDoor
end
section
namespace Go.Proofs.YtmaoicgfcngciaaGreatDoor
open Go Go.Hm Go.Proofs
structure LookP (p : Prg) : Prop where
  sml : Sml p
  sh : ShapeP p
theorem LookP.heads {p : Prg} (h : LookP p) : Heads p := h.sh.heads
theorem LookP.len {p : Prg} (h : LookP p) : p.length ≤ 7 := h.sh.len.2
theorem fasts_fn (gl) (p : Prg) (b : Nat) (k : Blk) (hk : p[b]? = some k) (hP : LookP p) : FnOk Tryz.prog gl 91 [pav p, iv b] (fun r y H' => y = .hs r 1 0 (fastsL p b).length ∧ H' r = some (.row 1 (irows (fastsL p b)))) := by
  have hs := hP.sml
  have hh := hP.heads
  have hl7 := hP.len
  obtain ⟨hbl, hbE⟩ := gS hk
  have hka : kindAt p b = k.kind := by simp [kindAt, hk]
  have hcl := cellsL_len (p := p) (b := b)
  refine FnOk.of_sem Tryz.func91 rfl (by kernel_rfl) (rs := [.tmp 4]) rfl Tryz.ntmps91 (Nat.le_of_ble_eq_true rfl) fun C w g root => ?_
  cases hkd : (k.kind == 1)
  · have hc : fastsL p b = [] := by
      have : ¬ k.kind = 1 := by simpa using hkd
      simp [fastsL, hka, this]
    rw [hc]
    all_goals have fx := fx0
    repeat' (first
     | refine w_seq ?_ | refine w_block ?_ | refine w_reg fun K hK => ?_
     | ((with_reducible refine s_end hK ?_); clear hK K)
     | (with_reducible refine s_none ?_)
     | (with_reducible first | refine x_assign (h := ?_) | refine x_box (h := ?_) | refine x_build (h := ?_))
     | ((with_reducible refine o_id 92 rfl ?_); refine x_callh (hF := cellNames_fn _ p b k hk hs hh hl7) (h := ?_))
     | (with_reducible refine x_q (h := ?_))
     | fail)
    all_goals try clear fx
    refine w_loop (fun n st => n = 0 ∧ st.tm 1 = iv b ∧ st.tm 2 = .pt (.s 2) 0 ∧ st.hp (.s 2) = some (.row 1 [[ksl p]]) ∧ st.tm 7 = iv 0 ∧ st.tm 5 = .hs (.s 5) 1 0 0 ∧ st.hp (.s 5) = some (.row 1 [])) 0 ?_ ?_
    · exact ⟨rfl, by simp⟩
    rintro n st - - ⟨rfl, h1, h2, hp2, h7, h5, hp5⟩
    all_goals have fx := And.intro h1 <| And.intro h2 <| And.intro hp2 <| And.intro h7 <| And.intro h5 <| And.intro hp5 <| And.intro hk <| And.intro hbE <| And.intro hkd <| hbl
    repeat' (first
     | refine w_seq ?_ | refine w_reg fun K hK => ?_
     | ((with_reducible refine s_end hK ?_); clear hK K)
     | (with_reducible first | refine then_normal ?_)
     | refine w_exit ?_
     | refine w_ret ?_
     | (with_reducible refine s_none ?_)
     | ((with_reducible refine g_id ?_); refine x_guard (h := ?_))
     | (with_reducible first | refine gx_tt ?_ | refine x_assign (h := ?_))
     | (with_reducible refine x_q (h := ?_))
     | refine x_condf (h1 := ?_)
     | fail)
    all_goals try clear fx
    exact e_list (t := 4) (by first | (simp [hp5]; done) | (simp [hp5]; rfl)) (by first | (simp [hp5]; done) | (simp [hp5]; rfl)) (by simp)
  have hc : fastsL p b = picked (fastIn p b) 8 := by
    have : k.kind = 1 := by simpa using hkd
    simp [fastsL, hka, this]
  rw [hc]
  all_goals have fx := fx0
  repeat' (first
   | refine w_seq ?_ | refine w_block ?_ | refine w_reg fun K hK => ?_
   | ((with_reducible refine s_end hK ?_); clear hK K)
   | (with_reducible refine s_none ?_)
   | (with_reducible first | refine x_assign (h := ?_) | refine x_box (h := ?_) | refine x_build (h := ?_))
   | ((with_reducible refine o_id 92 rfl ?_); refine x_callh (hF := cellNames_fn _ p b k hk hs hh hl7) (h := ?_))
   | (with_reducible refine x_q (h := ?_))
   | fail)
  all_goals try clear fx
  refine w_loop (fun n st => ∃ x : Nat, n = 8 - x ∧ x ≤ 8 ∧ st.tm 1 = iv b ∧ st.tm 2 = .pt (.s 2) 0 ∧ st.hp (.s 2) = some (.row 1 [[ksl p]]) ∧ st.tm 7 = iv x ∧ st.tm 6 = .hs (.s 6) 1 0 (cellsL p b).length ∧ st.hp (.s 6) = some (.row 1 (irows (cellsL p b))) ∧ st.tm 5 = .hs (.s 5) 1 0 (picked (fastIn p b) x).length ∧ st.hp (.s 5) = some (.row 1 (irows (picked (fastIn p b) x)))) 8 ?_ ?_
  · exact ⟨0, by omega, by omega, by simp, by simp, by simp, by simp, by simp, by simp, by simp [picked], by simp [picked]⟩
  rintro n st - - ⟨x, rfl, hx, h1, h2, hp2, h7, h6, hp6, h5, hp5⟩
  have hll := picked_len (f := fastIn p b) x
  by_cases hlt : x < 8
  · have hx7 : (x : Int) ≤ 7 := by omega
    have hfi : fastIn p b x = (isLocal b k x && !decide ((x : Int) ∈ cellsL p b)) := by simp only [fastIn, hk]
    have hnext : picked (fastIn p b) (x + 1) = if fastIn p b x = true then picked (fastIn p b) x ++ [(x : Int)] else picked (fastIn p b) x := rfl
    generalize hL : picked (fastIn p b) x = L at h5 hp5 hnext hll
    cases hlo : isLocal b k x
    · rw [if_neg (by rw [hfi, hlo]; simp)] at hnext
      all_goals have fx := And.intro h1 <| And.intro h2 <| And.intro hp2 <| And.intro h7 <| And.intro h6 <| And.intro hp6 <| And.intro h5 <| And.intro hp5 <| And.intro hk <| And.intro hbE <| And.intro hkd <| And.intro hbl <| And.intro hx7 <| hlo
      repeat' (first
       | refine w_seq ?_ | refine w_block ?_ | refine w_skip ?_ | refine w_reg fun K hK => ?_
       | ((with_reducible refine s_end hK ?_); clear hK K)
       | (with_reducible first | refine then_normal ?_)
       | (with_reducible refine s_none ?_)
       | ((with_reducible refine g_id ?_); refine x_guard (h := ?_))
       | (with_reducible first | refine gx_tt ?_ | refine x_tf (h := ?_) | refine x_assign (h := ?_))
       | ((with_reducible refine o_id 140 rfl ?_); refine x_call (hF := isLocal_fn _ p b k x hk (hs.bsm hk)) (h := ?_))
       | (with_reducible refine x_q (h := ?_))
       | refine x_condt (h1 := ?_) | refine x_condf (h1 := ?_)
       | fail)
      all_goals try clear fx
      exact ⟨8 - (x + 1), by omega, x + 1, rfl, by omega, by simp [h1], by simp [h2], by simp [hp2], by simp [h7]; exact wrp (by omega) (by omega), by simp [h6], by simp [hp6], by simp [hnext, h5], by simp [hnext, hp5]⟩
    cases hce : decide ((x : Int) ∈ cellsL p b)
    rotate_left
    · rw [if_neg (by rw [hfi, hlo, hce]; decide)] at hnext
      all_goals have fx := And.intro h1 <| And.intro h2 <| And.intro hp2 <| And.intro h7 <| And.intro h6 <| And.intro hp6 <| And.intro h5 <| And.intro hp5 <| And.intro hk <| And.intro hbE <| And.intro hkd <| And.intro hbl <| And.intro hx7 <| And.intro hlo <| hce
      repeat' (first
       | refine w_seq ?_ | refine w_block ?_ | refine w_skip ?_ | refine w_reg fun K hK => ?_
       | ((with_reducible refine s_end hK ?_); clear hK K)
       | (with_reducible first | refine then_normal ?_)
       | (with_reducible refine s_none ?_)
       | ((with_reducible refine g_id ?_); refine x_guard (h := ?_))
       | (with_reducible first | refine gx_tt ?_ | refine x_assign (h := ?_))
       | ((with_reducible refine o_id 140 rfl ?_); refine x_call (hF := isLocal_fn _ p b k x hk (hs.bsm hk)) (h := ?_))
       | ((with_reducible refine o_id 88 rfl ?_); refine x_call (hF := has_fn _ _ _ (Nat.le_trans cellsL_len (by decide))) (h := ?_))
       | (with_reducible refine x_q (h := ?_))
       | refine x_condt (h1 := ?_) | refine x_condf (h1 := ?_)
       | fail)
      all_goals try clear fx
      exact ⟨8 - (x + 1), by omega, x + 1, rfl, by omega, by simp [h1], by simp [h2], by simp [hp2], by simp [h7]; exact wrp (by omega) (by omega), by simp [h6], by simp [hp6], by simp [hnext, h5], by simp [hnext, hp5]⟩
    · rw [if_pos (by rw [hfi, hlo, hce]; rfl)] at hnext
      all_goals have fx := And.intro h1 <| And.intro h2 <| And.intro hp2 <| And.intro h7 <| And.intro h6 <| And.intro hp6 <| And.intro h5 <| And.intro hp5 <| And.intro hk <| And.intro hbE <| And.intro hkd <| And.intro hbl <| And.intro hx7 <| And.intro hlo <| hce
      repeat' (first
       | refine w_seq ?_ | refine w_block ?_ | refine w_skip ?_ | refine w_reg fun K hK => ?_
       | ((with_reducible refine s_end hK ?_); clear hK K)
       | (with_reducible first | refine then_normal ?_)
       | (with_reducible refine s_none ?_)
       | ((with_reducible refine g_id ?_); refine x_guard (h := ?_))
       | (with_reducible first | refine gx_tt ?_ | refine x_assign (h := ?_) | refine x_append (T := 41) (h := ?_) | refine x_build (h := ?_))
       | ((with_reducible refine o_id 140 rfl ?_); refine x_call (hF := isLocal_fn _ p b k x hk (hs.bsm hk)) (h := ?_))
       | ((with_reducible refine o_id 88 rfl ?_); refine x_call (hF := has_fn _ _ _ (Nat.le_trans cellsL_len (by decide))) (h := ?_))
       | (with_reducible refine x_q (h := ?_))
       | refine x_condt (h1 := ?_)
       | fail)
      all_goals try clear fx
      refine ⟨8 - (x + 1), by omega, x + 1, rfl, by omega, by simp [h1], by simp [h2], by simp [hp2], by simp [h7]; exact wrp (by omega) (by omega), by simp [h6], by simp [hp6], by simp [hnext, h5], ?_⟩
      rw [hnext]
      simp [hp5, irows]
  · have hge : x = 8 := by omega
    subst hge
    all_goals have fx := And.intro h1 <| And.intro h2 <| And.intro hp2 <| And.intro h7 <| And.intro h5 <| And.intro hp5 <| And.intro hk <| And.intro hbE <| And.intro hkd <| hbl
    repeat' (first
     | refine w_seq ?_ | refine w_reg fun K hK => ?_
     | ((with_reducible refine s_end hK ?_); clear hK K)
     | (with_reducible first | refine then_normal ?_)
     | refine w_exit ?_
     | refine w_ret ?_
     | (with_reducible refine s_none ?_)
     | ((with_reducible refine g_id ?_); refine x_guard (h := ?_))
     | (with_reducible first | refine x_tf (h := ?_) | refine x_assign (h := ?_))
     | (with_reducible refine x_q (h := ?_))
     | refine x_condf (h1 := ?_)
     | fail)
    all_goals try clear fx
    exact e_list (t := 4) (by first | (simp [hp5]; done) | (simp [hp5]; rfl)) (by first | (simp [hp5]; done) | (simp [hp5]; rfl)) (by simp)
theorem cellPlace_fn (gl) (p : Prg) (b : Nat) (k : Blk) (x : Int) (hk : p[b]? = some k) (hP : LookP p) : FnOk Tryz.prog gl 177 [pav p, iv b, iv x] (fun _ y _ => y = iv (cellPl p b x)) := by
  have hs := hP.sml
  have hh := hP.heads
  have hl7 := hP.len
  have hbl := (gS hk).1
  have hcl := cellsL_len (p := p) (b := b)
  have hfl := freesL_len (p := p) (b := b)
  have hbd := placeIn_bd (xs := freesL p b) (x := x)
  have hw : IntKind.i64.wrap (((cellsL p b).length : Int) + placeIn (freesL p b) x) = (cellsL p b).length + placeIn (freesL p b) x := wrp (by omega) (by omega)
  refine FnOk.of_sem Tryz.func177 rfl (by kernel_rfl) (rs := [.tmp 6]) rfl Tryz.ntmps177 (Nat.le_of_ble_eq_true rfl) fun C w g root => ?_
  by_cases hm : x ∈ cellsL p b
  · have h0 : 0 ≤ placeIn (cellsL p b) x := placeIn_nonneg.2 hm
    all_goals have fx :=  h0
    repeat' (first
     | refine w_seq ?_ | refine w_skip ?_ | refine w_reg fun K hK => ?_
     | ((with_reducible refine s_end hK ?_); clear hK K)
     | (with_reducible first | refine then_normal ?_ | refine then_ret ?_)
     | refine w_ret ?_
     | (with_reducible first | refine s_none ?_ | refine x_assign (h := ?_) | refine x_box (h := ?_))
     | ((with_reducible refine o_id 92 rfl ?_); refine x_callh (hF := cellNames_fn _ p b k hk hs hh hl7) (h := ?_))
     | ((with_reducible refine o_id 139 rfl ?_); refine x_call (hF := placeIn_fn _ (cellsL p b) _ (by omega)) (h := ?_))
     | (with_reducible refine x_q (h := ?_))
     | refine x_condt (h1 := ?_) | refine x_condf (h1 := ?_)
     | fail)
    all_goals try clear fx
    refine e_ret [] .nil (by simp; rfl) ?_
    simp [cellPl, hm]
  · have h0 : ¬ 0 ≤ placeIn (cellsL p b) x := fun h => hm (placeIn_nonneg.1 h)
    all_goals have fx := And.intro h0 <| hw
    repeat' (first
     | refine w_seq ?_ | refine w_skip ?_ | refine w_reg fun K hK => ?_
     | ((with_reducible refine s_end hK ?_); clear hK K)
     | (with_reducible first | refine then_normal ?_ | refine then_ret ?_)
     | refine w_ret ?_
     | (with_reducible first | refine s_none ?_ | refine x_assign (h := ?_) | refine x_box (h := ?_))
     | ((with_reducible refine o_id 92 rfl ?_); refine x_callh (hF := cellNames_fn _ p b k hk hs hh hl7) (h := ?_))
     | ((with_reducible refine o_id 93 rfl ?_); refine x_callh (hF := frees_fn _ p b hbl hs hh hl7) (h := ?_))
     | ((with_reducible refine o_id 139 rfl ?_); refine x_call (hF := placeIn_fn _ (cellsL p b) _ (by omega)) (h := ?_))
     | ((with_reducible refine o_id 139 rfl ?_); refine x_call (hF := placeIn_fn _ (freesL p b) _ (by omega)) (h := ?_))
     | (with_reducible refine x_q (h := ?_))
     | refine x_condt (h1 := ?_) | refine x_condf (h1 := ?_)
     | fail)
    all_goals try clear fx
    refine e_ret [] .nil (by simp; rfl) ?_
    simp [cellPl, hm]
theorem symbol_fn (gl) (p : Prg) (b : Nat) (k : Blk) (x : Int) (hk : p[b]? = some k) (hP : LookP p) : FnOk Tryz.prog gl 176 [pav p, iv b, iv x] (fun _ y _ => y = iv (symOf p b x)) := by
  have hs := hP.sml
  have hh := hP.heads
  have hl7 := hP.len
  obtain ⟨hbl, hbE⟩ := gS hk
  have hka : kindAt p b = k.kind := by simp [kindAt, hk]
  refine FnOk.of_sem Tryz.func176 rfl (by kernel_rfl) (rs := [.tmp 6]) rfl Tryz.ntmps176 (Nat.le_of_ble_eq_true rfl) fun C w g root => ?_
  cases ho : decide (owner p b x < 0)
  rotate_left
  · skip
    all_goals have fx :=  ho
    repeat' (first
     | refine w_seq ?_ | refine w_block ?_ | refine w_skip ?_ | refine w_reg fun K hK => ?_
     | ((with_reducible refine s_end hK ?_); clear hK K)
     | (with_reducible first | refine then_normal ?_ | refine in_normal ?_ | refine then_ret ?_ | refine in_ret ?_)
     | refine w_ret ?_
     | (with_reducible first | refine s_none ?_ | refine x_assign (h := ?_) | refine x_box (h := ?_))
     | ((with_reducible refine o_id 142 rfl ?_); refine x_call (hF := owner_fn _ p b k x hk hs hh) (h := ?_))
     | (with_reducible refine x_q (h := ?_))
     | refine x_condt (h1 := ?_) | refine x_condf (h1 := ?_)
     | fail)
    all_goals try clear fx
    refine e_ret [] .nil (by simp; rfl) ?_
    have ho' : owner p b x < 0 := by simpa using ho
    simp [symOf, ho']
  cases hb : (owner p b x == (b : Int))
  · skip
    all_goals have fx := And.intro ho <| And.intro hb <| @bne_def
    repeat' (first
     | refine w_seq ?_ | refine w_block ?_ | refine w_skip ?_ | refine w_reg fun K hK => ?_
     | ((with_reducible refine s_end hK ?_); clear hK K)
     | (with_reducible first | refine then_normal ?_ | refine in_normal ?_ | refine then_ret ?_ | refine in_ret ?_)
     | refine w_ret ?_
     | (with_reducible first | refine s_none ?_ | refine x_assign (h := ?_) | refine x_box (h := ?_))
     | ((with_reducible refine o_id 142 rfl ?_); refine x_call (hF := owner_fn _ p b k x hk hs hh) (h := ?_))
     | (with_reducible refine x_q (h := ?_))
     | refine x_condt (h1 := ?_) | refine x_condf (h1 := ?_)
     | fail)
    all_goals try clear fx
    refine e_ret [] .nil (by simp; rfl) ?_
    have ho' : ¬ owner p b x < 0 := by simpa using ho
    have hb' : ¬ owner p b x = b := by simpa using hb
    simp only [symOf, if_neg ho', if_pos hb']
    rfl
  have hb' : owner p b x = b := by simpa using hb
  have hnl : ¬ owner p b x < 0 := by omega
  have hnn : ¬ owner p b x ≠ b := fun h => h hb'
  cases hkd : (k.kind == 2)
  rotate_left
  · skip
    all_goals have fx := And.intro ho <| And.intro hb <| And.intro @bne_def <| And.intro hk <| And.intro hbE <| And.intro hbl <| hkd
    repeat' (first
     | refine w_seq ?_ | refine w_block ?_ | refine w_skip ?_ | refine w_reg fun K hK => ?_
     | ((with_reducible refine s_end hK ?_); clear hK K)
     | (with_reducible first | refine then_normal ?_ | refine in_normal ?_ | refine then_ret ?_ | refine in_ret ?_)
     | refine w_ret ?_
     | (with_reducible first | refine s_none ?_ | refine x_assign (h := ?_) | refine x_box (h := ?_))
     | ((with_reducible refine o_id 142 rfl ?_); refine x_call (hF := owner_fn _ p b k x hk hs hh) (h := ?_))
     | (with_reducible refine x_q (h := ?_))
     | refine x_condt (h1 := ?_) | refine x_condf (h1 := ?_)
     | fail)
    all_goals try clear fx
    refine e_ret [] .nil (by simp; rfl) ?_
    have hkd' : k.kind = 2 := by simpa using hkd
    simp only [symOf, if_neg hnl, if_neg hnn, hka, if_pos hkd']
    rfl
  have hkd' : ¬ k.kind = 2 := by simpa using hkd
  cases hce : decide (x ∈ cellsL p b)
  all_goals
    all_goals have fx := And.intro ho <| And.intro hb <| And.intro @bne_def <| And.intro hk <| And.intro hbE <| And.intro hbl <| And.intro hkd <| hce
    repeat' (first
     | refine w_seq ?_ | refine w_block ?_ | refine w_skip ?_ | refine w_reg fun K hK => ?_
     | ((with_reducible refine s_end hK ?_); clear hK K)
     | (with_reducible first | refine then_normal ?_ | refine in_normal ?_ | refine then_ret ?_ | refine in_ret ?_)
     | refine w_ret ?_
     | (with_reducible first | refine s_none ?_ | refine x_assign (h := ?_) | refine x_box (h := ?_))
     | ((with_reducible refine o_id 142 rfl ?_); refine x_call (hF := owner_fn _ p b k x hk hs hh) (h := ?_))
     | ((with_reducible refine o_id 92 rfl ?_); refine x_callh (hF := cellNames_fn _ p b k hk hs hh hl7) (h := ?_))
     | ((with_reducible refine o_id 88 rfl ?_); refine x_call (hF := has_fn _ _ _ (Nat.le_trans cellsL_len (by decide))) (h := ?_))
     | (with_reducible refine x_q (h := ?_))
     | refine x_condt (h1 := ?_) | refine x_condf (h1 := ?_)
     | fail)
    all_goals try clear fx
    refine e_ret [] .nil (by simp; rfl) ?_
    simp at hce
    simp only [symOf, if_neg hnl, if_neg hnn, hka, if_neg hkd', hce]
    rfl
theorem nameOp_fn (gl) (p : Prg) (b : Nat) (k : Blk) (x w : Int) (hk : p[b]? = some k) (hP : LookP p) (hw0 : 0 ≤ w) (hw2 : w ≤ 2) : FnOk Tryz.prog gl 145 [pav p, iv b, iv x, iv w] (fun _ y _ => y = .agg [iv (nameOp p b x w).1, iv (nameOp p b x w).2]) := by
  have hw8 : IntKind.i64.wrap (8 + w) = 8 + w := wrp (by omega) (by omega)
  have hw11 : IntKind.i64.wrap (11 + w) = 11 + w := wrp (by omega) (by omega)
  have hw22 : IntKind.i64.wrap (2 + w) = 2 + w := wrp (by omega) (by omega)
  have hw5 : IntKind.i64.wrap (5 + w) = 5 + w := wrp (by omega) (by omega)
  refine FnOk.of_sem Tryz.func145 rfl (by kernel_rfl) (rs := [.cell 8 67]) rfl Tryz.ntmps145 (Nat.le_of_ble_eq_true rfl) fun C w g root => ?_
  cases h0 : (symOf p b x == 0)
  rotate_left
  · have h0' : symOf p b x = 0 := by simpa using h0
    all_goals have fx := And.intro h0 <| hw8
    repeat' (first
     | refine w_seq ?_ | refine w_block ?_ | refine w_skip ?_ | refine w_reg fun K hK => ?_
     | ((with_reducible refine s_end hK ?_); clear hK K)
     | (with_reducible first | refine then_normal ?_ | refine in_normal ?_ | refine then_ret ?_ | refine in_ret ?_)
     | refine w_ret ?_
     | (with_reducible first | refine s_none ?_ | refine x_assign (h := ?_) | refine x_box (h := ?_) | refine x_alloc (h := ?_) | refine x_store0 (h := ?_))
     | ((with_reducible refine o_id 176 rfl ?_); refine x_call (hF := symbol_fn _ p b k x hk hP) (h := ?_))
     | (with_reducible refine x_q (h := ?_))
     | refine x_condt (h1 := ?_) | refine x_condf (h1 := ?_)
     | fail)
    all_goals try clear fx
    refine e_ret [] .nil (by simp; rfl) ?_
    simp [nameOp, h0']
  have h0' : ¬ symOf p b x = 0 := by simpa using h0
  cases h2 : (symOf p b x == 2)
  rotate_left
  · have h2' : symOf p b x = 2 := by simpa using h2
    all_goals have fx := And.intro h0 <| And.intro h2 <| hw11
    repeat' (first
     | refine w_seq ?_ | refine w_block ?_ | refine w_skip ?_ | refine w_reg fun K hK => ?_
     | ((with_reducible refine s_end hK ?_); clear hK K)
     | (with_reducible first | refine then_normal ?_ | refine in_normal ?_ | refine then_ret ?_ | refine in_ret ?_)
     | refine w_ret ?_
     | (with_reducible first | refine s_none ?_ | refine x_assign (h := ?_) | refine x_box (h := ?_) | refine x_alloc (h := ?_) | refine x_store0 (h := ?_))
     | ((with_reducible refine o_id 176 rfl ?_); refine x_call (hF := symbol_fn _ p b k x hk hP) (h := ?_))
     | (with_reducible refine x_q (h := ?_))
     | refine x_condt (h1 := ?_) | refine x_condf (h1 := ?_)
     | fail)
    all_goals try clear fx
    refine e_ret [] .nil (by simp; rfl) ?_
    simp [nameOp, h2']
  have h2' : ¬ symOf p b x = 2 := by simpa using h2
  cases h4 : (symOf p b x == 4)
  rotate_left
  · have h4' : symOf p b x = 4 := by simpa using h4
    all_goals have fx := And.intro h0 <| And.intro h2 <| And.intro h4 <| hw22
    repeat' (first
     | refine w_seq ?_ | refine w_block ?_ | refine w_skip ?_ | refine w_reg fun K hK => ?_
     | ((with_reducible refine s_end hK ?_); clear hK K)
     | (with_reducible first | refine then_normal ?_ | refine in_normal ?_ | refine then_ret ?_ | refine in_ret ?_)
     | refine w_ret ?_
     | (with_reducible first | refine s_none ?_ | refine x_assign (h := ?_) | refine x_box (h := ?_) | refine x_alloc (h := ?_) | refine x_store0 (h := ?_))
     | ((with_reducible refine o_id 176 rfl ?_); refine x_call (hF := symbol_fn _ p b k x hk hP) (h := ?_))
     | ((with_reducible refine o_id 91 rfl ?_); refine x_callh (hF := fasts_fn _ p b k hk hP) (h := ?_))
     | ((with_reducible refine o_id 139 rfl ?_); refine x_call (hF := placeIn_fn _ (fastsL p b) _ (Nat.le_trans fastsL_len (by decide))) (h := ?_))
     | (with_reducible refine x_q (h := ?_))
     | refine x_condt (h1 := ?_) | refine x_condf (h1 := ?_)
     | fail)
    all_goals try clear fx
    refine e_ret [] .nil (by simp; rfl) ?_
    simp [nameOp, h4']
  have h4' : ¬ symOf p b x = 4 := by simpa using h4
  all_goals have fx := And.intro h0 <| And.intro h2 <| And.intro h4 <| hw5
  repeat' (first
   | refine w_seq ?_ | refine w_block ?_ | refine w_skip ?_ | refine w_reg fun K hK => ?_
   | ((with_reducible refine s_end hK ?_); clear hK K)
   | (with_reducible first | refine then_normal ?_ | refine in_normal ?_ | refine then_ret ?_ | refine in_ret ?_)
   | refine w_ret ?_
   | (with_reducible first | refine s_none ?_ | refine x_assign (h := ?_) | refine x_box (h := ?_) | refine x_alloc (h := ?_) | refine x_store0 (h := ?_))
   | ((with_reducible refine o_id 176 rfl ?_); refine x_call (hF := symbol_fn _ p b k x hk hP) (h := ?_))
   | ((with_reducible refine o_id 177 rfl ?_); refine x_call (hF := cellPlace_fn _ p b k x hk hP) (h := ?_))
   | (with_reducible refine x_q (h := ?_))
   | refine x_condt (h1 := ?_) | refine x_condf (h1 := ?_)
   | fail)
  all_goals try clear fx
  refine e_ret [] .nil (by simp; rfl) ?_
  simp only [nameOp, if_neg h0', if_neg h2', if_neg h4']
  rfl
abbrev qsKj0 : Sch := .q 0 <| .q 1 <| .q 2 <| .q 3 <| .q 4 <| .q 5 <| .q 6 <| .l 7 [5, 4, 3, 0] <| .l 8 [5, 4, 3, 0] <| .l 9 [5, 4, 3] <| .l 10 [] <| .done
theorem kinds12 {k : Int} (h : 0 ≤ k ∧ k ≤ 11) : k = 0 ∨ k = 1 ∨ k = 2 ∨ k = 3 ∨ k = 4 ∨ k = 5 ∨ k = 6 ∨ k = 7 ∨ k = 8 ∨ k = 9 ∨ k = 10 ∨ k = 11 := by omega
abbrev preL (p : Prg) (b : Nat) (s : Stm) (i : Nat) : List (Int × Int) := (0, 0) :: (s.reads.take i).map fun x => nameOp p b x 0
theorem preL_next {p : Prg} {b : Nat} {s : Stm} {i : Nat} {u : Int} (h : s.reads[i]? = some u) : preL p b s (i + 1) = preL p b s i ++ [nameOp p b u 0] := by
  simp [preL, List.take_add_one, h]
theorem stmtL_pre {p : Prg} {b : Nat} {s : Stm} : stmtL p b s = preL p b s s.reads.length ++ (workL s ++ setL p b s) := by simp [stmtL, preL, readL]
theorem spec_stmtOps_fn (gl) (p : Prg) (b : Nat) (k : Blk) (s : Stm) (hk : p[b]? = some k) (hP : LookP p) (hkd : 0 ≤ s.kind ∧ s.kind ≤ 11) : FnOk Tryz.prog gl 94 [pav p, iv b, s.av] (fun r y H' => y = .hs r 2 0 (stmtL p b s).length ∧ H' r = some (.row 2 (orows (stmtL p b s)))) := by
  have hrl := s.reads_len
  rw [stmtL_pre]
  refine FnOk.of_sem Tryz.func94 rfl (by kernel_rfl) (rs := [.tmp 6]) rfl Tryz.ntmps94 (Nat.le_of_ble_eq_true rfl) fun C w g root => ?_
  have fx := fx0
  have d1 := readsOf_fn gl s
  refine k_run ?_
  repeat ((first | refine wSc (id := 6) qsKj0 mixed ?_); refine k_rund ?_; refine k_run ?_)
  clear fx d1
  refine w_loop (fun n st => ∃ i : Nat, n = s.reads.length - i ∧ i ≤ s.reads.length ∧ st.tm 1 = iv b ∧ st.tm 3 = .pt (.s 3) 0 ∧ st.hp (.s 3) = some (.row 1 [[ksl p]]) ∧ st.tm 5 = .pt (.s 5) 0 ∧ st.hp (.s 5) = some (.row 4 [s.cells]) ∧ st.tm 8 = .hs (.s 8) 1 0 s.reads.length ∧ st.hp (.s 8) = some (.row 1 (irows s.reads)) ∧ st.tm 9 = iv i ∧ st.tm 7 = .hs (.s 7) 2 0 (preL p b s i).length ∧ st.hp (.s 7) = some (.row 2 (orows (preL p b s i)))) s.reads.length ?_ ?_
  · exact ⟨0, by omega, by omega, by simp, by simp, by simp, by simp, by simp, by simp, by simp, by simp, by simp, by simp [orows]⟩
  rintro n st - - ⟨i, rfl, hi, h1, h3, hp3, h5, hp5, h8, hp8, h9, h7, hp7⟩
  have hll : (preL p b s i).length ≤ 10 := by simp; omega
  by_cases hil : i < s.reads.length
  · obtain ⟨u, hu⟩ : ∃ u, s.reads[i]? = some u := ⟨_, gE hil⟩
    obtain ⟨_, huE⟩ := gS hu
    have hnx := preL_next (p := p) (b := b) hu
    generalize hL : preL p b s i = L at h7 hp7 hnx hll
    have fx := And.intro h1 <| And.intro h3 <| And.intro hp3 <| And.intro h5 <| And.intro hp5 <| And.intro h8 <| And.intro hp8 <| And.intro h9 <| And.intro h7 <| And.intro hp7 <| And.intro hu <| And.intro huE <| And.intro hil <| hll
    have c1 := nameOp_fn gl p b k u 0 hk hP (by decide) (by decide)
    refine k_run ?_
    repeat ((first | refine wSc (id := 6) qsKj0 mixed ?_); refine k_rund ?_; refine k_run ?_)
    clear fx c1
    refine ⟨s.reads.length - (i + 1), by omega, i + 1, rfl, by omega, by simp [h1], by simp [h3], by simp [hp3], by simp [h5], by simp [hp5], by simp [h8], by simp [hp8], by simp; exact wrp (by omega) (by omega), by simp [hnx], ?_⟩
    rw [hnx]
    simp [orows_snoc]
  · have hge : i = s.reads.length := by omega
    rw [hge] at h7 hp7 hll
    generalize hL : preL p b s s.reads.length = L at h7 hp7 hll
    have hw5 : s.kind = 5 → IntKind.i64.wrap ((s.reads.length : Int) - 1) = (s.reads.length : Int) - 1 := fun _ => wrp (by omega) (by omega)
    obtain ⟨kd, to, a, c⟩ := s
    simp only at hkd hw5
    rcases kinds12 hkd with rfl | rfl | rfl | rfl | rfl | rfl | rfl | rfl | rfl | rfl | rfl | rfl
    all_goals
      have fx := And.intro h1 <| And.intro h3 <| And.intro hp3 <| And.intro h5 <| And.intro hp5 <| And.intro h8 <| And.intro hp8 <| And.intro h9 <| And.intro h7 <| And.intro hp7 <| And.intro hil <| And.intro hge <| And.intro hll <| hw5
      have c1 := nameOp_fn gl p b k to 1 hk hP (by decide) (by decide)
      have c2 := nameOp_fn gl p b k to 2 hk hP (by decide) (by decide)
      refine k_run ?_
      repeat ((first | refine wSc (id := 6) qsKj0 mixed ?_); refine k_rund ?_; refine k_run ?_)
      clear fx c1 c2
      refine e_list (t := 6) ?_ ?_ ?_
      all_goals simp [workL, setL, orows_snoc, List.take_append, List.take_of_length_le, h7, hp7]
end Go.Proofs.YtmaoicgfcngciaaGreatDoor
end
