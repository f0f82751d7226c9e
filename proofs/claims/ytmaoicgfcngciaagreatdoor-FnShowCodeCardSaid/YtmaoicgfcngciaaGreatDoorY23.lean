/-
  Own texts, joined by mkclaim.py: Kk, Kl, Kn, Km, Ko, Kp, Ua, Uh, Ui, Up, Uq.
-/
import Derived.Test.YtmaoicgfcngciaaGreatDoorY21
import Derived.Test.YtmaoicgfcngciaaGreatDoorY22
import Derived.Test.YtmaoicgfcngciaaGreatDoorY17
import Derived.Test.YtmaoicgfcngciaaGreatDoorY15
import Derived.Test.YtmaoicgfcngciaaGreatDoorY20
set_option linter.unusedSimpArgs false
set_option linter.unusedVariables false
set_option maxRecDepth 100000
set_option maxHeartbeats 4000000

section
namespace Go.Proofs.YtmaoicgfcngciaaGreatDoor
open Go Go.Hm Go.Proofs
theorem workOps_fn (gl) (s : Stm) (hkd : 0 ≤ s.kind ∧ s.kind ≤ 11) : FnOk Tryz.prog gl 163 [s.av] (fun r y H' => y = .hs r 2 0 (workL s).length ∧ H' r = some (.row 2 (orows (workL s)))) := by
  have hrl := s.reads_len
  have hw5 : IntKind.i64.wrap ((s.reads.length : Int) - 1) = (s.reads.length : Int) - 1 := wrp (by omega) (by omega)
  obtain ⟨kd, to, a, c⟩ := s
  simp only at hkd
  refine FnOk.of_sem Tryz.func163 rfl (by kernel_rfl) (rs := [.tmp 2]) rfl Tryz.ntmps163 (Nat.le_of_ble_eq_true rfl) fun C w g root => ?_
  rcases kinds12 hkd with rfl | rfl | rfl | rfl | rfl | rfl | rfl | rfl | rfl | rfl | rfl | rfl
  case inr.inr.inr.inr.inr.inl =>
    have hrd : (⟨5, to, a, c⟩ : Stm).reads = if c = -1 then [a] else [a, c] := by simp [Stm.reads]
    rw [hrd] at hw5
    have hcr := call_reads gl a c
    generalize hL : (if c = -1 then [a] else [a, c]) = L at hw5 hcr hrd
    have fx :=  hw5
    have c1 := formOf_fn gl ⟨5, to, a, c⟩
    have d1 := hcr
    refine k_run ?_
    clear fx c1 d1
    refine e_list (t := 2) ?_ ?_ ?_
    all_goals simp [workL, orows, hrd]
  all_goals
    all_goals have fx := fx0
    repeat' (first
     | refine w_seq ?_ | refine w_block ?_ | refine w_skip ?_ | refine w_reg fun K hK => ?_
     | ((with_reducible refine s_end hK ?_); clear hK K)
     | (with_reducible first | refine then_normal ?_ | refine in_normal ?_ | refine then_ret ?_ | refine in_ret ?_)
     | refine w_ret ?_
     | (with_reducible first | refine s_none ?_ | refine x_assign (h := ?_) | refine x_box (h := ?_) | refine x_alloc (h := ?_) | refine x_store0 (h := ?_) | refine x_build (h := ?_))
     | ((with_reducible refine o_id 105 rfl ?_); refine x_call (hF := formOf_fn _ ⟨_, to, a, c⟩) (h := ?_))
     | (with_reducible refine x_q (h := ?_))
     | refine x_condt (h1 := ?_) | refine x_condf (h1 := ?_)
     | fail)
    all_goals try clear fx
    refine e_list (t := 2) ?_ ?_ ?_
    all_goals simp [workL, orows]
theorem impl_stmtOps_fn (gl : Nat → Option (List AV)) (hgl : gl 3 = some codesL) (p : Prg) (b : Nat) (k : Blk) (s : Stm) (hp : ShapeP p) (hk : p[b]? = some k) (hsm : s ∈ k.body) : FnOk Tryz.prog gl 118 [scsl p, iv b, s.av] (fun r y H' => y = .hs r 2 0 (stmtL p b s).length ∧ H' r = some (.row 2 (orows (stmtL p b s)))) := by
  have hrl := s.reads_len
  have hn := hp.names k (List.mem_of_getElem? hk)
  have hkd := hn.kinds s hsm
  obtain ⟨ht0, ht7⟩ := hn.tos s hsm
  obtain ⟨T, hT⟩ : ∃ T : Nat, s.to = T := ⟨s.to.toNat, by omega⟩
  have hT8 : T < 8 := by omega
  have hav : s.av = .agg [iv s.kind, iv T, iv s.a, iv s.b] := by rw [← hT]
  rw [stmtL_pre]
  refine FnOk.of_sem Tryz.func118 rfl (by kernel_rfl) (rs := [.tmp 6]) rfl Tryz.ntmps118 (Nat.le_of_ble_eq_true rfl) fun C w g root => ?_
  all_goals have fx := fx0
  repeat' (first
   | refine w_seq ?_ | refine w_block ?_ | refine w_skip ?_ | refine w_reg fun K hK => ?_
   | ((with_reducible refine s_end hK ?_); clear hK K)
   | (with_reducible first | refine then_normal ?_ | refine in_normal ?_ | refine then_exit ?_ | refine in_exit ?_ | refine then_ret ?_ | refine in_ret ?_ | refine in_other (by decide) ?_)
   | refine w_exit ?_
   | refine w_ret ?_
   | (with_reducible first | refine s_none ?_ | refine x_assign (h := ?_) | refine x_box (h := ?_) | refine x_append0 (T := 50) (h := ?_) | refine x_append (T := 50) (h := ?_) | refine x_build (h := ?_))
   | ((with_reducible refine o_id 105 rfl ?_); refine x_call (hF := formOf_fn _ s) (h := ?_))
   | (refine x_invh (hF := reads_inv _ (by kernel_rfl) s hkd) (h := ?_))
   | (with_reducible refine x_q (h := ?_))
   | refine x_condt (h1 := ?_) | refine x_condf (h1 := ?_)
   | fail)
  all_goals try clear fx
  refine w_loop (fun n st => ∃ i : Nat, n = s.reads.length - i ∧ i ≤ s.reads.length ∧ st.tm 0 = scsl p ∧ st.tm 1 = iv b ∧ st.tm 5 = .pt (.s 5) 0 ∧ st.hp (.s 5) = some (.row 4 [s.cells]) ∧ st.tm 14 = .hs (.s 14) 1 0 s.reads.length ∧ st.hp (.s 14) = some (.row 1 (irows s.reads)) ∧ st.tm 15 = iv s.reads.length ∧ st.tm 16 = iv i ∧ st.tm 7 = .hs (.s 7) 2 0 (preL p b s i).length ∧ st.hp (.s 7) = some (.row 2 (orows (preL p b s i)))) s.reads.length ?_ ?_
  · exact ⟨0, by omega, by omega, by simp, by simp, by simp, by simp, by simp, by simp, by simp, by simp, by simp, by simp [orows]⟩
  rintro n st - - ⟨i, rfl, hi, h0, h1, h5, hp5, h14, hp14, h15, h16, h7, hp7⟩
  have hll : (preL p b s i).length ≤ 10 := by simp; omega
  by_cases hil : i < s.reads.length
  · obtain ⟨u, hu⟩ : ∃ u, s.reads[i]? = some u := ⟨_, gE hil⟩
    obtain ⟨_, huE⟩ := gS hu
    obtain ⟨hu0, hu7⟩ := hn.reads s hsm u (List.mem_of_getElem? hu)
    obtain ⟨U, rfl⟩ : ∃ U : Nat, u = U := ⟨u.toNat, by omega⟩
    have hnx := preL_next (p := p) (b := b) hu
    generalize hL : preL p b s i = L at h7 hp7 hnx hll
    have fx := And.intro h0 <| And.intro h1 <| And.intro h5 <| And.intro hp5 <| And.intro h14 <| And.intro hp14 <| And.intro h15 <| And.intro h16 <| And.intro h7 <| And.intro hp7 <| And.intro hu <| And.intro huE <| And.intro hil <| hll
    have c1 := accessOp_fn gl hgl p hp b k hk U (by omega) 0 (by decide) (by decide)
    refine k_run ?_
    clear fx c1
    refine ⟨s.reads.length - (i + 1), by omega, i + 1, rfl, by omega, by simp [h0], by simp [h1], by simp [h5], by simp [hp5], by simp [h14], by simp [hp14], by simp [h15], by simp; exact wrp (by omega) (by omega), by simp [hnx], ?_⟩
    rw [hnx]
    simp [orows]
  · have hge : i = s.reads.length := by omega
    rw [hge] at h7 hp7 hll
    have hwl := workL_len s
    generalize hL : preL p b s s.reads.length = L at h7 hp7 hll
    by_cases hk11 : s.kind = 11
    · have hset : setL p b s = [nameOp p b T 2] := by simp [setL, hk11, hT]
      rw [hset]
      generalize hWL : workL s = WL at hwl
      have hwo := workOps_fn gl s hkd
      rw [hWL, hav] at hwo
      have hk11' : (s.kind == 11) = true := by simpa using hk11
      have fx := And.intro h0 <| And.intro h1 <| And.intro h5 <| And.intro hp5 <| And.intro h14 <| And.intro hp14 <| And.intro h15 <| And.intro h16 <| And.intro h7 <| And.intro hp7 <| And.intro hil <| And.intro hge <| And.intro hll <| And.intro hwl <| And.intro hk11' <| hT
      have d1 := hwo
      have c1 := accessOp_fn gl hgl p hp b k hk T hT8 2 (by decide) (by decide)
      refine k_run ?_
      clear fx d1 c1
      refine e_list (t := 6) ?_ ?_ ?_
      all_goals simp [orows_snoc, List.take_append, List.take_of_length_le, Nat.add_assoc]
    · have hk11' : (s.kind == 11) = false := by simpa using hk11
      by_cases hset : 0 ≤ s.kind ∧ s.kind ≤ 6
      · have hsl : setL p b s = [nameOp p b T 1] := by simp [setL, hk11, hT, hset]
        rw [hsl]
        generalize hWL : workL s = WL at hwl
        have hwo := workOps_fn gl s hkd
        rw [hWL, hav] at hwo
        have hbi := binds_fn gl s
        rw [decide_eq_true (.inl hset : s.sets ∨ s.kind = 11), hav] at hbi
        have fx := And.intro h0 <| And.intro h1 <| And.intro h5 <| And.intro hp5 <| And.intro h14 <| And.intro hp14 <| And.intro h15 <| And.intro h16 <| And.intro h7 <| And.intro hp7 <| And.intro hil <| And.intro hge <| And.intro hll <| And.intro hwl <| And.intro hk11' <| hT
        have d1 := hwo
        have c1 := hbi
        have c2 := accessOp_fn gl hgl p hp b k hk T hT8 1 (by decide) (by decide)
        refine k_run ?_
        clear fx d1 c1 c2
        refine e_list (t := 6) ?_ ?_ ?_
        all_goals simp [orows_snoc, List.take_append, List.take_of_length_le, Nat.add_assoc]
      · have hsl : setL p b s = [] := by simp only [setL, if_neg hk11, if_neg hset]
        rw [hsl]
        generalize hWL : workL s = WL at hwl
        have hwo := workOps_fn gl s hkd
        rw [hWL] at hwo
        have hbi := binds_fn gl s
        rw [decide_eq_false (fun h : s.sets ∨ s.kind = 11 => h.elim hset hk11)] at hbi
        have fx := And.intro h0 <| And.intro h1 <| And.intro h5 <| And.intro hp5 <| And.intro h14 <| And.intro hp14 <| And.intro h15 <| And.intro h16 <| And.intro h7 <| And.intro hp7 <| And.intro hil <| And.intro hge <| And.intro hll <| And.intro hwl <| hk11'
        have d1 := hwo
        have c1 := hbi
        refine k_run ?_
        clear fx d1 c1
        refine e_list (t := 6) ?_ ?_ ?_
        all_goals simp [orows_snoc, List.take_append, List.take_of_length_le, Nat.add_assoc]
abbrev qsKl0 : Sch := .q 0 <| .q 1 <| .q 2 <| .q 3 <| .q 4 <| .q 5 <| .q 6 <| .q 7 <| .q 8 <| .q 9 <| .q 10 <| .q 11 <| .q 13 <| .q 14 <| .q 16 <| .q 17 <| .q 19 <| .q 20 <| .l2 12 [20, 19, 17, 16, 14, 13, 10, 9, 8, 7, 6, 5, 4, 3, 2, 1, 0] (.l2 15 [20, 19, 17, 16, 10, 9, 8, 7, 6, 5, 4, 3, 2, 1, 0] (.l2 18 [20, 19, 10, 9, 8, 7, 6, 5, 4, 3, 2, 1, 0] (.l2 21 [10, 9, 8, 7, 6, 5, 4, 3, 2, 1, 0] (.q 22 <| .l 23 [22, 10, 9, 8, 7, 6, 5, 4, 3, 2, 1, 0] <| .l 24 [] <| .done) 23 [20, 19, 10, 9, 8, 7, 6, 5, 4, 3, 2, 1, 0] (.l 21 [10, 9, 8, 7, 6, 5, 4, 3, 2, 1, 0] <| .q 22 <| .l 24 [] <| .done)) 23 [20, 19, 17, 16, 10, 9, 8, 7, 6, 5, 4, 3, 2, 1, 0] (.l 18 [20, 19, 10, 9, 8, 7, 6, 5, 4, 3, 2, 1, 0] <| .l 21 [10, 9, 8, 7, 6, 5, 4, 3, 2, 1, 0] <| .q 22 <| .l 24 [] <| .done)) 23 [20, 19, 17, 16, 14, 13, 10, 9, 8, 7, 6, 5, 4, 3, 2, 1, 0] (.l 15 [20, 19, 17, 16, 10, 9, 8, 7, 6, 5, 4, 3, 2, 1, 0] <| .l 18 [20, 19, 10, 9, 8, 7, 6, 5, 4, 3, 2, 1, 0] <| .l 21 [10, 9, 8, 7, 6, 5, 4, 3, 2, 1, 0] <| .q 22 <| .l 24 [] <| .done)) 23 [20, 19, 17, 16, 14, 13, 11, 10, 9, 8, 7, 6, 5, 4, 3, 2, 1, 0] (.l 12 [20, 19, 17, 16, 14, 13, 10, 9, 8, 7, 6, 5, 4, 3, 2, 1, 0] <| .l 15 [20, 19, 17, 16, 10, 9, 8, 7, 6, 5, 4, 3, 2, 1, 0] <| .l 18 [20, 19, 10, 9, 8, 7, 6, 5, 4, 3, 2, 1, 0] <| .l 21 [10, 9, 8, 7, 6, 5, 4, 3, 2, 1, 0] <| .q 22 <| .l 24 [] <| .done)
abbrev qsKl1 : Sch := .q 0 <| .q 1 <| .q 2 <| .q 3 <| .q 4 <| .q 5 <| .q 6 <| .q 7 <| .q 8 <| .q 9 <| .q 10 <| .q 11 <| .q 12 <| .l 13 [11, 10, 9, 8, 7, 6, 5, 4, 1, 0] <| .l 14 [11, 10, 9, 8, 7, 6, 5, 4, 0] <| .q 15 <| .l 16 [] <| .done
theorem blkAt_parts {p : Prg} {b : Int} (hs : Sml p) (h : blkAt p b = true) : ∃ (B : Nat) (k : Blk), b = B ∧ p[B]? = some k ∧ LookP p ∧ progOk p = true := by
  simp only [blkAt, Bool.and_eq_true, decide_eq_true_eq] at h
  obtain ⟨h1, h2, h3⟩ := h
  have hl : b.toNat < p.length := by omega
  obtain ⟨k, hk⟩ : ∃ k, p[b.toNat]? = some k := ⟨_, gE hl⟩
  have h1' := h1
  simp only [progOk, Bool.and_eq_true] at h1
  exact ⟨b.toNat, k, by omega, hk, ⟨hs, ShapeP.of hs h1.1⟩, h1'⟩
theorem blkAt_not {p : Prg} {b : Int} (h : blkAt p b = false) (hv : progOk p = true) : ¬ (0 ≤ b ∧ b ≤ (p.length : Int) - 1) := fun e => by
  simp only [blkAt, hv, Bool.true_and] at h
  have h1 : (decide (0 ≤ b) && decide (b < p.length)) = true := by simp; omega
  rw [h1] at h
  cases h
theorem spec_compiled_fn (gl) (p : Prg) (b : Nat) (k : Blk) (hk : p[b]? = some k) (hP : LookP p) : FnOk Tryz.prog gl 40 [pav p, iv b] (fun r y H' => y = .agg ((codeL p b).own r 0) ∧ OwnK H' r 0 (codeL p b)) := by
  have hs := hP.sml
  have hh := hP.heads
  have hl7 := hP.len
  have hkm := List.mem_of_getElem? hk
  obtain ⟨hbl, hbE⟩ := gS hk
  have hk12 := hP.sh.body k hkm
  have hkinds := (hP.sh.names k hkm).kinds
  obtain ⟨hpl, _⟩ := hs.bsm hk
  have hcode : codeL p b = ⟨k.kind, k.params, fastsL p b, cellsL p b, freesL p b, bodyL p b k.body⟩ := by simp [codeL, opsL, hk]
  rw [hcode]
  refine FnOk.of_sem Tryz.func40 rfl (by kernel_rfl) (rs := [.cell 4 55]) rfl Tryz.ntmps40 (Nat.le_of_ble_eq_true rfl) fun C w g root => ?_
  have fx := And.intro hk <| And.intro hbE <| hbl
  have d1 := copyInts_fn gl k.params (by omega)
  have d2 := fasts_fn gl p b k hk hP
  have d3 := cellNames_fn gl p b k hk hs hh hl7
  have d4 := frees_fn gl p b hbl hs hh hl7
  refine k_run ?_
  first | refine wSc (id := 1) qsKl0 mixed ?_ | refine wSc (id := 5) qsKl1 mixed ?_
  refine k_runj (fun st => st.tm 1 = iv b ∧ st.tm 2 = .pt (.s 2) 0 ∧ st.hp (.s 2) = some (.row 1 [[ksl p]]) ∧ st.tm 6 = iv 0 ∧ st.tm 5 = .pt (.s 5) 0 ∧ st.tm 4 = .pt (.s 4) 0 ∧ st.hp (.s 4) = some (.row 6 [noCode.own (.s 4) 0]) ∧ st.hp (.s 5) = some (.row 6 [Cod.own (.s 5) 0 ⟨k.kind, k.params, fastsL p b, cellsL p b, freesL p b, []⟩]) ∧ st.hp (.c (.s 5) 0 1) = some (.row 1 (irows k.params)) ∧ st.hp (.c (.s 5) 0 2) = some (.row 1 (irows (fastsL p b))) ∧ st.hp (.c (.s 5) 0 3) = some (.row 1 (irows (cellsL p b))) ∧ st.hp (.c (.s 5) 0 4) = some (.row 1 (irows (freesL p b))) ∧ st.hp (.c (.s 5) 0 5) = some (.row 2 [])) ?_
  clear fx d1 d2 d3 d4
  rintro st ⟨h1, h2, hp2, h6, h5, h4, hp4, hp5, q1, q2, q3, q4, q5⟩
  refine w_loop (fun n st => ∃ i : Nat, n = k.body.length - i ∧ i ≤ k.body.length ∧ st.tm 1 = iv b ∧ st.tm 2 = .pt (.s 2) 0 ∧ st.hp (.s 2) = some (.row 1 [[ksl p]]) ∧ st.tm 6 = iv i ∧ st.tm 5 = .pt (.s 5) 0 ∧ st.tm 4 = .pt (.s 4) 0 ∧ st.hp (.s 4) = some (.row 6 [noCode.own (.s 4) 0]) ∧ ∃ c : Cod, c = ⟨k.kind, k.params, fastsL p b, cellsL p b, freesL p b, bodyL p b (k.body.take i)⟩ ∧ st.hp (.s 5) = some (.row 6 [c.own (.s 5) 0]) ∧ OwnK st.hp (.s 5) 0 c) k.body.length ?_ ?_
  · refine ⟨0, by omega, by omega, h1, h2, hp2, h6, h5, h4, hp4, _, rfl, ?_, ⟨?_, ?_, ?_, ?_, ?_⟩⟩
    all_goals simp [bodyL, hp5, q1, q2, q3, q4, q5]
  clear h1 h2 hp2 h6 h5 h4 hp4 hp5 q1 q2 q3 q4 q5
  rintro n st - - ⟨i, rfl, hi, h1, h2, hp2, h6, h5, h4, hp4, c, hc, hp5, ⟨o1, o2, o3, o4, o5⟩⟩
  have hll := bodyL_len (p := p) (b := b) (k.body.take i)
  rw [List.length_take] at hll
  by_cases hil : i < k.body.length
  · obtain ⟨s, hss⟩ : ∃ s, k.body[i]? = some s := ⟨_, gE hil⟩
    obtain ⟨_, hsE⟩ := gS hss
    have hnx := bodyL_take (p := p) (b := b) hss
    have hsl := stmtL_len (p := p) (b := b) (s := s)
    generalize hL : bodyL p b (k.body.take i) = L at hc hnx hll
    subst hc
    simp only [Cod.own_eq] at hp5 o1 o2 o3 o4 o5
    have fx := And.intro h1 <| And.intro h2 <| And.intro hp2 <| And.intro h6 <| And.intro h5 <| And.intro hp5 <| And.intro o1 <| And.intro o2 <| And.intro o3 <| And.intro o4 <| And.intro o5 <| And.intro hk <| And.intro hbE <| And.intro hbl <| And.intro hss <| And.intro hsE <| And.intro hil <| And.intro hll <| hsl
    have d1 := spec_stmtOps_fn gl p b k s hk hP (hkinds s (List.mem_of_getElem? hss))
    refine k_run ?_
    repeat ((first | refine wSc (id := 1) qsKl0 mixed ?_ | refine wSc (id := 5) qsKl1 mixed ?_); refine k_rund ?_; refine k_run ?_)
    clear fx d1
    refine ⟨k.body.length - (i + 1), by omega, i + 1, rfl, by omega, by simp [h1], by simp [h2], by simp [hp2], by simp; exact wrp (by omega) (by omega), by simp [h5], by simp [h4], by simp [hp4], _, rfl, ?_, ⟨?_, ?_, ?_, ?_, ?_⟩⟩
    all_goals simp [hnx, o1, o2, o3, o4, o5, hp5]
  · have hge : i = k.body.length := by omega
    subst hge
    rw [List.take_length] at hc
    subst hc
    simp only [Cod.own_eq] at hp5 o1 o2 o3 o4 o5
    have fx := And.intro h1 <| And.intro h2 <| And.intro hp2 <| And.intro h6 <| And.intro h5 <| And.intro h4 <| And.intro hp4 <| And.intro hp5 <| And.intro o1 <| And.intro o2 <| And.intro o3 <| And.intro o4 <| And.intro o5 <| And.intro hk <| And.intro hbE <| And.intro hbl <| hil
    refine k_run ?_
    repeat ((first | refine wSc (id := 1) qsKl0 mixed ?_ | refine wSc (id := 5) qsKl1 mixed ?_); refine k_rund ?_; refine k_run ?_)
    clear fx
    refine e_ret [(.s 5, root)] (.one rfl) (by simp [h4]; rfl) ⟨?_, ⟨?_, ?_, ?_, ?_, ?_⟩⟩
    all_goals simp [h4, o1, o2, o3, o4, o5]
end Go.Proofs.YtmaoicgfcngciaaGreatDoor
end
section
namespace Go.Proofs.YtmaoicgfcngciaaGreatDoor
open Go Go.Hm Go.Proofs
abbrev qsKm0 : Sch := .q 0 <| .q 1 <| .q 2 <| .q 3 <| .q 5 <| .q 6 <| .q 8 <| .q 9 <| .q 12 <| .q 13 <| .l2 4 [13, 12, 9, 8, 6, 5, 2, 1, 0] (.l2 7 [13, 12, 9, 8, 2, 1, 0] (.l2 10 [13, 12, 2, 1, 0] (.l2 11 [13, 12, 2, 1, 0] (.l2 14 [2, 1, 0] (.q 15 <| .l 16 [15, 2, 1, 0] <| .l 17 [] <| .done) 16 [13, 12, 2, 1, 0] (.l 14 [2, 1, 0] <| .q 15 <| .l 17 [] <| .done)) 16 [13, 12, 2, 1, 0] (.l 11 [13, 12, 2, 1, 0] <| .l 14 [2, 1, 0] <| .q 15 <| .l 17 [] <| .done)) 16 [13, 12, 9, 8, 2, 1, 0] (.l 10 [13, 12, 2, 1, 0] <| .l 11 [13, 12, 2, 1, 0] <| .l 14 [2, 1, 0] <| .q 15 <| .l 17 [] <| .done)) 16 [13, 12, 9, 8, 6, 5, 2, 1, 0] (.l 7 [13, 12, 9, 8, 2, 1, 0] <| .l 10 [13, 12, 2, 1, 0] <| .l 11 [13, 12, 2, 1, 0] <| .l 14 [2, 1, 0] <| .q 15 <| .l 17 [] <| .done)) 16 [13, 12, 9, 8, 6, 5, 3, 2, 1, 0] (.l 4 [13, 12, 9, 8, 6, 5, 2, 1, 0] <| .l 7 [13, 12, 9, 8, 2, 1, 0] <| .l 10 [13, 12, 2, 1, 0] <| .l 11 [13, 12, 2, 1, 0] <| .l 14 [2, 1, 0] <| .q 15 <| .l 17 [] <| .done)
abbrev qsKm1 : Sch := .q 0 <| .q 1 <| .q 2 <| .q 3 <| .q 4 <| .l 5 [1, 0] <| .l 6 [0] <| .q 7 <| .l 8 [] <| .done
theorem fastsOfA_fn (gl) (p : Prg) (hp : ShapeP p) (b : Nat) (k : Blk) (hk : p[b]? = some k) : FnOk Tryz.prog gl 114 [scsl p, iv b] (fun r y H' => y = .hs r 1 0 (fastsL p b).length ∧ H' r = some (.row 1 (irows (fastsL p b)))) := by
  by_cases hk1 : k.kind = 1
  · exact fastsOf_fn gl p hp b k hk hk1
  have hh := hp.heads
  obtain ⟨hbl, hbE⟩ := gS hk
  have hka : kindAt p b = k.kind := by simp [kindAt, hk]
  have hsg := scRows_get (p := p) hbl
  rw [scopeA_eq hh hk] at hsg
  obtain ⟨_, hse⟩ := gS hsg
  have hc : fastsL p b = [] := by simp [fastsL, hka, hk1]
  have hkd : (k.kind == 1) = false := by simpa using hk1
  rw [hc]
  refine FnOk.of_sem Tryz.func114 rfl (by kernel_rfl) (rs := [.tmp 4]) rfl Tryz.ntmps114 (Nat.le_of_ble_eq_true rfl) fun C w g root => ?_
  have fx := And.intro hsg <| And.intro hse <| And.intro hkd <| And.intro hbl <| @bne_def
  refine k_run ?_
  clear fx
  exact e_list (t := 4) (by first | (simp []; done) | (simp []; rfl)) (by first | (simp []; done) | (simp []; rfl)) (by simp)
theorem cellsList_fn (gl) (p : Prg) (b : Nat) : FnOk Tryz.prog gl 116 [.agg (bset (cellsL p b))] (fun r z H' => z = .hs r 1 0 (cellsL p b).length ∧ H' r = some (.row 1 (irows (cellsL p b)))) := by
  have hli := list_fn gl (cellsL p b)
  rw [sorted_cells] at hli
  exact hli
theorem impl_compileBlock_fn (gl : Nat → Option (List AV)) (hgl : gl 3 = some codesL) (p : Prg) (hp : ShapeP p) (b : Nat) (k : Blk) (hk : p[b]? = some k) : FnOk Tryz.prog gl 64 [pav p, scsl p, iv b] (fun r y H' => y = .agg ((codeL p b).own r 0) ∧ OwnK H' r 0 (codeL p b)) := by
  have hl7 := hp.len.2
  have hkm := List.mem_of_getElem? hk
  obtain ⟨hbl, hbE⟩ := gS hk
  have hk12 := hp.body k hkm
  obtain ⟨hpl, _⟩ := hp.sml.bsm hk
  have hcode : codeL p b = ⟨k.kind, k.params, fastsL p b, cellsL p b, freesL p b, bodyL p b k.body⟩ := by simp [codeL, opsL, hk]
  have hfl := fastsL_len (p := p) (b := b)
  have hcl := cellsL_len (p := p) (b := b)
  have hrl := freesL_len (p := p) (b := b)
  rw [hcode]
  refine FnOk.of_sem Tryz.func64 rfl (by kernel_rfl) (rs := [.cell 6 55]) rfl Tryz.ntmps64 (Nat.le_of_ble_eq_true rfl) fun C w g root => ?_
  have fx := And.intro hk <| And.intro hbE <| And.intro hbl <| hpl
  have c1 := cellSet_fn gl p hp b k hk
  have d1 := fastsOfA_fn gl p hp b k hk
  have d2 := cellsList_fn gl p b
  have d3 := freesOf_fn gl p hp b hbl
  refine k_run ?_
  first | refine wSc (id := 2) qsKm0 mixed ?_ | refine wSc (id := 6) qsKm1 mixed ?_
  refine k_runj (fun st => st.tm 1 = scsl p ∧ st.tm 2 = iv b ∧ st.tm 6 = .pt (.s 6) 0 ∧ st.hp (.s 6) = some (.row 6 [noCode.own (.s 6) 0]) ∧ st.tm 8 = .pt (.s 8) 0 ∧ st.tm 33 = ssl k.body ∧ st.tm 34 = iv k.body.length ∧ st.tm 35 = iv 0 ∧ st.hp (.s 8) = some (.row 6 [Cod.own (.s 8) 0 ⟨k.kind, k.params, fastsL p b, cellsL p b, freesL p b, []⟩]) ∧ st.hp (.c (.s 8) 0 1) = some (.row 1 (irows k.params)) ∧ st.hp (.c (.s 8) 0 2) = some (.row 1 (irows (fastsL p b))) ∧ st.hp (.c (.s 8) 0 3) = some (.row 1 (irows (cellsL p b))) ∧ st.hp (.c (.s 8) 0 4) = some (.row 1 (irows (freesL p b))) ∧ st.hp (.c (.s 8) 0 5) = some (.row 2 [])) ?_
  clear fx c1 d1 d2 d3
  rintro st ⟨h1, h2, h6, hp6, h8, h33, h34, h35, hp8, q1, q2, q3, q4, q5⟩
  refine w_loop (fun n st => ∃ i : Nat, n = k.body.length - i ∧ i ≤ k.body.length ∧ st.tm 1 = scsl p ∧ st.tm 2 = iv b ∧ st.tm 6 = .pt (.s 6) 0 ∧ st.hp (.s 6) = some (.row 6 [noCode.own (.s 6) 0]) ∧ st.tm 8 = .pt (.s 8) 0 ∧ st.tm 33 = ssl k.body ∧ st.tm 34 = iv k.body.length ∧ st.tm 35 = iv i ∧ ∃ c : Cod, c = ⟨k.kind, k.params, fastsL p b, cellsL p b, freesL p b, bodyL p b (k.body.take i)⟩ ∧ st.hp (.s 8) = some (.row 6 [c.own (.s 8) 0]) ∧ OwnK st.hp (.s 8) 0 c) k.body.length ?_ ?_
  · refine ⟨0, by omega, by omega, h1, h2, h6, hp6, h8, h33, h34, h35, _, rfl, ?_, ⟨?_, ?_, ?_, ?_, ?_⟩⟩
    all_goals simp [bodyL, hp8, q1, q2, q3, q4, q5]
  clear h1 h2 h6 hp6 h8 h33 h34 h35 hp8 q1 q2 q3 q4 q5
  rintro n st - - ⟨i, rfl, hi, h1, h2, h6, hp6, h8, h33, h34, h35, c, hc, hp8, ⟨o1, o2, o3, o4, o5⟩⟩
  have hll := bodyL_len (p := p) (b := b) (k.body.take i)
  rw [List.length_take] at hll
  by_cases hil : i < k.body.length
  · obtain ⟨s, hss⟩ : ∃ s, k.body[i]? = some s := ⟨_, gE hil⟩
    obtain ⟨_, hsE⟩ := gS hss
    have hnx := bodyL_take (p := p) (b := b) hss
    have hsl := stmtL_len (p := p) (b := b) (s := s)
    generalize hL : bodyL p b (k.body.take i) = L at hc hnx hll
    subst hc
    simp only [Cod.own_eq] at hp8 o1 o2 o3 o4 o5
    have fx := And.intro h1 <| And.intro h2 <| And.intro h6 <| And.intro hp6 <| And.intro h8 <| And.intro h33 <| And.intro h34 <| And.intro h35 <| And.intro hp8 <| And.intro o1 <| And.intro o2 <| And.intro o3 <| And.intro o4 <| And.intro o5 <| And.intro hss <| And.intro hsE <| And.intro hil <| And.intro hll <| hsl
    have d1 := impl_stmtOps_fn gl hgl p b k s hp hk (List.mem_of_getElem? hss)
    refine k_run ?_
    repeat ((first | refine wSc (id := 2) qsKm0 mixed ?_ | refine wSc (id := 6) qsKm1 mixed ?_); refine k_rund ?_; refine k_run ?_)
    clear fx d1
    refine ⟨k.body.length - (i + 1), by omega, i + 1, rfl, by omega, by simp [h1], by simp [h2], by simp [h6], by simp [hp6], by simp [h8], by simp [h33], by simp [h34], by simp; exact wrp (by omega) (by omega), _, rfl, ?_, ⟨?_, ?_, ?_, ?_, ?_⟩⟩
    all_goals simp [Cod.own, hnx, o1, o2, o3, o4, o5, hp8]
  · have hge : i = k.body.length := by omega
    subst hge
    rw [List.take_length] at hc
    subst hc
    simp only [Cod.own_eq] at hp8 o1 o2 o3 o4 o5
    have fx := And.intro h1 <| And.intro h2 <| And.intro h6 <| And.intro hp6 <| And.intro h8 <| And.intro h33 <| And.intro h34 <| And.intro h35 <| And.intro hp8 <| And.intro o1 <| And.intro o2 <| And.intro o3 <| And.intro o4 <| And.intro o5 <| hil
    refine k_run ?_
    repeat ((first | refine wSc (id := 2) qsKm0 mixed ?_ | refine wSc (id := 6) qsKm1 mixed ?_); refine k_rund ?_; refine k_run ?_)
    clear fx
    refine e_ret [(.s 8, root)] (.one rfl) (by simp [h6]; rfl) ⟨?_, ⟨?_, ?_, ?_, ?_, ?_⟩⟩
    all_goals simp [h6, o1, o2, o3, o4, o5]
end Go.Proofs.YtmaoicgfcngciaaGreatDoor
end
section
namespace Go.Proofs.YtmaoicgfcngciaaGreatDoor
open Go Go.Hm Go.Proofs
end Go.Proofs.YtmaoicgfcngciaaGreatDoor
end
section
namespace Go.Proofs.YtmaoicgfcngciaaGreatDoor
open Go Go.Hm Go.Proofs
abbrev qsKp0 : Sch := .q 0 <| .q 1 <| .q 3 <| .l 2 [3, 0] <| .l 4 [] <| .l 5 [] <| .done
attribute [local simp] slcAV rowsIn
theorem impl_CompileBlock_fn (gl : Nat → Option (List AV)) (hgl : gl 3 = some codesL) (p : Prg) (b : Int) (hs : Sml p) : FnOk Tryz.prog gl 28 [pav p, iv b] (fun r y H' => y = .agg ((codeG p b).own r 0) ∧ OwnK H' r 0 (codeG p b)) := by
  refine FnOk.of_sem Tryz.func28 rfl (by kernel_rfl) (rs := [.cell 4 55]) rfl Tryz.ntmps28 (Nat.le_of_ble_eq_true rfl) fun C w g root => ?_
  cases hv : progOk p
  · have hno : codeG p b = noCode := by simp [codeG, blkAt, hv]
    rw [hno]
    have fx :=  hv
    have c1 := impl_ValidProgram_fn gl p hs
    refine k_run ?_
    repeat ((first | refine wSc (id := 3) qsKp0 mixed ?_); refine k_rund ?_; refine k_run ?_)
    clear fx c1
    refine e_ret [(.s 4, root)] (.one rfl) (by simp; rfl) ⟨?_, ⟨?_, ?_, ?_, ?_, ?_⟩⟩
    all_goals simp
  cases hb : blkAt p b
  · have hno : codeG p b = noCode := by simp [codeG, hb]
    have hn := blkAt_not hb hv
    have hb' : decide (0 ≤ b ∧ b < p.length) = false := by
      rw [decide_eq_false_iff_not]
      intro h
      exact hn (by omega)
    rw [hno]
    have fx := And.intro hv <| hb'
    have c1 := impl_ValidProgram_fn gl p hs
    have c2 := impl_isBlock_fn gl p b
    refine k_run ?_
    repeat ((first | refine wSc (id := 3) qsKp0 mixed ?_); refine k_rund ?_; refine k_run ?_)
    clear fx c1 c2
    refine e_ret [(.s 4, root)] (.one rfl) (by simp; rfl) ⟨?_, ⟨?_, ?_, ?_, ?_, ?_⟩⟩
    all_goals simp
  obtain ⟨B, k, rfl, hk, hP, _⟩ := blkAt_parts hs hb
  have hBl := (gS hk).1
  have hco : codeG p B = codeL p B := by simp [codeG, hb]
  have hp := hP.sh
  have hh := hp.heads
  rw [hco]
  have hcc := impl_compileBlock_fn gl hgl p hp B k hk
  generalize codeL p B = c at hcc
  have fx := And.intro hv <| hBl
  have c1 := impl_ValidProgram_fn gl p hs
  have c2 := impl_isBlock_fn gl p B
  have e1 := scopesOf_fn gl p hs hh hp.names
  refine k_run ?_
  repeat ((first | refine wSc (id := 3) qsKp0 mixed ?_); refine k_rund ?_; refine k_run ?_)
  clear fx c1 c2 e1
  rintro K hK y H' ⟨rfl, hO⟩
  obtain ⟨hc1, hc2⟩ := hO.hcln
  refine ⟨by simp, ?_⟩
  have fx :=  hc1
  have e1 := hcc
  refine k_run ?_
  repeat ((first | refine wSc (id := 3) qsKp0 mixed ?_); refine k_rund ?_; refine k_run ?_)
  clear fx e1
  rintro y H'' ⟨rfl, hO⟩
  obtain ⟨o1, o2, o3, o4, o5⟩ := hO.hcln
  refine ⟨by simp, ?_⟩
  have fx := And.intro o1 <| And.intro o2 <| And.intro o3 <| And.intro o4 <| o5
  refine k_run ?_
  repeat ((first | refine wSc (id := 3) qsKp0 mixed ?_); refine k_rund ?_; refine k_run ?_)
  clear fx
  refine e_ret [(.s 19, root)] (.one rfl) (by simp; rfl) ⟨?_, ⟨?_, ?_, ?_, ?_, ?_⟩⟩
  all_goals simp [o1, o2, o3, o4, o5]
end Go.Proofs.YtmaoicgfcngciaaGreatDoor
end
section
namespace Go.Proofs.YtmaoicgfcngciaaGreatDoor
open Go Go.Hm Go.Proofs
attribute [local simp] slcAV
theorem digs_at : ∀ n, n < 10 → ([48, 49, 50, 51, 52, 53, 54, 55, 56, 57] : Txt).drop n = dg n :: ([48, 49, 50, 51, 52, 53, 54, 55, 56, 57] : Txt).drop (n + 1) := by decide
theorem numN_len (n : Nat) : (numN n).length ≤ n + 1 := by
  induction n using Nat.strongRecOn with
  | _ n ih =>
    rw [numN]
    split
    · simp
    · have := ih (n / 10) (by omega)
      simp
      omega
theorem number_nat (gl) : ∀ (k n : Nat), n ≤ k → n < 1152921504606846976 → FnOk Tryz.prog gl 43 [iv n] (fun _ y _ => y = tx (numN n)) := by
  intro k
  induction k with
  | zero =>
    intro n hk hn
    obtain rfl : n = 0 := by omega
    have hw1 : IntKind.i64.wrap 1 = 1 := wrp (by omega) (by omega)
    refine FnOk.of_sem Tryz.func43 rfl (by kernel_rfl) (rs := [.tmp 2]) rfl Tryz.ntmps43 (Nat.le_of_ble_eq_true rfl) fun C w g root => ?_
    have fx :=  hw1
    refine k_run ?_
    clear fx
    refine e_ret [] .nil (by simp; rfl) ?_
    simp [numN]
    rfl
  | succ k ih =>
    intro n hk hn
    have hw1 : IntKind.i64.wrap ((n : Int) + 1) = n + 1 := wrp (by omega) (by omega)
    have n0 : ¬ (n : Int) < 0 := by omega
    by_cases h : n < 10
    · have hd := digs_at n h
      have hi : (n : Int) < 10 := by omega
      have h1 : (n : Int) ≤ 9 := by omega
      have h2 : ((n : Int) + 1).toNat = n + 1 := by omega
      have h3 : (n : Int) ≤ (n : Int) + 1 := by omega
      have h4 : (n : Int) + 1 ≤ 10 := by omega
      have h5 : (0 : Int) ≤ (n : Int) := by omega
      have h6 : n + 1 - n = 1 := by omega
      refine FnOk.of_sem Tryz.func43 rfl (by kernel_rfl) (rs := [.tmp 2]) rfl Tryz.ntmps43 (Nat.le_of_ble_eq_true rfl) fun C w g root => ?_
      have fx := And.intro hw1 <| And.intro n0 <| And.intro hi <| And.intro h1 <| And.intro h2 <| And.intro h3 <| And.intro h4 <| And.intro h5 <| And.intro h6 <| hd
      refine k_run ?_
      clear fx
      refine e_ret [] .nil (by simp; rfl) ?_
      rw [numN, if_pos h]
      simp
    · have hi : ¬ (n : Int) < 10 := by omega
      obtain ⟨q, hq⟩ : ∃ q, q = n / 10 := ⟨_, rfl⟩
      obtain ⟨r, hr⟩ : ∃ r, r = n % 10 := ⟨_, rfl⟩
      have hwq : IntKind.i64.wrap ((n : Int) / 10) = (q : Int) := by
        rw [show (n : Int) / 10 = (q : Int) by omega]
        exact wrp (by omega) (by omega)
      have hwr : (n : Int).tmod 10 = (r : Int) := by
        rw [hr]
        rfl
      have q1 := ih q (by omega) (by omega)
      have q2 := ih r (by omega) (by omega)
      have hl1 := numN_len q
      have hl2 := numN_len r
      have hl : (numN q).length + (numN r).length ≤ 9223372036854775807 := by omega
      refine FnOk.of_sem Tryz.func43 rfl (by kernel_rfl) (rs := [.tmp 2]) rfl Tryz.ntmps43 (Nat.le_of_ble_eq_true rfl) fun C w g root => ?_
      have fx := And.intro n0 <| And.intro hi <| And.intro hwq <| And.intro hwr <| hl
      have c1 := q1
      have c2 := q2
      refine k_run ?_
      clear fx c1 c2
      refine e_ret [] .nil (by simp; rfl) ?_
      rw [numN_small (n := r) (by omega)]
      conv => rhs; rw [numN, if_neg h, ← hq, ← hr]
      simp
theorem number_fn (gl) (n : Int) (h0 : -1000000 ≤ n) (h1 : n ≤ 1000000) : FnOk Tryz.prog gl 43 [iv n] (fun _ y _ => y = tx (numI n)) := by
  by_cases h : n < 0
  · obtain ⟨k, rfl⟩ : ∃ k : Nat, n = -(k : Int) := ⟨(-n).toNat, by omega⟩
    have q := number_nat gl k k (Nat.le_refl _) (by omega)
    have hl1 := numN_len k
    have hl : (numN k).length + 1 ≤ 9223372036854775807 := by omega
    have hl' : 1 + (numN k).length ≤ 9223372036854775807 := by omega
    have hk0 : 0 < k := by omega
    have hk1 : ¬ k = 0 := by omega
    have hne : ¬ -(k : Int) = (k : Int) := by omega
    have hwn : IntKind.i64.wrap (k : Int) = k := wrp (by omega) (by omega)
    refine FnOk.of_sem Tryz.func43 rfl (by kernel_rfl) (rs := [.tmp 2]) rfl Tryz.ntmps43 (Nat.le_of_ble_eq_true rfl) fun C w g root => ?_
    have fx := And.intro hwn <| And.intro hk0 <| And.intro hk1 <| And.intro hne <| And.intro hl <| hl'
    have c1 := q
    refine k_run ?_
    clear fx c1
    refine e_ret [] .nil (by simp; rfl) ?_
    simp [numI, h, hk1]
  · obtain ⟨k, rfl⟩ : ∃ k : Nat, n = (k : Int) := ⟨n.toNat, by omega⟩
    rw [numI_nat]
    exact number_nat gl k k (Nat.le_refl _) (by omega)
end Go.Proofs.YtmaoicgfcngciaaGreatDoor
end
section
namespace Go.Proofs.YtmaoicgfcngciaaGreatDoor
open Go Go.Hm Go.Proofs
abbrev qsUh0 : Sch := .q 0 <| .q 2 <| .q 3 <| .q 4 <| .q 5 <| .q 6 <| .l 1 [6, 5, 4, 3, 2, 0] <| .q 7 <| .q 8 <| .q 9 <| .l 10 [] <| .done
theorem opWords_fn (gl) : FnOk Tryz.prog gl 41 [] (fun r y H' => y = .hs r 1 0 opW.length ∧ H' r = some (.row 1 (xrows opW))) := by
  refine FnOk.of_sem Tryz.func41 rfl (by kernel_rfl) (rs := [.tmp 0]) rfl Tryz.ntmps41 (Nat.le_of_ble_eq_true rfl) fun C w g root => ?_
  have fx := fx0
  refine k_run ?_
  clear fx
  exact e_list (t := 0) (by first | (simp []; done) | (simp []; rfl)) (by first | (simp []; done) | (simp []; rfl)) (by simp)
theorem lone_fn (gl) (c : Int) : FnOk Tryz.prog gl 42 [iv c] (fun _ y _ => y = bv (loneO c)) := by
  refine FnOk.of_sem Tryz.func42 rfl (by kernel_rfl) (rs := [.tmp 2]) rfl Tryz.ntmps42 (Nat.le_of_ble_eq_true rfl) fun C w g root => ?_
  cases h1 : (c == 0)
  · cases h2 : (c == 14)
    · cases h3 : (c == 19)
      · skip
        have fx := And.intro h1 <| And.intro h2 <| h3
        refine k_run ?_
        clear fx
        refine e_ret [] .nil (by simp; rfl) (by simp [loneO, h1, h2, h3])
      · skip
        have fx := And.intro h1 <| And.intro h2 <| h3
        refine k_run ?_
        clear fx
        refine e_ret [] .nil (by simp; rfl) (by simp [loneO, h1, h2, h3])
    · skip
      have fx := And.intro h1 <| h2
      refine k_run ?_
      clear fx
      refine e_ret [] .nil (by simp; rfl) (by simp [loneO, h1, h2])
  · skip
    have fx :=  h1
    refine k_run ?_
    clear fx
    refine e_ret [] .nil (by simp; rfl) (by simp [loneO, h1])
theorem codeOps_txt {p : Prg} {b : Int} (hs : Sml p) : (∀ o ∈ (codeG p b).ops, TxtO o) ∧ (codeG p b).ops.length ≤ 60 := by
  cases hb : blkAt p b
  · have h2 : codeG p b = noCode := by simp [codeG, hb]
    rw [h2]
    exact ⟨fun o h => (by cases h), by simp [noCode]⟩
  · obtain ⟨B, k, rfl, hk, hP, _⟩ := blkAt_parts hs hb
    have h1 : codeG p B = codeL p B := by simp [codeG, hb]
    have hops : (codeL p B).ops = opsL p B := by simp [codeL, hk]
    rw [h1, hops]
    exact ⟨ord_txt hP.sh hk, opsL_len hP.sh⟩
theorem spec_ShowCode_fn (gl) (p : Prg) (b : Int) (hs : Sml p) : FnOk Tryz.prog gl 15 [pav p, iv b] (fun _ y _ => y = tx (fmtO (codeG p b).ops)) := by
  have hpl := hs.len
  have hw : IntKind.i64.wrap ((p.length : Int) - 1) = (p.length : Int) - 1 := wrp (by omega) (by omega)
  obtain ⟨hot, hol⟩ := codeOps_txt (b := b) hs
  refine FnOk.of_sem Tryz.func15 rfl (by kernel_rfl) (rs := [.tmp 4]) rfl Tryz.ntmps15 (Nat.le_of_ble_eq_true rfl) fun C w g root => ?_
  cases hv : progOk p
  · have hno : fmtO (codeG p b).ops = [] := by simp [codeG, blkAt, hv, noCode, fmtO, linesL]
    rw [hno]
    have fx := And.intro hv <| hw
    have c1 := validProgram_fn gl p hs
    refine k_run ?_
    repeat ((first | refine wSc (id := 8) qsUh0 mixed ?_); refine k_rund ?_; refine k_run ?_)
    clear fx c1
    refine e_ret [] .nil (by simp; rfl) (by simp)
  cases hb : blkAt p b
  · have hno : fmtO (codeG p b).ops = [] := by simp [codeG, hb, noCode, fmtO, linesL]
    have hn := blkAt_not hb hv
    have hr : (decide (0 ≤ b) && decide (b ≤ (p.length : Int) - 1)) = false := by
      apply Bool.eq_false_iff.2
      intro h
      simp only [Bool.and_eq_true, decide_eq_true_eq] at h
      exact hn h
    rw [hno]
    have fx := And.intro hv <| And.intro hw <| hr
    have c1 := validProgram_fn gl p hs
    have c2 := inRange_fn gl b 0 ((p.length : Int) - 1)
    refine k_run ?_
    repeat ((first | refine wSc (id := 8) qsUh0 mixed ?_); refine k_rund ?_; refine k_run ?_)
    clear fx c1 c2
    refine e_ret [] .nil (by simp; rfl) (by simp)
  obtain ⟨B, k, rfl, hk, hP, _⟩ := blkAt_parts hs hb
  have hBl := (gS hk).1
  have hr : (B : Int) ≤ (p.length : Int) - 1 := by omega
  have hcc := spec_compiled_fn gl p B k hk hP
  have h1 : codeG p B = codeL p B := by simp [codeG, hb]
  rw [h1] at hot hol ⊢
  clear h1
  generalize codeL p B = c at *
  have fx := And.intro hv <| And.intro hw <| hr
  have c1 := validProgram_fn gl p hs
  have c2 := inRange_fn gl B 0 ((p.length : Int) - 1)
  have e1 := hcc
  refine k_run ?_
  repeat ((first | refine wSc (id := 8) qsUh0 mixed ?_); refine k_rund ?_; refine k_run ?_)
  clear fx c1 c2 e1
  rintro K hK y H' ⟨rfl, hO⟩
  obtain ⟨o1, o2, o3, o4, o5⟩ := hO.hcln
  refine ⟨by simp, ?_⟩
  have fx := And.intro o1 <| And.intro o2 <| And.intro o3 <| And.intro o4 <| o5
  refine k_run ?_
  repeat ((first | refine wSc (id := 8) qsUh0 mixed ?_); refine k_rund ?_; refine k_run ?_)
  clear fx
  refine w_loop (fun n st => ∃ i : Nat, n = c.ops.length - i ∧ i ≤ c.ops.length ∧ st.tm 6 = .hs (.c (.s 22) 0 5) 2 0 c.ops.length ∧ st.hp (.c (.s 22) 0 5) = some (.row 2 (orows c.ops)) ∧ st.tm 7 = iv i ∧ st.tm 5 = tx (fmtO (c.ops.take i))) c.ops.length ?_ ?_
  · exact ⟨0, by omega, by omega, by simp, by simp [o5], by simp, by simp [fmtO, linesL]⟩
  rintro n st - - ⟨i, rfl, hi, h6, hp6, h7, h5⟩
  by_cases hil : i < c.ops.length
  · obtain ⟨o, ho⟩ : ∃ o, c.ops[i]? = some o := ⟨_, gE hil⟩
    obtain ⟨_, hoE⟩ := gS ho
    have hto := hot o (List.mem_of_getElem? ho)
    have hco := hto.code
    have har := hto.arg
    have hsl := showO_len hto
    have hfl := fmtO_len (i := i) hot
    have hnext := fmtO_succ ho
    obtain ⟨c1, a1⟩ := o
    simp only at hco har
    obtain ⟨J, rfl⟩ : ∃ J : Nat, c1 = J := ⟨c1.toNat, by omega⟩
    have hJ : J < 21 := by omega
    have hJl : J < opW.length := hJ
    obtain ⟨v, hvw⟩ : ∃ v, opW[J]? = some v := ⟨_, gE hJl⟩
    obtain ⟨_, hvE⟩ := gS hvw
    have hvg : opW.getD J [] = v := by simp [List.getD_eq_getElem?_getD, hvw]
    have hvl := opW_len J hJ
    rw [hvg] at hvl
    generalize fmtO (c.ops.take i) = L at h5 hfl hnext
    cases hlo : loneO (J : Int)
    · rw [showO_arg hlo hvg] at hnext
      have hxl := numI_len har
      have hl1 : ∀ c, 2000000000 ≤ c → L.length + v.length ≤ c := fun c hc => by omega
      have hl2 : ∀ c, 2000000000 ≤ c → L.length + v.length + 1 ≤ c := fun c hc => by omega
      have hl3 : ∀ c, 2000000000 ≤ c → L.length + (v.length + 1) + (numI a1).length ≤ c := fun c hc => by omega
      have hl4 : ∀ c, 2000000000 ≤ c → L.length + (v.length + ((numI a1).length + 1)) ≤ c := fun c hc => by omega
      have hl5 : ∀ c, 2000000000 ≤ c → L.length + (v.length + (numI a1).length) ≤ c := fun c hc => by omega
      have fx := And.intro h6 <| And.intro hp6 <| And.intro h7 <| And.intro h5 <| And.intro hil <| And.intro ho <| And.intro hoE <| And.intro hJl <| And.intro hvw <| And.intro hvE <| And.intro hlo <| And.intro hl1 <| And.intro hl2 <| And.intro hl3 <| And.intro hl4 <| hl5
      have c1 := lone_fn gl (J : Int)
      have c2 := number_fn gl a1 (by omega) (by omega)
      have d1 := opWords_fn gl
      refine k_run ?_
      repeat ((first | refine wSc (id := 8) qsUh0 mixed ?_); refine k_rund ?_; refine k_run ?_)
      clear fx c1 c2 d1
      refine ⟨c.ops.length - (i + 1), by omega, i + 1, rfl, by omega, by simp [h6], by simp [hp6], by simp [h7]; exact wrp (by omega) (by omega), by simp [hnext]⟩
    · rw [showO_lone hlo hvg] at hnext
      have hl1 : ∀ c, 2000000000 ≤ c → L.length + v.length ≤ c := fun c hc => by omega
      have fx := And.intro h6 <| And.intro hp6 <| And.intro h7 <| And.intro h5 <| And.intro hil <| And.intro ho <| And.intro hoE <| And.intro hJl <| And.intro hvw <| And.intro hvE <| And.intro hlo <| hl1
      have c1 := lone_fn gl (J : Int)
      have d1 := opWords_fn gl
      refine k_run ?_
      repeat ((first | refine wSc (id := 8) qsUh0 mixed ?_); refine k_rund ?_; refine k_run ?_)
      clear fx c1 d1
      refine ⟨c.ops.length - (i + 1), by omega, i + 1, rfl, by omega, by simp [h6], by simp [hp6], by simp [h7]; exact wrp (by omega) (by omega), by simp [hnext]⟩
  · obtain rfl : i = c.ops.length := by omega
    have fx := And.intro h6 <| And.intro hp6 <| And.intro h7 <| And.intro h5 <| hil
    refine k_run ?_
    repeat ((first | refine wSc (id := 8) qsUh0 mixed ?_); refine k_rund ?_; refine k_run ?_)
    clear fx
    refine e_ret [] .nil (by simp [h5]; rfl) ?_
    simp
theorem hasArg_fn (gl) (c : Int) : FnOk Tryz.prog gl 45 [iv c] (fun _ y _ => y = bv (!loneO c)) := by
  refine FnOk.of_sem Tryz.func45 rfl (by kernel_rfl) (rs := [.tmp 2]) rfl Tryz.ntmps45 (Nat.le_of_ble_eq_true rfl) fun C w g root => ?_
  cases h1 : (c == 0)
  · cases h2 : (c == 14)
    · cases h3 : (c == 19)
      · skip
        have fx := And.intro h1 <| And.intro h2 <| And.intro h3 <| @bne_def
        refine k_run ?_
        clear fx
        refine e_ret [] .nil (by simp; rfl) (by simp [loneO, h1, h2, h3])
      · skip
        have fx := And.intro h1 <| And.intro h2 <| And.intro h3 <| @bne_def
        refine k_run ?_
        clear fx
        refine e_ret [] .nil (by simp; rfl) (by simp [loneO, h1, h2, h3])
    · skip
      have fx := And.intro h1 <| And.intro h2 <| @bne_def
      refine k_run ?_
      clear fx
      refine e_ret [] .nil (by simp; rfl) (by simp [loneO, h1, h2])
  · skip
    have fx := And.intro h1 <| @bne_def
    refine k_run ?_
    clear fx
    refine e_ret [] .nil (by simp; rfl) (by simp [loneO, h1])
theorem impl_ShowCode_fn (gl) (hgl : gl 0 = some ((vtx opW).map AV.sc)) (hgc : gl 3 = some codesL) (p : Prg) (b : Int) (hs : Sml p) : FnOk Tryz.prog gl 17 [pav p, iv b] (fun _ y _ => y = tx (fmtO (codeG p b).ops)) := by
  obtain ⟨hot, hol⟩ := codeOps_txt (b := b) hs
  have hcc := impl_CompileBlock_fn gl hgc p b hs
  generalize codeG p b = c at *
  refine FnOk.of_sem Tryz.func17 rfl (by kernel_rfl) (rs := [.tmp 4]) rfl Tryz.ntmps17 (Nat.le_of_ble_eq_true rfl) fun C w g root => ?_
  have fx := fx0
  have b1 := bld_zv
  have e1 := hcc
  refine k_runp ?_
  clear fx b1 e1
  rintro K hK y H' ⟨rfl, hO⟩
  obtain ⟨o1, o2, o3, o4, o5⟩ := hO.hcln
  refine ⟨by simp, ?_⟩
  have fx := And.intro o1 <| And.intro o2 <| And.intro o3 <| And.intro o4 <| o5
  refine k_run ?_
  clear fx
  refine w_loop (fun n st => ∃ i : Nat, n = c.ops.length - i ∧ i ≤ c.ops.length ∧ st.tm 5 = .pt (.s 5) 0 ∧ st.tm 12 = .hs (.c (.s 11) 0 5) 2 0 c.ops.length ∧ st.hp (.c (.s 11) 0 5) = some (.row 2 (orows c.ops)) ∧ st.tm 13 = iv c.ops.length ∧ st.tm 14 = iv i ∧ BldAt st.hp (.s 5) 73 5 (fmtO (c.ops.take i))) c.ops.length ?_ ?_
  · exact ⟨0, by omega, by omega, by simp, by simp, by simp [o5], by simp, by simp, .inl ⟨by simp [fmtO, linesL], by simp⟩⟩
  rintro n st - hgs ⟨i, rfl, hi, h5, h12, hp12, h13, h14, hB⟩
  replace hgs : st.gl = gl := hgs
  by_cases hil : i < c.ops.length
  · obtain ⟨o, ho⟩ : ∃ o, c.ops[i]? = some o := ⟨_, gE hil⟩
    obtain ⟨_, hoE⟩ := gS ho
    have hto := hot o (List.mem_of_getElem? ho)
    have hco := hto.code
    have har := hto.arg
    have hsl := showO_len hto
    have hfl := fmtO_len (i := i) hot
    have hnext := fmtO_succ ho
    obtain ⟨c1, a1⟩ := o
    simp only at hco har
    obtain ⟨J, rfl⟩ : ∃ J : Nat, c1 = J := ⟨c1.toNat, by omega⟩
    have hJ : J < 21 := by omega
    have hJi : (J : Int) < 21 := by omega
    have hJl : J < opW.length := hJ
    obtain ⟨v, hvw⟩ : ∃ v, opW[J]? = some v := ⟨_, gE hJl⟩
    obtain ⟨_, hvE⟩ := gS hvw
    have hvg : opW.getD J [] = v := by simp [List.getD_eq_getElem?_getD, hvw]
    have hvl := opW_len J hJ
    rw [hvg] at hvl
    have hvn : v ≠ [] := fun e => by rw [e] at hvl; simp at hvl
    cases hlo : loneO (J : Int)
    case' false =>
      rw [showO_arg hlo hvg] at hnext
      rw [showO_arg hlo hvg] at hsl
      have hq := lineOfWords_fn gl v [a1] (isl [a1]) (.inl rfl) hvn (by omega) (fun x hx => by rw [List.mem_singleton] at hx; subst hx; exact har) (by simp)
      rw [show wordsL v [a1] = v ++ 32 :: numI a1 by simp [wordsL]] at hq
      generalize v ++ 32 :: numI a1 = u at hnext hsl hq
      have fx := And.intro h5 <| And.intro h12 <| And.intro hp12 <| And.intro h13 <| And.intro h14 <| And.intro hil <| And.intro ho <| And.intro hoE <| And.intro hlo <| And.intro hgs <| And.intro hgl <| And.intro hvw <| And.intro hvE <| And.intro hJl <| hJi
      have c1 := hasArg_fn gl (J : Int)
      have c2 := hq
      refine k_run ?_
      clear fx c1 c2
    case' true =>
      rw [showO_lone hlo hvg] at hnext
      rw [showO_lone hlo hvg] at hsl
      have hq := lineOfWords_fn gl v [] (isl []) (.inl rfl) hvn (by omega) (fun x hx => by cases hx) (by simp)
      rw [show wordsL v [] = v by simp [wordsL]] at hq
      have fx := And.intro h5 <| And.intro h12 <| And.intro hp12 <| And.intro h13 <| And.intro h14 <| And.intro hil <| And.intro ho <| And.intro hoE <| And.intro hlo <| And.intro hgs <| And.intro hgl <| And.intro hvw <| And.intro hvE <| And.intro hJl <| hJi
      have c1 := hasArg_fn gl (J : Int)
      have c2 := hq
      refine k_run ?_
      clear fx c1 c2
    all_goals
      intro K hK
      have fx := And.intro h5 h5
      refine x_wstr 5 lay166 layB rfl rfl (hB.go (by intro e; simp [e]) (by intro e; simp [e]) (by intro e; simp [e])) (hs := by simp) (hlen := by simp; omega) (h := ?_)
      clear fx
      rintro st' - hg htm hhp f1 f2
      have g5 : st'.tm 5 = .pt (.s 5) 0 := by simp [htm, h5]
      have g12 := htm 12
      have g13 := htm 13
      have g14 := htm 14
      simp [h12, h13, h14] at g12 g13 g14
      have gp12 : st'.hp (.c (.s 11) 0 5) = some (.row 2 (orows c.ops)) := by simp [hhp, hp12]
      clear htm hhp
      have fx := And.intro g5 <| And.intro g12 <| And.intro g13 <| g14
      refine k_run ?_
      clear fx
      refine ⟨c.ops.length - (i + 1), by omega, i + 1, rfl, by omega, by simp [g5], by simp [g12], by simp [gp12], by simp [g13], by simp; exact wrp (by omega) (by omega), ?_⟩
      rw [hnext]
      exact .inr ⟨by simp, by simpa using f1, by simpa using f2⟩
  · obtain rfl : i = c.ops.length := by omega
    rw [List.take_length] at hB
    have fx := And.intro h5 <| And.intro h12 <| And.intro h13 <| And.intro h14 <| hil
    refine k_run ?_
    clear fx
    intro K hK
    have fx := And.intro h5 h5
    refine x_str (l := fmtO c.ops) 5 lay169 layB rfl rfl (hB.go (by intro e; simp [e]) (by intro e; simp [e]) (by intro e; simp [e])) (h := ?_)
    clear fx
    have fx := fx0
    refine k_run ?_
    clear fx
    refine e_ret [] .nil (by simp; rfl) (by simp)
end Go.Proofs.YtmaoicgfcngciaaGreatDoor
end
section
namespace Go.Proofs.YtmaoicgfcngciaaGreatDoor
open Go Go.Hm Go.Proofs
attribute [local simp] slcAV
theorem readOps_fn (gl) {m : Int} (hgm : gl 5 = some [.sc (.int .i64 m)]) (hgo : gl 0 = some ((vtx opW).map AV.sc)) (s : Txt) (hs : s.length ≤ 1048576) :
    FnE Tryz.prog gl 62 noD [tx s] noH (fun r y H' => ∃ os, readCode s = some os ∧ y = .hs r 2 0 os.length ∧ H' r = some (.row 2 (orows os))) (badQ (readCode s = none)) := by
  have hlen := split_len (c := 10) (s := s)
  have hpart := split_part (c := 10) (s := s)
  have hsp := ireader_fn gl hgm s hs
  have hgood : (splitL 10 s).getLast? = some [] → readCode s = readL1 (splitL 10 s).dropLast := fun e => by unfold readCode; rw [if_pos e]
  have hbad : (splitL 10 s).getLast? ≠ some [] → readCode s = none := fun e => by unfold readCode; rw [if_neg e]
  generalize readCode s = RC at hgood hbad ⊢
  generalize splitL 10 s = L at hlen hpart hsp hgood hbad
  refine FnE.of_sem Tryz.func62 rfl (by kernel_rfl) (rs := [.tmp 2]) rfl Tryz.ntmps62 (Nat.le_of_ble_eq_true rfl) (fun _ h => by cases h) fun C w g root hroot => ?_
  have fx := fx0
  refine k_run ?_
  clear fx
  intro K hK
  refine x_ownE (ha := by simp; first | done | rfl) (hF := hsp) (hE := fun x s hx hq => ⟨[], .nil, hx.tr, hbad hq⟩) (h := ?_)
  rintro y H1 ⟨hlast, rfl, hH1⟩
  have hRC := hgood hlast
  have hdl : ∀ v ∈ L.dropLast, v.length ≤ 1048577 := fun v hv => by have := hpart v (List.dropLast_subset _ hv); omega
  have hdn : L.dropLast.length ≤ 1048577 := by rw [List.length_dropLast]; omega
  generalize L.dropLast = I at hH1 hdl hdn hRC
  clear hlast hpart hlen hsp hgood hbad
  have fx := fx0
  refine k_run ?_
  clear fx
  refine w_loop (fun n st => ∃ (dn ls : List Txt) (os : List (Int × Int)) (x : AV), n = ls.length ∧ I = dn ++ ls ∧ readL1 dn = some os ∧ st.tm 4 = .pt (.s 4) 0 ∧ st.hp (.s 4) = some (.row 2 [[xsl ls, x]]) ∧ st.tm 3 = .hs (.s 3) 2 0 os.length ∧ st.hp (.s 3) = some (.row 2 (orows os)) ∧ (x = .hs (.c (.s 4) 0 1) 1 0 0 ∨ ∃ ws, x = xsl ws)) I.length ?_ ?_
  · exact ⟨[], I, [], .hs (.c (.s 4) 0 1) 1 0 0, rfl, rfl, rfl, by simp, by simp [hH1], by simp, by simp, .inl rfl⟩
  clear hH1
  rintro n st - hgs ⟨dn, ls, os, x, rfl, rfl, hos, h4, hp4, h3, hp3, hx⟩
  replace hgs : st.gl = gl := hgs
  have hol := readL1_len hos
  rw [List.length_append] at hdn
  have hlsb : ∀ v ∈ ls, v.length ≤ 1048577 := fun v hv => hdl v (by simp [hv])
  rcases hx with rfl | ⟨ws0, rfl⟩
  case' inl =>
    have fx := And.intro h4 <| And.intro hp4 <| And.intro h3 <| hp3
    refine k_run ?_
    clear fx
    intro K hK
    have fx := And.intro h4 h4
    refine x_mutc (.s 4) (.u 1 0 0) (hext := rfl) (hs := by simp [hp4]) (hF := nextLine_fn _ hgm _ ls (.hs (.c (.u 1 0 0) 0 1) 1 0 0) hlsb (by simp [hp4])) (h := ?_)
  case' inr =>
    have fx := And.intro h4 <| And.intro hp4 <| And.intro h3 <| hp3
    refine k_run ?_
    clear fx
    intro K hK
    have fx := And.intro h4 h4
    refine x_mutc (.s 4) (.u 1 0 0) (hext := rfl) (hs := by simp [hp4]) (hF := nextLine_fn _ hgm _ ls (xsl ws0) hlsb (by simp [hp4])) (h := ?_)
  all_goals
    rintro y H1 hy
    clear fx
    rcases hy with ⟨rfl, rfl⟩ | ⟨l, ls', rfl, rfl, hH1⟩
    · skip
      have fx := And.intro h4 <| h3
      refine k_run ?_
      clear fx
      refine e_ret [(.s 2, root)] (.one rfl) (by simp [h3]; rfl) ⟨os, by rw [hRC, List.append_nil]; exact hos, by simp, by simp [hp3]⟩
    have hlb := hlsb l (by simp)
    have hwb : ∀ v ∈ splitL 32 l, v.length ≤ 1048577 := fun v hv => by have := split_part v hv; omega
    have fx := And.intro h4 <| And.intro h3 <| And.intro hp3 <| hH1
    refine k_run ?_
    clear fx
    intro K hK
    refine o_abs (fun st => st.gl = gl ∧ st.tm 12 = .pt (.s 4) 0 ∧ st.tm 4 = .pt (.s 4) 0 ∧ st.hp (.s 4) = some (rdW ls' (splitL 32 l)) ∧ st.tm 3 = .hs (.s 3) 2 0 os.length ∧ st.hp (.s 3) = some (.row 2 (orows os))) ⟨by simp [hgs], by simp [h4], by simp [h4], by simp [hH1], by simp [h3], by simp [hp3]⟩ ?_
    clear h4 h3 hp3 hp4 hH1 hgs
    rintro st ⟨hgs, h12, h4, hp4, h3, hp3⟩
    have fx := And.intro h12 h12
    refine x_mutcE (.s 4) (.u 1 0 0) (hext := rfl) (hs := by simp [hp4]) (hF := word_fn _ _ ls' (splitL 32 l) (by simp [hp4])) (hE := fun x s hx hq => ⟨[], .nil, hx.tr, by rw [hRC]; exact readL1_bad (readO_no0 hq)⟩) (h := ?_)
    rintro y H2 ⟨v, ws, hvs, rfl, hH2⟩
    clear fx
    cases hc : codeW v with
    | none =>
      have hq := codeOf_fn gl hgo v
      rw [hc] at hq
      have hwi : wordI none = -1 := rfl
      rw [hwi] at hq
      have fx := And.intro h4 <| And.intro h3 <| And.intro hp3 <| And.intro hH2 <| hgs
      have c1 := hq
      refine k_run ?_
      clear fx c1
      intro K hK
      refine x_pan (hx := by simp; first | done | exact ⟨rfl, rfl⟩) ?_
      exact ⟨[], .nil, ⟨_, _, rfl, .inl rfl⟩, by rw [hRC]; exact readL1_bad (readO_no1 hvs hc)⟩
    | some c =>
      have hq := codeOf_fn gl hgo v
      rw [hc] at hq
      have hneg : (wordI (some c) == -1) = false := by simp [wordI]
      have hwi : wordI (some c) = (c : Int) := rfl
      rw [hwi] at hq hneg
      cases hlo : loneO (c : Int)
      · skip
        have fx := And.intro h4 <| And.intro h3 <| And.intro hp3 <| And.intro hH2 <| And.intro hgs <| And.intro hneg <| hlo
        have c1 := hq
        have c2 := hasArg_fn gl (c : Int)
        refine k_run ?_
        clear fx c1 c2
        intro K hK
        have fx := And.intro h4 h4
        refine x_mutcE (.s 4) (.u 1 0 0) (hext := rfl) (hs := by simp [hH2]) (hF := number_rd _ _ ls' ws (fun x hx => hwb x (by rw [hvs]; simp [hx])) (by simp [hH2])) (hE := fun x s hx hq => ⟨[], .nil, hx.tr, by rw [hRC]; exact readL1_bad (readO_no3 hvs hc hlo hq)⟩) (h := ?_)
        rintro y H3 ⟨b, ws', hn, rfl, hH3⟩
        clear fx
        have fx := And.intro h4 <| And.intro h3 <| And.intro hp3 <| And.intro hH2 <| hH3
        refine k_run ?_
        clear fx
        intro K hK
        have fx := And.intro h4 h4
        refine x_mutcE (.s 4) (.u 1 0 0) (hext := rfl) (hs := by simp [hH3]) (hF := endLine_fn _ _ ls' ws' (by simp [hH3])) (hE := fun x s hx hq => ⟨[], .nil, hx.tr, by rw [hRC]; exact readL1_bad (readO_no4 hvs hc hlo hn hq)⟩) (h := ?_)
        rintro y H4 ⟨rfl, hH4⟩
        clear fx
        have fx := And.intro h4 <| And.intro h3 <| And.intro hp3 <| And.intro hH2 <| And.intro hH3 <| And.intro hH4 <| hgs
        refine k_run ?_
        clear fx
        refine ⟨ls'.length, by simp, dn ++ [l], ls', os ++ [((c : Int), (b : Int))], xsl [], rfl, by simp, readL1_snoc hos (readO_arg hvs hc hlo hn), by simp [h4], by simp [hH4], by simp, by simp [orows], .inr ⟨[], rfl⟩⟩
      · skip
        have fx := And.intro h4 <| And.intro h3 <| And.intro hp3 <| And.intro hH2 <| And.intro hgs <| And.intro hneg <| hlo
        have c1 := hq
        have c2 := hasArg_fn gl (c : Int)
        refine k_run ?_
        clear fx c1 c2
        intro K hK
        have fx := And.intro h4 h4
        refine x_mutcE (.s 4) (.u 1 0 0) (hext := rfl) (hs := by simp [hH2]) (hF := endLine_fn _ _ ls' ws (by simp [hH2])) (hE := fun x s hx hq => ⟨[], .nil, hx.tr, by rw [hRC]; exact readL1_bad (readO_no2 hvs hc hlo hq)⟩) (h := ?_)
        rintro y H4 ⟨rfl, hH4⟩
        clear fx
        have fx := And.intro h4 <| And.intro h3 <| And.intro hp3 <| And.intro hH2 <| And.intro hH4 <| hgs
        refine k_run ?_
        clear fx
        refine ⟨ls'.length, by simp, dn ++ [l], ls', os ++ [((c : Int), 0)], xsl [], rfl, by simp, readL1_snoc hos (readO_lone hvs hc hlo), by simp [h4], by simp [hH4], by simp, by simp [orows], .inr ⟨[], rfl⟩⟩
end Go.Proofs.YtmaoicgfcngciaaGreatDoor
end
section
namespace Go.Proofs.YtmaoicgfcngciaaGreatDoor
open Go Go.Hm Go.Proofs
attribute [local simp] slcAV
theorem rcD_idle (b1 b2 : Nat) (w : World) : CallsD Tryz.prog 61 #[.pointer (some ⟨b1, 0, none⟩), .pointer (some ⟨b2, 0, none⟩)] .returning w fun e u' w' => e = .returned (.tuple #[]) ∧ u' = .returning ∧ w' = w := by
  refine callsD_of_wpS Tryz.func61 rfl fun c₀ cs hu => ?_
  apply wpS_seq
  apply wpS_region
  simp [wpOpsS, go_sem, recoverD, hu, Tryz.ntmps61, Exit.thenS]
  refine wpS_cond (t := false) (by simp [Go.Act.eval, Array.replicate]) ?_
  simp only [Bool.false_eq_true, if_false]
  refine wpS_of_wp (wp_skip ?_)
  cases c₀
  simp_all [bodyPostS, results, Tryz.results61]
theorem rcD_catch (b1 b2 : Nat) (ty : TypeId) (pv : Value) (w w1 w2 : World) (r1 : (Instr.storeAt 50 (.pointer (some ⟨b1, 0, none⟩)) (.slice none 0 0)).run Tryz.prog w = .ok () w1) (r2 : (Instr.storeAt 4 (.pointer (some ⟨b2, 0, none⟩)) (.bool false)).run Tryz.prog w1 = .ok () w2) :
    CallsD Tryz.prog 61 #[.pointer (some ⟨b1, 0, none⟩), .pointer (some ⟨b2, 0, none⟩)] (.panicking [{ v := .iface ty pv, recovered := false }]) w fun e u' w' => e = .returned (.tuple #[]) ∧ u' = .panicking [{ v := .iface ty pv, recovered := true }] ∧ w' = w2 := by
  refine callsD_of_wpS Tryz.func61 rfl fun c₀ cs hu => ?_
  apply wpS_seq
  apply wpS_region
  simp [wpOpsS, go_sem, recoverD, hu, Tryz.ntmps61, Exit.thenS]
  refine wpS_cond (t := true) (by simp [Go.Act.eval, Array.replicate]) ?_
  simp only [if_true]
  apply wpS_region
  show wpOpsS _ _ _ [0, 1] _ _ _
  simp [wpOpsS, Region.wanted, Oper.upon, Go.Act.put, execOp, Go.Act.eval, Array.replicate, r1, r2, bodyPostS, results, Tryz.results61]
theorem ReadCode_fn (gl) {m : Int} (hgm : gl 5 = some [.sc (.int .i64 m)]) (hgo : gl 0 = some ((vtx opW).map AV.sc)) (s : Txt) (hs : s.length ≤ 1048576) :
    FnOk Tryz.prog gl 26 [tx s] (fun r y H' => match readCode s with
      | some os => y = .tup [.hs r 2 0 os.length, bv true] ∧ H' r = some (.row 2 (orows os))
      | none => y = .tup [.hs r 2 0 0, bv false] ∧ H' r = some (.row 2 [])) := by
  have hro := readOps_fn gl hgm hgo s hs
  refine FnE.of_door (t := 4) (F := 61) (s1 := 2) (s2 := 3) (T1 := 50) (T2 := 4) (v1 := .slice none 0 0) (v2 := .bool false) (n1 := .s 2) (n2 := .s 3) (o1 := ⟨none, .store 50 (.tmp 2) (.const (.slice none 0 0)), 0, "", #[], none⟩) (o2 := ⟨none, .store 4 (.tmp 3) (.const (.bool false)), 0, "", #[], none⟩) Tryz.func26 rfl (by kernel_rfl) (rs := [.cell 2 50, .cell 3 4]) rfl Tryz.ntmps26 (Nat.le_of_ble_eq_true rfl) (fun _ h => by cases h) ⟨_, Tryz.func61, by kernel_rfl, rfl⟩ rfl rfl rfl rfl rcD_idle rcD_catch fun C w g root hroot a w' hR => ?_
  refine w_pre ?_ hR
  clear hR
  have fx := fx0
  refine k_run ?_
  clear fx
  show ∀ a w, Rw _ _ a w → _
  intro a w' hR
  refine w_defer (ats := #[]) (l1 := [_]) (l2 := []) rfl ?_ ?_ ?_ (by simp) ?_ hR
  · rfl
  · rfl
  · rfl
  clear hR
  have fx := fx0
  refine s_none ?_
  refine x_q (h := ?_)
  clear fx
  show _ ∧ _
  refine ⟨⟨_, _, _, by simp; exact ⟨rfl, rfl, rfl⟩⟩, ?_⟩
  show SemCodeD _ _ _ _ _
  refine wd_seq (wd_region (by simp) fun K hK => ?_)
  have fx := fx0
  refine s_none ?_
  refine x_q (h := ?_)
  clear fx
  refine s_none ?_
  refine x_ownP (ha := by simp; first | done | rfl) (hF := hro) (hE := fun x H' hx hq => ?_) (h := ?_)
  · refine ⟨by simp, by simp, by simp, hx, ?_⟩
    have fx := fx0
    refine k_run ?_
    clear fx
    refine ⟨[(.c (.s 2) 0 0, root)], _, .one rfl, by simp; rfl, ?_⟩
    rw [hq]
    simp
  · rintro y H' ⟨os, ho, rfl, hH'⟩
    have fx := hH'
    refine k_run ?_
    clear fx
    refine wd_ret ?_
    refine ⟨by simp, [(.c (.s 2) 0 0, root)], _, .one rfl, by simp; rfl, ?_⟩
    rw [ho]
    simp [hH']
end Go.Proofs.YtmaoicgfcngciaaGreatDoor
end
