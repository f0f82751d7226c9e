/-
  Own texts, joined by mkclaim.py: Kq, Kj, Kk, Kl, Kn, Km.
-/
import Derived.Test.YtmpbjmihjelhgaaDoorM20
import Derived.Test.YtmpbjmihjelhgaaDoorM13
import Derived.Test.YtmpbjmihjelhgaaDoorM22
import Derived.Test.YtmpbjmihjelhgaaDoorM12
import Derived.Test.YtmpbjmihjelhgaaDoorM27
set_option linter.unusedSimpArgs false
set_option linter.unusedVariables false

section
/-
  The generator's arguments for the laws on codes.
-/
set_option maxRecDepth 100000
set_option maxHeartbeats 2000000
set_option linter.unusedSimpArgs false
namespace Go.Proofs.YtmpbjmihjelhgaaDoor
open Go Go.Hm Go.Proofs

theorem DrawCompileBlock_fn (gl) (code : List Int) (hc : CodeOk code) : FnOk Tryd.prog gl 37 [bsl code] (fun r z H' => ∃ (p : Prg) (b : Int), z = .tup [.agg [.hs r 4 0 p.length], iv b] ∧ OwnP H' r p ∧ Sml p) := by
  have hb := hc.bytes
  refine FnOk.of_sem Tryd.func37 rfl (by kernel_rfl) (rs := [.cell 2 25, .tmp 3]) rfl Tryd.ntmps37 (Nat.le_of_ble_eq_true rfl) fun C w g root => ?_
  have fx := fx0
  refine k_run ?_
  clear fx
  intro K hK
  refine x_own (ha := by simp) (hF := newReader_fn _ code hc.len) (h := ?_)
  rintro z H1 ⟨rfl, hR⟩
  have fx :=  hR
  refine k_run ?_
  clear fx
  refine o_mv (.s 5) (.u 1 0 0) (.inl rfl) (.inr rfl) ?_
  refine x_rdo (bs := code.take 2000) (hs := by simp [hR]) (ha := by first | (simp; done) | (simp; rfl)) (hF := blockOf_fn _ _ (code.take 2000) 0 hb (by omega) (by simp [hR]) (by simp) (by simp) (by simp)) (h := ?_)
  rintro z H2 ⟨p, b, q, rfl, ⟨ho1, ho2, ho3⟩, hs, hpl, hq, hU⟩
  refine ⟨q, hU, ?_⟩
  have fx :=  ho1
  refine k_run ?_
  clear fx
  refine e_ret [(.c (.s 2) 0 0, root)] (.one rfl) (by simp; rfl) ⟨p, b, by simp, ⟨?_, fun j r hj => ?_, fun j r hj => ?_⟩, hs⟩
  · simp [ho1, pRows_tr (n := .c (.s 2) 0 0) (m := root) (f := finf noD [(.c (.s 2) 0 0, root)]) (p := p) (by simp)]
  · simp [ho2 j r hj]
  · simp [ho3 j r hj]
end Go.Proofs.YtmpbjmihjelhgaaDoor
end

section
/-
  The reference's orders of statements and blocks: what they are.
-/
set_option maxRecDepth 100000
set_option maxHeartbeats 1000000
set_option linter.unusedSimpArgs false
namespace Go.Proofs.YtmpbjmihjelhgaaDoor
open Go Go.Hm Go.Proofs

theorem kinds12 {k : Int} (h : 0 ≤ k ∧ k ≤ 11) : k = 0 ∨ k = 1 ∨ k = 2 ∨ k = 3 ∨ k = 4 ∨ k = 5 ∨ k = 6 ∨ k = 7 ∨ k = 8 ∨ k = 9 ∨ k = 10 ∨ k = 11 := by omega
/-- the tick and what loads i of the names read -/
abbrev preL (p : Prg) (b : Nat) (s : Stm) (i : Nat) : List (Int × Int) := (0, 0) :: (s.reads.take i).map fun x => nameOp p b x 0
theorem preL_next {p : Prg} {b : Nat} {s : Stm} {i : Nat} {u : Int} (h : s.reads[i]? = some u) : preL p b s (i + 1) = preL p b s i ++ [nameOp p b u 0] := by
  simp [preL, List.take_add_one, h]
theorem stmtL_pre {p : Prg} {b : Nat} {s : Stm} : stmtL p b s = preL p b s s.reads.length ++ (workL s ++ setL p b s) := by simp [stmtL, preL, readL]

theorem spec_stmtOps_fn (gl) (p : Prg) (b : Nat) (k : Blk) (s : Stm) (hk : p[b]? = some k) (hP : LookP p) (hkd : 0 ≤ s.kind ∧ s.kind ≤ 11) : FnOk Tryd.prog gl 113 [pav p, iv b, s.av] (fun r y H' => y = .hs r 2 0 (stmtL p b s).length ∧ H' r = some (.row 2 (orows (stmtL p b s)))) := by
  have hrl := s.reads_len
  rw [stmtL_pre]
  refine FnOk.of_sem Tryd.func113 rfl (by kernel_rfl) (rs := [.tmp 6]) rfl Tryd.ntmps113 (Nat.le_of_ble_eq_true rfl) fun C w g root => ?_
  have fx := fx0
  have d1 := readsOf_fn gl s
  refine k_run ?_
  repeat ((first | refine w_sch (id := 6) (.q 0 <| .q 1 <| .q 2 <| .q 3 <| .q 4 <| .q 5 <| .q 6 <| .l 7 [5, 4, 3, 0] <| .l 8 [5, 4, 3, 0] <| .l 9 [5, 4, 3] <| .l 10 [] <| .done) mixed (by kernel_rfl) (by kernel_rfl) ?_); refine k_rund ?_; refine k_run ?_)
  clear fx d1
  refine w_loop (fun n st => ∃ i : Nat, n = s.reads.length - i ∧ i ≤ s.reads.length ∧ st.tm 1 = iv b ∧ st.tm 3 = .pt (.s 3) 0 ∧ st.hp (.s 3) = some (.row 1 [[ksl p]]) ∧ st.tm 5 = .pt (.s 5) 0 ∧ st.hp (.s 5) = some (.row 4 [s.cells]) ∧ st.tm 8 = .hs (.s 8) 1 0 s.reads.length ∧ st.hp (.s 8) = some (.row 1 (irows s.reads)) ∧ st.tm 9 = iv i ∧ st.tm 7 = .hs (.s 7) 2 0 (preL p b s i).length ∧ st.hp (.s 7) = some (.row 2 (orows (preL p b s i)))) s.reads.length ?_ ?_
  · exact ⟨0, by omega, by omega, by simp, by simp, by simp, by simp, by simp, by simp, by simp, by simp, by simp, by simp [orows]⟩
  rintro n st - - ⟨i, rfl, hi, h1, h3, hp3, h5, hp5, h8, hp8, h9, h7, hp7⟩
  have hll : (preL p b s i).length ≤ 10 := by simp; omega
  by_cases hil : i < s.reads.length
  · obtain ⟨u, hu⟩ : ∃ u, s.reads[i]? = some u := ⟨_, List.getElem?_eq_getElem hil⟩
    obtain ⟨_, huE⟩ := List.getElem?_eq_some_iff.1 hu
    have hnx := preL_next (p := p) (b := b) hu
    generalize hL : preL p b s i = L at h7 hp7 hnx hll
    have fx := And.intro h1 <| And.intro h3 <| And.intro hp3 <| And.intro h5 <| And.intro hp5 <| And.intro h8 <| And.intro hp8 <| And.intro h9 <| And.intro h7 <| And.intro hp7 <| And.intro hu <| And.intro huE <| And.intro hil <| hll
    have c1 := nameOp_fn gl p b k u 0 hk hP (by decide) (by decide)
    refine k_run ?_
    repeat ((first | refine w_sch (id := 6) (.q 0 <| .q 1 <| .q 2 <| .q 3 <| .q 4 <| .q 5 <| .q 6 <| .l 7 [5, 4, 3, 0] <| .l 8 [5, 4, 3, 0] <| .l 9 [5, 4, 3] <| .l 10 [] <| .done) mixed (by kernel_rfl) (by kernel_rfl) ?_); refine k_rund ?_; refine k_run ?_)
    clear fx c1
    refine ⟨s.reads.length - (i + 1), by omega, i + 1, rfl, by omega, by simp [h1], by simp [h3], by simp [hp3], by simp [h5], by simp [hp5], by simp [h8], by simp [hp8], by simp; exact wrp (by omega) (by omega), by simp [hnx], ?_⟩
    rw [hnx]
    simp [orows_snoc]
  · have hge : i = s.reads.length := by omega
    rw [hge] at h7 hp7 hll
    generalize hL : preL p b s s.reads.length = L at h7 hp7 hll
    have hw5 : s.kind = 5 → IntKind.i64.wrap ((s.reads.length : Int) - 1) = (s.reads.length : Int) - 1 := fun _ => wrp (by omega) (by omega)
    obtain ⟨kd, to, a, c⟩ := s
    simp only at hkd hw5
    rcases kinds12 hkd with rfl | rfl | rfl | rfl | rfl | rfl | rfl | rfl | rfl | rfl | rfl | rfl
    all_goals
      have fx := And.intro h1 <| And.intro h3 <| And.intro hp3 <| And.intro h5 <| And.intro hp5 <| And.intro h8 <| And.intro hp8 <| And.intro h9 <| And.intro h7 <| And.intro hp7 <| And.intro hil <| And.intro hge <| And.intro hll <| hw5
      have c1 := nameOp_fn gl p b k to 1 hk hP (by decide) (by decide)
      have c2 := nameOp_fn gl p b k to 2 hk hP (by decide) (by decide)
      refine k_run ?_
      repeat ((first | refine w_sch (id := 6) (.q 0 <| .q 1 <| .q 2 <| .q 3 <| .q 4 <| .q 5 <| .q 6 <| .l 7 [5, 4, 3, 0] <| .l 8 [5, 4, 3, 0] <| .l 9 [5, 4, 3] <| .l 10 [] <| .done) mixed (by kernel_rfl) (by kernel_rfl) ?_); refine k_rund ?_; refine k_run ?_)
      clear fx c1 c2
      refine e_list (t := 6) ?_ ?_ ?_
      all_goals simp [workL, setL, orows_snoc, List.take_append, List.take_of_length_le, h7, hp7]
end Go.Proofs.YtmpbjmihjelhgaaDoor
end

section
/-
  The program's orders of statements and blocks: what they are.
-/
set_option maxRecDepth 100000
set_option maxHeartbeats 1000000
set_option linter.unusedSimpArgs false
namespace Go.Proofs.YtmpbjmihjelhgaaDoor
open Go Go.Hm Go.Proofs

theorem workOps_fn (gl) (s : Stm) (hkd : 0 ≤ s.kind ∧ s.kind ≤ 11) : FnOk Tryd.prog gl 141 [s.av] (fun r y H' => y = .hs r 2 0 (workL s).length ∧ H' r = some (.row 2 (orows (workL s)))) := by
  have hrl := s.reads_len
  have hw5 : IntKind.i64.wrap ((s.reads.length : Int) - 1) = (s.reads.length : Int) - 1 := wrp (by omega) (by omega)
  obtain ⟨kd, to, a, c⟩ := s
  simp only at hkd
  refine FnOk.of_sem Tryd.func141 rfl (by kernel_rfl) (rs := [.tmp 2]) rfl Tryd.ntmps141 (Nat.le_of_ble_eq_true rfl) fun C w g root => ?_
  rcases kinds12 hkd with rfl | rfl | rfl | rfl | rfl | rfl | rfl | rfl | rfl | rfl | rfl | rfl
  case inr.inr.inr.inr.inr.inl =>
    have hrd : (⟨5, to, a, c⟩ : Stm).reads = if c = -1 then [a] else [a, c] := by simp [Stm.reads]
    rw [hrd] at hw5
    have hcr := call_reads gl a c
    generalize hL : (if c = -1 then [a] else [a, c]) = L at hw5 hcr hrd
    have fx :=  hw5
    have c1 := formOf_fn gl ⟨5, to, a, c⟩
    have d1 := hcr
    refine k_run ?_
    clear fx c1 d1
    refine e_list (t := 2) ?_ ?_ ?_
    all_goals simp [workL, orows, hrd]
  all_goals
    all_goals have fx := fx0
    repeat' (first
     | refine w_seq ?_ | refine w_block ?_ | refine w_skip ?_ | refine w_reg fun K hK => ?_
     | ((with_reducible refine s_end hK ?_); clear hK K)
     | (with_reducible first | refine then_normal ?_ | refine in_normal ?_ | refine then_ret ?_ | refine in_ret ?_)
     | refine w_ret ?_
     | (with_reducible first | refine s_none ?_ | refine x_assign (h := ?_) | refine x_box (h := ?_) | refine x_alloc (h := ?_) | refine x_store0 (h := ?_) | refine x_build (h := ?_))
     | ((with_reducible refine o_id 97 rfl ?_); refine x_call (hF := formOf_fn _ ⟨_, to, a, c⟩) (h := ?_))
     | (with_reducible refine x_q (h := ?_))
     | refine x_condt (h1 := ?_) | refine x_condf (h1 := ?_)
     | fail)
    all_goals try clear fx
    refine e_list (t := 2) ?_ ?_ ?_
    all_goals simp [workL, orows]

theorem impl_stmtOps_fn (gl : Nat → Option (List AV)) (hgl : gl 1 = some codesL) (p : Prg) (b : Nat) (k : Blk) (s : Stm) (hp : ShapeP p) (hk : p[b]? = some k) (hsm : s ∈ k.body) : FnOk Tryd.prog gl 116 [scsl p, iv b, s.av] (fun r y H' => y = .hs r 2 0 (stmtL p b s).length ∧ H' r = some (.row 2 (orows (stmtL p b s)))) := by
  have hrl := s.reads_len
  have hn := hp.names k (List.mem_of_getElem? hk)
  have hkd := hn.kinds s hsm
  obtain ⟨ht0, ht7⟩ := hn.tos s hsm
  obtain ⟨T, hT⟩ : ∃ T : Nat, s.to = T := ⟨s.to.toNat, by omega⟩
  have hT8 : T < 8 := by omega
  have hav : s.av = .agg [iv s.kind, iv T, iv s.a, iv s.b] := by rw [← hT]
  rw [stmtL_pre]
  refine FnOk.of_sem Tryd.func116 rfl (by kernel_rfl) (rs := [.tmp 6]) rfl Tryd.ntmps116 (Nat.le_of_ble_eq_true rfl) fun C w g root => ?_
  all_goals have fx := fx0
  repeat' (first
   | refine w_seq ?_ | refine w_block ?_ | refine w_skip ?_ | refine w_reg fun K hK => ?_
   | ((with_reducible refine s_end hK ?_); clear hK K)
   | (with_reducible first | refine then_normal ?_ | refine in_normal ?_ | refine then_exit ?_ | refine in_exit ?_ | refine then_ret ?_ | refine in_ret ?_ | refine in_other (by decide) ?_)
   | refine w_exit ?_
   | refine w_ret ?_
   | (with_reducible first | refine s_none ?_ | refine x_assign (h := ?_) | refine x_box (h := ?_) | refine x_append0 (T := 46) (h := ?_) | refine x_append (T := 46) (h := ?_) | refine x_build (h := ?_))
   | ((with_reducible refine o_id 97 rfl ?_); refine x_call (hF := formOf_fn _ s) (h := ?_))
   | (refine x_invh (hF := reads_inv _ (by kernel_rfl) s hkd) (h := ?_))
   | (with_reducible refine x_q (h := ?_))
   | refine x_condt (h1 := ?_) | refine x_condf (h1 := ?_)
   | fail)
  all_goals try clear fx
  refine w_loop (fun n st => ∃ i : Nat, n = s.reads.length - i ∧ i ≤ s.reads.length ∧ st.tm 0 = scsl p ∧ st.tm 1 = iv b ∧ st.tm 5 = .pt (.s 5) 0 ∧ st.hp (.s 5) = some (.row 4 [s.cells]) ∧ st.tm 14 = .hs (.s 14) 1 0 s.reads.length ∧ st.hp (.s 14) = some (.row 1 (irows s.reads)) ∧ st.tm 15 = iv s.reads.length ∧ st.tm 16 = iv i ∧ st.tm 7 = .hs (.s 7) 2 0 (preL p b s i).length ∧ st.hp (.s 7) = some (.row 2 (orows (preL p b s i)))) s.reads.length ?_ ?_
  · exact ⟨0, by omega, by omega, by simp, by simp, by simp, by simp, by simp, by simp, by simp, by simp, by simp, by simp [orows]⟩
  rintro n st - - ⟨i, rfl, hi, h0, h1, h5, hp5, h14, hp14, h15, h16, h7, hp7⟩
  have hll : (preL p b s i).length ≤ 10 := by simp; omega
  by_cases hil : i < s.reads.length
  · obtain ⟨u, hu⟩ : ∃ u, s.reads[i]? = some u := ⟨_, List.getElem?_eq_getElem hil⟩
    obtain ⟨_, huE⟩ := List.getElem?_eq_some_iff.1 hu
    obtain ⟨hu0, hu7⟩ := hn.reads s hsm u (List.mem_of_getElem? hu)
    obtain ⟨U, rfl⟩ : ∃ U : Nat, u = U := ⟨u.toNat, by omega⟩
    have hnx := preL_next (p := p) (b := b) hu
    generalize hL : preL p b s i = L at h7 hp7 hnx hll
    have fx := And.intro h0 <| And.intro h1 <| And.intro h5 <| And.intro hp5 <| And.intro h14 <| And.intro hp14 <| And.intro h15 <| And.intro h16 <| And.intro h7 <| And.intro hp7 <| And.intro hu <| And.intro huE <| And.intro hil <| hll
    have c1 := accessOp_fn gl hgl p hp b k hk U (by omega) 0 (by decide) (by decide)
    refine k_run ?_
    clear fx c1
    refine ⟨s.reads.length - (i + 1), by omega, i + 1, rfl, by omega, by simp [h0], by simp [h1], by simp [h5], by simp [hp5], by simp [h14], by simp [hp14], by simp [h15], by simp; exact wrp (by omega) (by omega), by simp [hnx], ?_⟩
    rw [hnx]
    simp [orows]
  · have hge : i = s.reads.length := by omega
    rw [hge] at h7 hp7 hll
    have hwl := workL_len s
    generalize hL : preL p b s s.reads.length = L at h7 hp7 hll
    by_cases hk11 : s.kind = 11
    · have hset : setL p b s = [nameOp p b T 2] := by simp [setL, hk11, hT]
      rw [hset]
      generalize hWL : workL s = WL at hwl
      have hwo := workOps_fn gl s hkd
      rw [hWL, hav] at hwo
      have hk11' : (s.kind == 11) = true := by simpa using hk11
      have fx := And.intro h0 <| And.intro h1 <| And.intro h5 <| And.intro hp5 <| And.intro h14 <| And.intro hp14 <| And.intro h15 <| And.intro h16 <| And.intro h7 <| And.intro hp7 <| And.intro hil <| And.intro hge <| And.intro hll <| And.intro hwl <| And.intro hk11' <| hT
      have d1 := hwo
      have c1 := accessOp_fn gl hgl p hp b k hk T hT8 2 (by decide) (by decide)
      refine k_run ?_
      clear fx d1 c1
      refine e_list (t := 6) ?_ ?_ ?_
      all_goals simp [orows_snoc, List.take_append, List.take_of_length_le, Nat.add_assoc]
    · have hk11' : (s.kind == 11) = false := by simpa using hk11
      by_cases hset : 0 ≤ s.kind ∧ s.kind ≤ 6
      · have hsl : setL p b s = [nameOp p b T 1] := by simp [setL, hk11, hT, hset]
        rw [hsl]
        generalize hWL : workL s = WL at hwl
        have hwo := workOps_fn gl s hkd
        rw [hWL, hav] at hwo
        have hbi := binds_fn gl s
        rw [decide_eq_true (.inl hset : s.sets ∨ s.kind = 11), hav] at hbi
        have fx := And.intro h0 <| And.intro h1 <| And.intro h5 <| And.intro hp5 <| And.intro h14 <| And.intro hp14 <| And.intro h15 <| And.intro h16 <| And.intro h7 <| And.intro hp7 <| And.intro hil <| And.intro hge <| And.intro hll <| And.intro hwl <| And.intro hk11' <| hT
        have d1 := hwo
        have c1 := hbi
        have c2 := accessOp_fn gl hgl p hp b k hk T hT8 1 (by decide) (by decide)
        refine k_run ?_
        clear fx d1 c1 c2
        refine e_list (t := 6) ?_ ?_ ?_
        all_goals simp [orows_snoc, List.take_append, List.take_of_length_le, Nat.add_assoc]
      · have hsl : setL p b s = [] := by simp only [setL, if_neg hk11, if_neg hset]
        rw [hsl]
        generalize hWL : workL s = WL at hwl
        have hwo := workOps_fn gl s hkd
        rw [hWL] at hwo
        have hbi := binds_fn gl s
        rw [decide_eq_false (fun h : s.sets ∨ s.kind = 11 => h.elim hset hk11)] at hbi
        have fx := And.intro h0 <| And.intro h1 <| And.intro h5 <| And.intro hp5 <| And.intro h14 <| And.intro hp14 <| And.intro h15 <| And.intro h16 <| And.intro h7 <| And.intro hp7 <| And.intro hil <| And.intro hge <| And.intro hll <| And.intro hwl <| hk11'
        have d1 := hwo
        have c1 := hbi
        refine k_run ?_
        clear fx d1 c1
        refine e_list (t := 6) ?_ ?_ ?_
        all_goals simp [orows_snoc, List.take_append, List.take_of_length_le, Nat.add_assoc]
end Go.Proofs.YtmpbjmihjelhgaaDoor
end

section
/-
  The reference's codes, heights and lines: what they are.
-/
set_option maxRecDepth 100000
set_option maxHeartbeats 1000000
set_option linter.unusedSimpArgs false
namespace Go.Proofs.YtmpbjmihjelhgaaDoor
open Go Go.Hm Go.Proofs

theorem blkAt_parts {p : Prg} {b : Int} (hs : Sml p) (h : blkAt p b = true) : ∃ (B : Nat) (k : Blk), b = B ∧ p[B]? = some k ∧ LookP p ∧ progOk p = true := by
  simp only [blkAt, Bool.and_eq_true, decide_eq_true_eq] at h
  obtain ⟨h1, h2, h3⟩ := h
  have hl : b.toNat < p.length := by omega
  obtain ⟨k, hk⟩ : ∃ k, p[b.toNat]? = some k := ⟨_, List.getElem?_eq_getElem hl⟩
  have h1' := h1
  simp only [progOk, Bool.and_eq_true] at h1
  exact ⟨b.toNat, k, by omega, hk, ⟨hs, ShapeP.of hs h1.1⟩, h1'⟩
theorem blkAt_not {p : Prg} {b : Int} (h : blkAt p b = false) (hv : progOk p = true) : ¬ (0 ≤ b ∧ b ≤ (p.length : Int) - 1) := fun e => by
  simp only [blkAt, hv, Bool.true_and] at h
  have h1 : (decide (0 ≤ b) && decide (b < p.length)) = true := by simp; omega
  rw [h1] at h
  cases h
theorem lookP_of {p : Prg} (hs : Sml p) (h : progOk p = true) : LookP p := by
  simp only [progOk, Bool.and_eq_true] at h
  exact ⟨hs, ShapeP.of hs h.1⟩

theorem spec_compiled_fn (gl) (p : Prg) (b : Nat) (k : Blk) (hk : p[b]? = some k) (hP : LookP p) : FnOk Tryd.prog gl 71 [pav p, iv b] (fun r y H' => y = .agg ((codeL p b).own r 0) ∧ OwnK H' r 0 (codeL p b)) := by
  have hs := hP.sml
  have hh := hP.heads
  have hl7 := hP.len
  have hkm := List.mem_of_getElem? hk
  obtain ⟨hbl, hbE⟩ := List.getElem?_eq_some_iff.1 hk
  have hk12 := hP.sh.body k hkm
  have hkinds := (hP.sh.names k hkm).kinds
  obtain ⟨hpl, _⟩ := hs.bsm hk
  have hcode : codeL p b = ⟨k.kind, k.params, fastsL p b, cellsL p b, freesL p b, bodyL p b k.body⟩ := by simp [codeL, opsL, hk]
  rw [hcode]
  refine FnOk.of_sem Tryd.func71 rfl (by kernel_rfl) (rs := [.cell 4 48]) rfl Tryd.ntmps71 (Nat.le_of_ble_eq_true rfl) fun C w g root => ?_
  have fx := And.intro hk <| And.intro hbE <| hbl
  have d1 := copyInts_fn gl k.params (by omega)
  have d2 := fasts_fn gl p b k hk hP
  have d3 := cellNames_fn gl p b k hk hs hh hl7
  have d4 := frees_fn gl p b hbl hs hh hl7
  refine k_run ?_
  first | refine w_sch (id := 1) (.q 0 <| .q 1 <| .q 2 <| .q 3 <| .q 4 <| .q 5 <| .q 6 <| .q 7 <| .q 8 <| .q 9 <| .q 10 <| .q 11 <| .q 13 <| .q 14 <| .q 16 <| .q 17 <| .q 19 <| .q 20 <| .l2 12 [20, 19, 17, 16, 14, 13, 10, 9, 8, 7, 6, 5, 4, 3, 2, 1, 0] (.l2 15 [20, 19, 17, 16, 10, 9, 8, 7, 6, 5, 4, 3, 2, 1, 0] (.l2 18 [20, 19, 10, 9, 8, 7, 6, 5, 4, 3, 2, 1, 0] (.l2 21 [10, 9, 8, 7, 6, 5, 4, 3, 2, 1, 0] (.q 22 <| .l 23 [22, 10, 9, 8, 7, 6, 5, 4, 3, 2, 1, 0] <| .l 24 [] <| .done) 23 [20, 19, 10, 9, 8, 7, 6, 5, 4, 3, 2, 1, 0] (.l 21 [10, 9, 8, 7, 6, 5, 4, 3, 2, 1, 0] <| .q 22 <| .l 24 [] <| .done)) 23 [20, 19, 17, 16, 10, 9, 8, 7, 6, 5, 4, 3, 2, 1, 0] (.l 18 [20, 19, 10, 9, 8, 7, 6, 5, 4, 3, 2, 1, 0] <| .l 21 [10, 9, 8, 7, 6, 5, 4, 3, 2, 1, 0] <| .q 22 <| .l 24 [] <| .done)) 23 [20, 19, 17, 16, 14, 13, 10, 9, 8, 7, 6, 5, 4, 3, 2, 1, 0] (.l 15 [20, 19, 17, 16, 10, 9, 8, 7, 6, 5, 4, 3, 2, 1, 0] <| .l 18 [20, 19, 10, 9, 8, 7, 6, 5, 4, 3, 2, 1, 0] <| .l 21 [10, 9, 8, 7, 6, 5, 4, 3, 2, 1, 0] <| .q 22 <| .l 24 [] <| .done)) 23 [20, 19, 17, 16, 14, 13, 11, 10, 9, 8, 7, 6, 5, 4, 3, 2, 1, 0] (.l 12 [20, 19, 17, 16, 14, 13, 10, 9, 8, 7, 6, 5, 4, 3, 2, 1, 0] <| .l 15 [20, 19, 17, 16, 10, 9, 8, 7, 6, 5, 4, 3, 2, 1, 0] <| .l 18 [20, 19, 10, 9, 8, 7, 6, 5, 4, 3, 2, 1, 0] <| .l 21 [10, 9, 8, 7, 6, 5, 4, 3, 2, 1, 0] <| .q 22 <| .l 24 [] <| .done)) mixed (by kernel_rfl) (by kernel_rfl) ?_ | refine w_sch (id := 5) (.q 0 <| .q 1 <| .q 2 <| .q 3 <| .q 4 <| .q 5 <| .q 6 <| .q 7 <| .q 8 <| .q 9 <| .q 10 <| .q 11 <| .q 12 <| .l 13 [11, 10, 9, 8, 7, 6, 5, 4, 1, 0] <| .l 14 [11, 10, 9, 8, 7, 6, 5, 4, 0] <| .q 15 <| .l 16 [] <| .done) mixed (by kernel_rfl) (by kernel_rfl) ?_
  refine k_runj (fun st => st.tm 1 = iv b ∧ st.tm 2 = .pt (.s 2) 0 ∧ st.hp (.s 2) = some (.row 1 [[ksl p]]) ∧ st.tm 6 = iv 0 ∧ st.tm 5 = .pt (.s 5) 0 ∧ st.tm 4 = .pt (.s 4) 0 ∧ st.hp (.s 4) = some (.row 6 [noCode.own (.s 4) 0]) ∧ st.hp (.s 5) = some (.row 6 [Cod.own (.s 5) 0 ⟨k.kind, k.params, fastsL p b, cellsL p b, freesL p b, []⟩]) ∧ st.hp (.c (.s 5) 0 1) = some (.row 1 (irows k.params)) ∧ st.hp (.c (.s 5) 0 2) = some (.row 1 (irows (fastsL p b))) ∧ st.hp (.c (.s 5) 0 3) = some (.row 1 (irows (cellsL p b))) ∧ st.hp (.c (.s 5) 0 4) = some (.row 1 (irows (freesL p b))) ∧ st.hp (.c (.s 5) 0 5) = some (.row 2 [])) ?_
  clear fx d1 d2 d3 d4
  rintro st ⟨h1, h2, hp2, h6, h5, h4, hp4, hp5, q1, q2, q3, q4, q5⟩
  refine w_loop (fun n st => ∃ i : Nat, n = k.body.length - i ∧ i ≤ k.body.length ∧ st.tm 1 = iv b ∧ st.tm 2 = .pt (.s 2) 0 ∧ st.hp (.s 2) = some (.row 1 [[ksl p]]) ∧ st.tm 6 = iv i ∧ st.tm 5 = .pt (.s 5) 0 ∧ st.tm 4 = .pt (.s 4) 0 ∧ st.hp (.s 4) = some (.row 6 [noCode.own (.s 4) 0]) ∧ ∃ c : Cod, c = ⟨k.kind, k.params, fastsL p b, cellsL p b, freesL p b, bodyL p b (k.body.take i)⟩ ∧ st.hp (.s 5) = some (.row 6 [c.own (.s 5) 0]) ∧ OwnK st.hp (.s 5) 0 c) k.body.length ?_ ?_
  · refine ⟨0, by omega, by omega, h1, h2, hp2, h6, h5, h4, hp4, _, rfl, ?_, ⟨?_, ?_, ?_, ?_, ?_⟩⟩
    all_goals simp [bodyL, hp5, q1, q2, q3, q4, q5]
  clear h1 h2 hp2 h6 h5 h4 hp4 hp5 q1 q2 q3 q4 q5
  rintro n st - - ⟨i, rfl, hi, h1, h2, hp2, h6, h5, h4, hp4, c, hc, hp5, ⟨o1, o2, o3, o4, o5⟩⟩
  have hll := bodyL_len (p := p) (b := b) (k.body.take i)
  rw [List.length_take] at hll
  by_cases hil : i < k.body.length
  · obtain ⟨s, hss⟩ : ∃ s, k.body[i]? = some s := ⟨_, List.getElem?_eq_getElem hil⟩
    obtain ⟨_, hsE⟩ := List.getElem?_eq_some_iff.1 hss
    have hnx := bodyL_take (p := p) (b := b) hss
    have hsl := stmtL_len (p := p) (b := b) (s := s)
    generalize hL : bodyL p b (k.body.take i) = L at hc hnx hll
    subst hc
    simp only [Cod.own_eq] at hp5 o1 o2 o3 o4 o5
    have fx := And.intro h1 <| And.intro h2 <| And.intro hp2 <| And.intro h6 <| And.intro h5 <| And.intro hp5 <| And.intro o1 <| And.intro o2 <| And.intro o3 <| And.intro o4 <| And.intro o5 <| And.intro hk <| And.intro hbE <| And.intro hbl <| And.intro hss <| And.intro hsE <| And.intro hil <| And.intro hll <| hsl
    have d1 := spec_stmtOps_fn gl p b k s hk hP (hkinds s (List.mem_of_getElem? hss))
    refine k_run ?_
    repeat ((first | refine w_sch (id := 1) (.q 0 <| .q 1 <| .q 2 <| .q 3 <| .q 4 <| .q 5 <| .q 6 <| .q 7 <| .q 8 <| .q 9 <| .q 10 <| .q 11 <| .q 13 <| .q 14 <| .q 16 <| .q 17 <| .q 19 <| .q 20 <| .l2 12 [20, 19, 17, 16, 14, 13, 10, 9, 8, 7, 6, 5, 4, 3, 2, 1, 0] (.l2 15 [20, 19, 17, 16, 10, 9, 8, 7, 6, 5, 4, 3, 2, 1, 0] (.l2 18 [20, 19, 10, 9, 8, 7, 6, 5, 4, 3, 2, 1, 0] (.l2 21 [10, 9, 8, 7, 6, 5, 4, 3, 2, 1, 0] (.q 22 <| .l 23 [22, 10, 9, 8, 7, 6, 5, 4, 3, 2, 1, 0] <| .l 24 [] <| .done) 23 [20, 19, 10, 9, 8, 7, 6, 5, 4, 3, 2, 1, 0] (.l 21 [10, 9, 8, 7, 6, 5, 4, 3, 2, 1, 0] <| .q 22 <| .l 24 [] <| .done)) 23 [20, 19, 17, 16, 10, 9, 8, 7, 6, 5, 4, 3, 2, 1, 0] (.l 18 [20, 19, 10, 9, 8, 7, 6, 5, 4, 3, 2, 1, 0] <| .l 21 [10, 9, 8, 7, 6, 5, 4, 3, 2, 1, 0] <| .q 22 <| .l 24 [] <| .done)) 23 [20, 19, 17, 16, 14, 13, 10, 9, 8, 7, 6, 5, 4, 3, 2, 1, 0] (.l 15 [20, 19, 17, 16, 10, 9, 8, 7, 6, 5, 4, 3, 2, 1, 0] <| .l 18 [20, 19, 10, 9, 8, 7, 6, 5, 4, 3, 2, 1, 0] <| .l 21 [10, 9, 8, 7, 6, 5, 4, 3, 2, 1, 0] <| .q 22 <| .l 24 [] <| .done)) 23 [20, 19, 17, 16, 14, 13, 11, 10, 9, 8, 7, 6, 5, 4, 3, 2, 1, 0] (.l 12 [20, 19, 17, 16, 14, 13, 10, 9, 8, 7, 6, 5, 4, 3, 2, 1, 0] <| .l 15 [20, 19, 17, 16, 10, 9, 8, 7, 6, 5, 4, 3, 2, 1, 0] <| .l 18 [20, 19, 10, 9, 8, 7, 6, 5, 4, 3, 2, 1, 0] <| .l 21 [10, 9, 8, 7, 6, 5, 4, 3, 2, 1, 0] <| .q 22 <| .l 24 [] <| .done)) mixed (by kernel_rfl) (by kernel_rfl) ?_ | refine w_sch (id := 5) (.q 0 <| .q 1 <| .q 2 <| .q 3 <| .q 4 <| .q 5 <| .q 6 <| .q 7 <| .q 8 <| .q 9 <| .q 10 <| .q 11 <| .q 12 <| .l 13 [11, 10, 9, 8, 7, 6, 5, 4, 1, 0] <| .l 14 [11, 10, 9, 8, 7, 6, 5, 4, 0] <| .q 15 <| .l 16 [] <| .done) mixed (by kernel_rfl) (by kernel_rfl) ?_); refine k_rund ?_; refine k_run ?_)
    clear fx d1
    refine ⟨k.body.length - (i + 1), by omega, i + 1, rfl, by omega, by simp [h1], by simp [h2], by simp [hp2], by simp; exact wrp (by omega) (by omega), by simp [h5], by simp [h4], by simp [hp4], _, rfl, ?_, ⟨?_, ?_, ?_, ?_, ?_⟩⟩
    all_goals simp [hnx, o1, o2, o3, o4, o5, hp5]
  · have hge : i = k.body.length := by omega
    subst hge
    rw [List.take_length] at hc
    subst hc
    simp only [Cod.own_eq] at hp5 o1 o2 o3 o4 o5
    have fx := And.intro h1 <| And.intro h2 <| And.intro hp2 <| And.intro h6 <| And.intro h5 <| And.intro h4 <| And.intro hp4 <| And.intro hp5 <| And.intro o1 <| And.intro o2 <| And.intro o3 <| And.intro o4 <| And.intro o5 <| And.intro hk <| And.intro hbE <| And.intro hbl <| hil
    refine k_run ?_
    repeat ((first | refine w_sch (id := 1) (.q 0 <| .q 1 <| .q 2 <| .q 3 <| .q 4 <| .q 5 <| .q 6 <| .q 7 <| .q 8 <| .q 9 <| .q 10 <| .q 11 <| .q 13 <| .q 14 <| .q 16 <| .q 17 <| .q 19 <| .q 20 <| .l2 12 [20, 19, 17, 16, 14, 13, 10, 9, 8, 7, 6, 5, 4, 3, 2, 1, 0] (.l2 15 [20, 19, 17, 16, 10, 9, 8, 7, 6, 5, 4, 3, 2, 1, 0] (.l2 18 [20, 19, 10, 9, 8, 7, 6, 5, 4, 3, 2, 1, 0] (.l2 21 [10, 9, 8, 7, 6, 5, 4, 3, 2, 1, 0] (.q 22 <| .l 23 [22, 10, 9, 8, 7, 6, 5, 4, 3, 2, 1, 0] <| .l 24 [] <| .done) 23 [20, 19, 10, 9, 8, 7, 6, 5, 4, 3, 2, 1, 0] (.l 21 [10, 9, 8, 7, 6, 5, 4, 3, 2, 1, 0] <| .q 22 <| .l 24 [] <| .done)) 23 [20, 19, 17, 16, 10, 9, 8, 7, 6, 5, 4, 3, 2, 1, 0] (.l 18 [20, 19, 10, 9, 8, 7, 6, 5, 4, 3, 2, 1, 0] <| .l 21 [10, 9, 8, 7, 6, 5, 4, 3, 2, 1, 0] <| .q 22 <| .l 24 [] <| .done)) 23 [20, 19, 17, 16, 14, 13, 10, 9, 8, 7, 6, 5, 4, 3, 2, 1, 0] (.l 15 [20, 19, 17, 16, 10, 9, 8, 7, 6, 5, 4, 3, 2, 1, 0] <| .l 18 [20, 19, 10, 9, 8, 7, 6, 5, 4, 3, 2, 1, 0] <| .l 21 [10, 9, 8, 7, 6, 5, 4, 3, 2, 1, 0] <| .q 22 <| .l 24 [] <| .done)) 23 [20, 19, 17, 16, 14, 13, 11, 10, 9, 8, 7, 6, 5, 4, 3, 2, 1, 0] (.l 12 [20, 19, 17, 16, 14, 13, 10, 9, 8, 7, 6, 5, 4, 3, 2, 1, 0] <| .l 15 [20, 19, 17, 16, 10, 9, 8, 7, 6, 5, 4, 3, 2, 1, 0] <| .l 18 [20, 19, 10, 9, 8, 7, 6, 5, 4, 3, 2, 1, 0] <| .l 21 [10, 9, 8, 7, 6, 5, 4, 3, 2, 1, 0] <| .q 22 <| .l 24 [] <| .done)) mixed (by kernel_rfl) (by kernel_rfl) ?_ | refine w_sch (id := 5) (.q 0 <| .q 1 <| .q 2 <| .q 3 <| .q 4 <| .q 5 <| .q 6 <| .q 7 <| .q 8 <| .q 9 <| .q 10 <| .q 11 <| .q 12 <| .l 13 [11, 10, 9, 8, 7, 6, 5, 4, 1, 0] <| .l 14 [11, 10, 9, 8, 7, 6, 5, 4, 0] <| .q 15 <| .l 16 [] <| .done) mixed (by kernel_rfl) (by kernel_rfl) ?_); refine k_rund ?_; refine k_run ?_)
    clear fx
    refine e_ret [(.s 5, root)] (.one rfl) (by simp [h4]; rfl) ⟨?_, ⟨?_, ?_, ?_, ?_, ?_⟩⟩
    all_goals simp [h4, o1, o2, o3, o4, o5]

end Go.Proofs.YtmpbjmihjelhgaaDoor
end

section
/-
  The reference's CompileBlock, CompileAll, HeightsOf and LineOf: what they are.
-/
set_option maxRecDepth 100000
set_option maxHeartbeats 1000000
set_option linter.unusedSimpArgs false
namespace Go.Proofs.YtmpbjmihjelhgaaDoor
open Go Go.Hm Go.Proofs

theorem spec_CompileBlock_fn (gl) (p : Prg) (b : Int) (hs : Sml p) : FnOk Tryd.prog gl 39 [pav p, iv b] (fun r y H' => y = .agg ((codeG p b).own r 0) ∧ OwnK H' r 0 (codeG p b)) := by
  have hpl := hs.len
  have hw : IntKind.i64.wrap ((p.length : Int) - 1) = (p.length : Int) - 1 := wrp (by omega) (by omega)
  refine FnOk.of_sem Tryd.func39 rfl (by kernel_rfl) (rs := [.cell 4 48]) rfl Tryd.ntmps39 (Nat.le_of_ble_eq_true rfl) fun C w g root => ?_
  cases hv : progOk p
  · have hno : codeG p b = noCode := by simp [codeG, blkAt, hv]
    rw [hno]
    have fx := And.intro hv <| hw
    have c1 := validProgram_fn gl p hs
    refine k_run ?_
    clear fx c1
    refine e_ret [(.s 4, root)] (.one rfl) (by simp; rfl) ⟨?_, ⟨?_, ?_, ?_, ?_, ?_⟩⟩
    all_goals simp
  cases hb : blkAt p b
  · have hno : codeG p b = noCode := by simp [codeG, hb]
    have hn := blkAt_not hb hv
    have hr : (decide (0 ≤ b) && decide (b ≤ (p.length : Int) - 1)) = false := by
      apply Bool.eq_false_iff.2
      intro h
      simp only [Bool.and_eq_true, decide_eq_true_eq] at h
      exact hn h
    rw [hno]
    have fx := And.intro hv <| And.intro hw <| hr
    have c1 := validProgram_fn gl p hs
    have c2 := inRange_fn gl b 0 ((p.length : Int) - 1)
    refine k_run ?_
    clear fx c1 c2
    refine e_ret [(.s 4, root)] (.one rfl) (by simp; rfl) ⟨?_, ⟨?_, ?_, ?_, ?_, ?_⟩⟩
    all_goals simp
  · obtain ⟨B, k, rfl, hk, hP, _⟩ := blkAt_parts hs hb
    have hBl := (List.getElem?_eq_some_iff.1 hk).1
    have hr : (B : Int) ≤ (p.length : Int) - 1 := by omega
    have hco : codeG p B = codeL p B := by simp [codeG, hb]
    rw [hco]
    have hcc := spec_compiled_fn gl p B k hk hP
    generalize codeL p B = c at hcc
    have fx := And.intro hv <| And.intro hw <| hr
    have c1 := validProgram_fn gl p hs
    have c2 := inRange_fn gl B 0 ((p.length : Int) - 1)
    have e1 := hcc
    refine k_run ?_
    clear fx c1 c2 e1
    rintro K hK y H' ⟨rfl, hO⟩
    obtain ⟨o1, o2, o3, o4, o5⟩ := hO.hcln
    refine ⟨by simp, ?_⟩
    have fx := And.intro o1 <| And.intro o2 <| And.intro o3 <| And.intro o4 <| o5
    refine k_run ?_
    clear fx
    refine e_ret [(.s 20, root)] (.one rfl) (by simp; rfl) ⟨?_, ⟨?_, ?_, ?_, ?_, ?_⟩⟩
    all_goals simp [o1, o2, o3, o4, o5]

theorem spec_effect_fn (gl) (o : Int × Int) (h : o.1 = 17 → 0 ≤ o.2 ∧ o.2 ≤ 1) : FnOk Tryd.prog gl 81 [.agg [iv o.1, iv o.2]] (fun _ y _ => y = iv (effO o)) := by
  obtain ⟨c, a⟩ := o
  have hw : c = 17 → IntKind.i64.wrap (-a) = -a := fun e => by
    have := h e
    simp only at this
    exact wrp (by omega) (by omega)
  clear h
  refine FnOk.of_sem Tryd.func81 rfl (by kernel_rfl) (rs := [.tmp 2]) rfl Tryd.ntmps81 (Nat.le_of_ble_eq_true rfl) fun C w g root => ?_
  by_cases hin : 0 ≤ c ∧ c ≤ 20
  · obtain ⟨n, rfl⟩ : ∃ n : Nat, c = n := ⟨c.toNat, by omega⟩
    have hn : n < 21 := by omega
    clear hin
    have cases21 : n = 0 ∨ n = 1 ∨ n = 2 ∨ n = 3 ∨ n = 4 ∨ n = 5 ∨ n = 6 ∨ n = 7 ∨ n = 8 ∨ n = 9 ∨ n = 10 ∨ n = 11 ∨ n = 12 ∨ n = 13 ∨ n = 14 ∨ n = 15 ∨ n = 16 ∨ n = 17 ∨ n = 18 ∨ n = 19 ∨ n = 20 := by omega
    rcases cases21 with rfl | rfl | rfl | rfl | rfl | rfl | rfl | rfl | rfl | rfl | rfl | rfl | rfl | rfl | rfl | rfl | rfl | rfl | rfl | rfl | rfl
    all_goals
      have fx :=  hw
      refine k_run ?_
      clear fx
      refine e_ret [] .nil (by simp; rfl) ?_
      simp [effO, hw]
  · have ne : ∀ n : Int, 0 ≤ n → n ≤ 20 → (c == n) = false := fun n h0 h1 => by
      simp only [beq_eq_false_iff_ne, ne_eq]
      rintro rfl
      exact hin ⟨h0, h1⟩
    have e1 := ne 1 (by decide) (by decide)
    have e2 := ne 2 (by decide) (by decide)
    have e3 := ne 3 (by decide) (by decide)
    have e5 := ne 5 (by decide) (by decide)
    have e6 := ne 6 (by decide) (by decide)
    have e8 := ne 8 (by decide) (by decide)
    have e9 := ne 9 (by decide) (by decide)
    have e11 := ne 11 (by decide) (by decide)
    have e12 := ne 12 (by decide) (by decide)
    have e14 := ne 14 (by decide) (by decide)
    have e15 := ne 15 (by decide) (by decide)
    have e16 := ne 16 (by decide) (by decide)
    have e17 := ne 17 (by decide) (by decide)
    have e19 := ne 19 (by decide) (by decide)
    have e20 := ne 20 (by decide) (by decide)
    have fx := And.intro e1 <| And.intro e2 <| And.intro e3 <| And.intro e5 <| And.intro e6 <| And.intro e8 <| And.intro e9 <| And.intro e11 <| And.intro e12 <| And.intro e14 <| And.intro e15 <| And.intro e16 <| And.intro e17 <| And.intro e19 <| e20
    refine k_run ?_
    clear fx
    refine e_ret [] .nil (by simp; rfl) ?_
    simp only [beq_eq_false_iff_ne, ne_eq] at e1 e2 e3 e5 e6 e8 e9 e11 e12 e14 e15 e16 e17 e19 e20
    simp [effO, e1, e2, e3, e5, e6, e8, e9, e11, e12, e14, e15, e16, e17, e19, e20]
end Go.Proofs.YtmpbjmihjelhgaaDoor
end

section
/-
  The program's codes: what they are.
-/
set_option maxRecDepth 100000
set_option maxHeartbeats 1000000
set_option linter.unusedSimpArgs false
namespace Go.Proofs.YtmpbjmihjelhgaaDoor
open Go Go.Hm Go.Proofs

theorem fastsOfA_fn (gl) (p : Prg) (hp : ShapeP p) (b : Nat) (k : Blk) (hk : p[b]? = some k) : FnOk Tryd.prog gl 65 [scsl p, iv b] (fun r y H' => y = .hs r 1 0 (fastsL p b).length ∧ H' r = some (.row 1 (irows (fastsL p b)))) := by
  by_cases hk1 : k.kind = 1
  · exact fastsOf_fn gl p hp b k hk hk1
  have hh := hp.heads
  obtain ⟨hbl, hbE⟩ := List.getElem?_eq_some_iff.1 hk
  have hka : kindAt p b = k.kind := by simp [kindAt, hk]
  have hsg := scRows_get (p := p) hbl
  rw [scopeA_eq hh hk] at hsg
  obtain ⟨_, hse⟩ := List.getElem?_eq_some_iff.1 hsg
  have hc : fastsL p b = [] := by simp [fastsL, hka, hk1]
  have hkd : (k.kind == 1) = false := by simpa using hk1
  rw [hc]
  refine FnOk.of_sem Tryd.func65 rfl (by kernel_rfl) (rs := [.tmp 4]) rfl Tryd.ntmps65 (Nat.le_of_ble_eq_true rfl) fun C w g root => ?_
  have fx := And.intro hsg <| And.intro hse <| And.intro hkd <| And.intro hbl <| @bne_def
  refine k_run ?_
  clear fx
  exact e_list (t := 4) (by first | (simp []; done) | (simp []; rfl)) (by first | (simp []; done) | (simp []; rfl)) (by simp)
theorem cellsList_fn (gl) (p : Prg) (b : Nat) : FnOk Tryd.prog gl 62 [.agg (bset (cellsL p b))] (fun r z H' => z = .hs r 1 0 (cellsL p b).length ∧ H' r = some (.row 1 (irows (cellsL p b)))) := by
  have hli := list_fn gl (cellsL p b)
  rw [sorted_cells] at hli
  exact hli

theorem impl_compileBlock_fn (gl : Nat → Option (List AV)) (hgl : gl 1 = some codesL) (p : Prg) (hp : ShapeP p) (b : Nat) (k : Blk) (hk : p[b]? = some k) : FnOk Tryd.prog gl 78 [pav p, scsl p, iv b] (fun r y H' => y = .agg ((codeL p b).own r 0) ∧ OwnK H' r 0 (codeL p b)) := by
  have hl7 := hp.len.2
  have hkm := List.mem_of_getElem? hk
  obtain ⟨hbl, hbE⟩ := List.getElem?_eq_some_iff.1 hk
  have hk12 := hp.body k hkm
  obtain ⟨hpl, _⟩ := hp.sml.bsm hk
  have hcode : codeL p b = ⟨k.kind, k.params, fastsL p b, cellsL p b, freesL p b, bodyL p b k.body⟩ := by simp [codeL, opsL, hk]
  have hfl := fastsL_len (p := p) (b := b)
  have hcl := cellsL_len (p := p) (b := b)
  have hrl := freesL_len (p := p) (b := b)
  rw [hcode]
  refine FnOk.of_sem Tryd.func78 rfl (by kernel_rfl) (rs := [.cell 6 48]) rfl Tryd.ntmps78 (Nat.le_of_ble_eq_true rfl) fun C w g root => ?_
  have fx := And.intro hk <| And.intro hbE <| And.intro hbl <| hpl
  have c1 := cellSet_fn gl p hp b k hk
  have d1 := fastsOfA_fn gl p hp b k hk
  have d2 := cellsList_fn gl p b
  have d3 := freesOf_fn gl p hp b hbl
  refine k_run ?_
  first | refine w_sch (id := 2) (.q 0 <| .q 1 <| .q 2 <| .q 3 <| .q 5 <| .q 6 <| .q 8 <| .q 9 <| .q 12 <| .q 13 <| .l2 4 [13, 12, 9, 8, 6, 5, 2, 1, 0] (.l2 7 [13, 12, 9, 8, 2, 1, 0] (.l2 10 [13, 12, 2, 1, 0] (.l2 11 [13, 12, 2, 1, 0] (.l2 14 [2, 1, 0] (.q 15 <| .l 16 [15, 2, 1, 0] <| .l 17 [] <| .done) 16 [13, 12, 2, 1, 0] (.l 14 [2, 1, 0] <| .q 15 <| .l 17 [] <| .done)) 16 [13, 12, 2, 1, 0] (.l 11 [13, 12, 2, 1, 0] <| .l 14 [2, 1, 0] <| .q 15 <| .l 17 [] <| .done)) 16 [13, 12, 9, 8, 2, 1, 0] (.l 10 [13, 12, 2, 1, 0] <| .l 11 [13, 12, 2, 1, 0] <| .l 14 [2, 1, 0] <| .q 15 <| .l 17 [] <| .done)) 16 [13, 12, 9, 8, 6, 5, 2, 1, 0] (.l 7 [13, 12, 9, 8, 2, 1, 0] <| .l 10 [13, 12, 2, 1, 0] <| .l 11 [13, 12, 2, 1, 0] <| .l 14 [2, 1, 0] <| .q 15 <| .l 17 [] <| .done)) 16 [13, 12, 9, 8, 6, 5, 3, 2, 1, 0] (.l 4 [13, 12, 9, 8, 6, 5, 2, 1, 0] <| .l 7 [13, 12, 9, 8, 2, 1, 0] <| .l 10 [13, 12, 2, 1, 0] <| .l 11 [13, 12, 2, 1, 0] <| .l 14 [2, 1, 0] <| .q 15 <| .l 17 [] <| .done)) mixed (by kernel_rfl) (by kernel_rfl) ?_ | refine w_sch (id := 6) (.q 0 <| .q 1 <| .q 2 <| .q 3 <| .q 4 <| .l 5 [1, 0] <| .l 6 [0] <| .q 7 <| .l 8 [] <| .done) mixed (by kernel_rfl) (by kernel_rfl) ?_
  refine k_runj (fun st => st.tm 1 = scsl p ∧ st.tm 2 = iv b ∧ st.tm 6 = .pt (.s 6) 0 ∧ st.hp (.s 6) = some (.row 6 [noCode.own (.s 6) 0]) ∧ st.tm 8 = .pt (.s 8) 0 ∧ st.tm 33 = ssl k.body ∧ st.tm 34 = iv k.body.length ∧ st.tm 35 = iv 0 ∧ st.hp (.s 8) = some (.row 6 [Cod.own (.s 8) 0 ⟨k.kind, k.params, fastsL p b, cellsL p b, freesL p b, []⟩]) ∧ st.hp (.c (.s 8) 0 1) = some (.row 1 (irows k.params)) ∧ st.hp (.c (.s 8) 0 2) = some (.row 1 (irows (fastsL p b))) ∧ st.hp (.c (.s 8) 0 3) = some (.row 1 (irows (cellsL p b))) ∧ st.hp (.c (.s 8) 0 4) = some (.row 1 (irows (freesL p b))) ∧ st.hp (.c (.s 8) 0 5) = some (.row 2 [])) ?_
  clear fx c1 d1 d2 d3
  rintro st ⟨h1, h2, h6, hp6, h8, h33, h34, h35, hp8, q1, q2, q3, q4, q5⟩
  refine w_loop (fun n st => ∃ i : Nat, n = k.body.length - i ∧ i ≤ k.body.length ∧ st.tm 1 = scsl p ∧ st.tm 2 = iv b ∧ st.tm 6 = .pt (.s 6) 0 ∧ st.hp (.s 6) = some (.row 6 [noCode.own (.s 6) 0]) ∧ st.tm 8 = .pt (.s 8) 0 ∧ st.tm 33 = ssl k.body ∧ st.tm 34 = iv k.body.length ∧ st.tm 35 = iv i ∧ ∃ c : Cod, c = ⟨k.kind, k.params, fastsL p b, cellsL p b, freesL p b, bodyL p b (k.body.take i)⟩ ∧ st.hp (.s 8) = some (.row 6 [c.own (.s 8) 0]) ∧ OwnK st.hp (.s 8) 0 c) k.body.length ?_ ?_
  · refine ⟨0, by omega, by omega, h1, h2, h6, hp6, h8, h33, h34, h35, _, rfl, ?_, ⟨?_, ?_, ?_, ?_, ?_⟩⟩
    all_goals simp [bodyL, hp8, q1, q2, q3, q4, q5]
  clear h1 h2 h6 hp6 h8 h33 h34 h35 hp8 q1 q2 q3 q4 q5
  rintro n st - - ⟨i, rfl, hi, h1, h2, h6, hp6, h8, h33, h34, h35, c, hc, hp8, ⟨o1, o2, o3, o4, o5⟩⟩
  have hll := bodyL_len (p := p) (b := b) (k.body.take i)
  rw [List.length_take] at hll
  by_cases hil : i < k.body.length
  · obtain ⟨s, hss⟩ : ∃ s, k.body[i]? = some s := ⟨_, List.getElem?_eq_getElem hil⟩
    obtain ⟨_, hsE⟩ := List.getElem?_eq_some_iff.1 hss
    have hnx := bodyL_take (p := p) (b := b) hss
    have hsl := stmtL_len (p := p) (b := b) (s := s)
    generalize hL : bodyL p b (k.body.take i) = L at hc hnx hll
    subst hc
    simp only [Cod.own_eq] at hp8 o1 o2 o3 o4 o5
    have fx := And.intro h1 <| And.intro h2 <| And.intro h6 <| And.intro hp6 <| And.intro h8 <| And.intro h33 <| And.intro h34 <| And.intro h35 <| And.intro hp8 <| And.intro o1 <| And.intro o2 <| And.intro o3 <| And.intro o4 <| And.intro o5 <| And.intro hss <| And.intro hsE <| And.intro hil <| And.intro hll <| hsl
    have d1 := impl_stmtOps_fn gl hgl p b k s hp hk (List.mem_of_getElem? hss)
    refine k_run ?_
    repeat ((first | refine w_sch (id := 2) (.q 0 <| .q 1 <| .q 2 <| .q 3 <| .q 5 <| .q 6 <| .q 8 <| .q 9 <| .q 12 <| .q 13 <| .l2 4 [13, 12, 9, 8, 6, 5, 2, 1, 0] (.l2 7 [13, 12, 9, 8, 2, 1, 0] (.l2 10 [13, 12, 2, 1, 0] (.l2 11 [13, 12, 2, 1, 0] (.l2 14 [2, 1, 0] (.q 15 <| .l 16 [15, 2, 1, 0] <| .l 17 [] <| .done) 16 [13, 12, 2, 1, 0] (.l 14 [2, 1, 0] <| .q 15 <| .l 17 [] <| .done)) 16 [13, 12, 2, 1, 0] (.l 11 [13, 12, 2, 1, 0] <| .l 14 [2, 1, 0] <| .q 15 <| .l 17 [] <| .done)) 16 [13, 12, 9, 8, 2, 1, 0] (.l 10 [13, 12, 2, 1, 0] <| .l 11 [13, 12, 2, 1, 0] <| .l 14 [2, 1, 0] <| .q 15 <| .l 17 [] <| .done)) 16 [13, 12, 9, 8, 6, 5, 2, 1, 0] (.l 7 [13, 12, 9, 8, 2, 1, 0] <| .l 10 [13, 12, 2, 1, 0] <| .l 11 [13, 12, 2, 1, 0] <| .l 14 [2, 1, 0] <| .q 15 <| .l 17 [] <| .done)) 16 [13, 12, 9, 8, 6, 5, 3, 2, 1, 0] (.l 4 [13, 12, 9, 8, 6, 5, 2, 1, 0] <| .l 7 [13, 12, 9, 8, 2, 1, 0] <| .l 10 [13, 12, 2, 1, 0] <| .l 11 [13, 12, 2, 1, 0] <| .l 14 [2, 1, 0] <| .q 15 <| .l 17 [] <| .done)) mixed (by kernel_rfl) (by kernel_rfl) ?_ | refine w_sch (id := 6) (.q 0 <| .q 1 <| .q 2 <| .q 3 <| .q 4 <| .l 5 [1, 0] <| .l 6 [0] <| .q 7 <| .l 8 [] <| .done) mixed (by kernel_rfl) (by kernel_rfl) ?_); refine k_rund ?_; refine k_run ?_)
    clear fx d1
    refine ⟨k.body.length - (i + 1), by omega, i + 1, rfl, by omega, by simp [h1], by simp [h2], by simp [h6], by simp [hp6], by simp [h8], by simp [h33], by simp [h34], by simp; exact wrp (by omega) (by omega), _, rfl, ?_, ⟨?_, ?_, ?_, ?_, ?_⟩⟩
    all_goals simp [Cod.own, hnx, o1, o2, o3, o4, o5, hp8]
  · have hge : i = k.body.length := by omega
    subst hge
    rw [List.take_length] at hc
    subst hc
    simp only [Cod.own_eq] at hp8 o1 o2 o3 o4 o5
    have fx := And.intro h1 <| And.intro h2 <| And.intro h6 <| And.intro hp6 <| And.intro h8 <| And.intro h33 <| And.intro h34 <| And.intro h35 <| And.intro hp8 <| And.intro o1 <| And.intro o2 <| And.intro o3 <| And.intro o4 <| And.intro o5 <| hil
    refine k_run ?_
    repeat ((first | refine w_sch (id := 2) (.q 0 <| .q 1 <| .q 2 <| .q 3 <| .q 5 <| .q 6 <| .q 8 <| .q 9 <| .q 12 <| .q 13 <| .l2 4 [13, 12, 9, 8, 6, 5, 2, 1, 0] (.l2 7 [13, 12, 9, 8, 2, 1, 0] (.l2 10 [13, 12, 2, 1, 0] (.l2 11 [13, 12, 2, 1, 0] (.l2 14 [2, 1, 0] (.q 15 <| .l 16 [15, 2, 1, 0] <| .l 17 [] <| .done) 16 [13, 12, 2, 1, 0] (.l 14 [2, 1, 0] <| .q 15 <| .l 17 [] <| .done)) 16 [13, 12, 2, 1, 0] (.l 11 [13, 12, 2, 1, 0] <| .l 14 [2, 1, 0] <| .q 15 <| .l 17 [] <| .done)) 16 [13, 12, 9, 8, 2, 1, 0] (.l 10 [13, 12, 2, 1, 0] <| .l 11 [13, 12, 2, 1, 0] <| .l 14 [2, 1, 0] <| .q 15 <| .l 17 [] <| .done)) 16 [13, 12, 9, 8, 6, 5, 2, 1, 0] (.l 7 [13, 12, 9, 8, 2, 1, 0] <| .l 10 [13, 12, 2, 1, 0] <| .l 11 [13, 12, 2, 1, 0] <| .l 14 [2, 1, 0] <| .q 15 <| .l 17 [] <| .done)) 16 [13, 12, 9, 8, 6, 5, 3, 2, 1, 0] (.l 4 [13, 12, 9, 8, 6, 5, 2, 1, 0] <| .l 7 [13, 12, 9, 8, 2, 1, 0] <| .l 10 [13, 12, 2, 1, 0] <| .l 11 [13, 12, 2, 1, 0] <| .l 14 [2, 1, 0] <| .q 15 <| .l 17 [] <| .done)) mixed (by kernel_rfl) (by kernel_rfl) ?_ | refine w_sch (id := 6) (.q 0 <| .q 1 <| .q 2 <| .q 3 <| .q 4 <| .l 5 [1, 0] <| .l 6 [0] <| .q 7 <| .l 8 [] <| .done) mixed (by kernel_rfl) (by kernel_rfl) ?_); refine k_rund ?_; refine k_run ?_)
    clear fx
    refine e_ret [(.s 8, root)] (.one rfl) (by simp [h6]; rfl) ⟨?_, ⟨?_, ?_, ?_, ?_, ?_⟩⟩
    all_goals simp [h6, o1, o2, o3, o4, o5]

end Go.Proofs.YtmpbjmihjelhgaaDoor
end
