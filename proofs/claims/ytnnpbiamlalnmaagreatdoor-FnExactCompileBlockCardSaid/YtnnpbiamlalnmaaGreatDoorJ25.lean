/-
  Own texts, joined by mkclaim.py: Ji.
-/
import Derived.Test.YtnnpbiamlalnmaaGreatDoorJ17
import Derived.Test.YtnnpbiamlalnmaaGreatDoorJ21
import Derived.Test.YtnnpbiamlalnmaaGreatDoorJ24
import Derived.Test.YtnnpbiamlalnmaaGreatDoorJ12
import Derived.Test.YtnnpbiamlalnmaaGreatDoorJ23
set_option linter.unusedSimpArgs false
set_option linter.unusedVariables false
set_option maxRecDepth 100000
set_option maxHeartbeats 4000000

section
namespace Go.Proofs.YtnnpbiamlalnmaaGreatDoor
open Go Go.Hm Go.Proofs
abbrev qsJi0 : Sch := .q 0 <| .q 1 <| .l 2 [0] <| .l 3 [] <| .q 4 <| .done
theorem codeG_t {p : Prg} {b : Int} (hs : Sml p) : CodT (codeG p b) := by
  cases hb : blkAt p b
  · have h : codeG p b = noCode := by simp [codeG, hb]
    rw [h]
    exact ⟨by simp, by simp, by simp, by simp, by simp⟩
  · obtain ⟨B, k, rfl, hk, hP, _⟩ := blkAt_parts hs hb
    have h : codeG p B = codeL p B := by simp [codeG, hb]
    rw [h]
    exact codeL_t hP.sh
theorem FnExactCompileBlock_fn (gl : Nat → Option (List AV)) (hgl : gl 0 = some codesL) (p : Prg) (b : Int) (hb : Big p) : FnOk Tryz.prog gl 3 [pav p, iv b] (fun _ y _ => y = bv true) := by
  refine FnOk.of_sem Tryz.func3 rfl (by kernel_rfl) (rs := [.tmp 4]) rfl Tryz.ntmps3 (Nat.le_of_ble_eq_true rfl) fun C w g root => ?_
  by_cases ht : tot p ≤ 1048576
  case neg =>
    have fx :=  ht
    have c1 := szProgram_fn gl p hb
    refine k_run ?_
    repeat ((first | refine wSc (id := 10) qsJi0 mixed ?_); refine k_rund ?_; refine k_run ?_)
    clear fx c1
    refine e_ret [] .nil (by simp; rfl) (by simp)
  have hs := tot_sml ht
  have hgt : ¬ 1048576 - (tot p : Int) < 0 := by omega
  have hsa := spec_CompileBlock_fn gl p b hs
  have hia := impl_CompileBlock_fn gl hgl p b hs
  have hT := codeG_t (b := b) hs
  generalize codeG p b = R at hsa hia hT
  have hct := hT.cnt
  have hsm := hT.sm
  have heq := eqCode_fn gl R hsm
  have hcp := cntTo_le hs p.length
  have hpl := hs.len
  have fx := And.intro ht <| hgt
  have c1 := szProgram_fn gl p hb
  have e1 := toProgram_fn gl p hs
  refine k_run ?_
  repeat ((first | refine wSc (id := 10) qsJi0 mixed ?_); refine k_rund ?_; refine k_run ?_)
  clear fx c1 e1
  rintro K hK y H1 ⟨rfl, hO⟩
  obtain ⟨ho1, ho2, ho3⟩ := hO.hcln
  refine ⟨by simp, ?_⟩
  have fx := And.intro ht <| hgt
  have e1 := hsa
  refine k_run ?_
  repeat ((first | refine wSc (id := 10) qsJi0 mixed ?_); refine k_rund ?_; refine k_run ?_)
  clear fx e1
  rintro y H2 ⟨rfl, hR⟩
  obtain ⟨r1, r2, r3, r4, r5⟩ := hR.hcln
  refine ⟨by simp, ?_⟩
  have fx := And.intro ht <| And.intro hgt <| And.intro r1 <| And.intro r2 <| And.intro r3 <| And.intro r4 <| r5
  refine k_run ?_
  repeat ((first | refine wSc (id := 10) qsJi0 mixed ?_); refine k_rund ?_; refine k_run ?_)
  clear fx
  intro K hK
  refine o_mv (.c (.s 21) 0 1) (.c (.s 6) 0 1) (.inl rfl) (.inl rfl) (o_mv (.c (.s 21) 0 2) (.c (.s 6) 0 2) (.inl rfl) (.inl rfl) (o_mv (.c (.s 21) 0 3) (.c (.s 6) 0 3) (.inl rfl) (.inl rfl) (o_mv (.c (.s 21) 0 4) (.c (.s 6) 0 4) (.inl rfl) (.inl rfl) (o_mv (.c (.s 21) 0 5) (.c (.s 6) 0 5) (.inl rfl) (.inl rfl) ?_))))
  refine o_abs (fun st => st.tm 2 = .pt (.s 2) 0 ∧ st.hp (.s 2) = some (.row 1 [[ksl p]]) ∧ st.tm 6 = .pt (.s 6) 0 ∧ st.hp (.s 6) = some (.row 6 [R.own (.s 6) 0]) ∧ OwnK st.hp (.s 6) 0 R ∧ st.tm 1 = iv b ∧ st.tm 22 = pav p) ⟨by simp, by simp, by simp, by simp, ⟨by simp [r1], by simp [r2], by simp [r3], by simp [r4], by simp [r5]⟩, by simp, by simp⟩ ?_
  clear hO ho1 ho2 ho3 hR r1 r2 r3 r4 r5
  rintro st ⟨h2, hp2, h6, hp6, ⟨r1, r2, r3, r4, r5⟩, h1, h22⟩
  rw [Cod.own_eq] at hp6
  have fx := And.intro h2 <| And.intro hp2 <| And.intro h6 <| And.intro hp6 <| And.intro h1 <| h22
  have e1 := toProgram_fn gl p hs
  refine k_run ?_
  repeat ((first | refine wSc (id := 10) qsJi0 mixed ?_); refine k_rund ?_; refine k_run ?_)
  clear fx e1
  rintro y H2 ⟨rfl, hO⟩
  obtain ⟨b1, b2, b3⟩ := hO.hcln
  refine ⟨by simp, ?_⟩
  have fx := And.intro h2 <| And.intro hp2 <| And.intro h6 <| And.intro hp6 <| And.intro h1 <| And.intro b1 <| And.intro r1 <| r2
  have e1 := hia
  refine k_run ?_
  repeat ((first | refine wSc (id := 10) qsJi0 mixed ?_); refine k_rund ?_; refine k_run ?_)
  clear fx e1
  rintro K hK y H3 ⟨rfl, hR3⟩
  obtain ⟨s1, s2, s3, s4, s5⟩ := hR3.hcln
  refine ⟨by simp, ?_⟩
  have fx := And.intro h2 <| And.intro hp2 <| And.intro h6 <| And.intro hp6 <| And.intro h1 <| And.intro b1 <| And.intro r1 <| And.intro r2 <| And.intro r3 <| And.intro r4 <| And.intro r5 <| And.intro s1 <| And.intro s2 <| And.intro s3 <| And.intro s4 <| s5
  refine k_run ?_
  repeat ((first | refine wSc (id := 10) qsJi0 mixed ?_); refine k_rund ?_; refine k_run ?_)
  clear fx
  intro K hK
  refine o_mv (.c (.s 26) 0 1) (.c (.s 8) 0 1) (.inl rfl) (.inl rfl) (o_mv (.c (.s 26) 0 2) (.c (.s 8) 0 2) (.inl rfl) (.inl rfl) (o_mv (.c (.s 26) 0 3) (.c (.s 8) 0 3) (.inl rfl) (.inl rfl) (o_mv (.c (.s 26) 0 4) (.c (.s 8) 0 4) (.inl rfl) (.inl rfl) (o_mv (.c (.s 26) 0 5) (.c (.s 8) 0 5) (.inl rfl) (.inl rfl) ?_))))
  refine o_abs (fun st => st.tm 2 = .pt (.s 2) 0 ∧ st.hp (.s 2) = some (.row 1 [[ksl p]]) ∧ st.tm 6 = .pt (.s 6) 0 ∧ st.hp (.s 6) = some (.row 6 [R.own (.s 6) 0]) ∧ OwnK st.hp (.s 6) 0 R ∧ st.tm 1 = iv b ∧ st.tm 7 = .pt (.s 7) 0 ∧ st.hp (.s 7) = some (.row 1 [[.hs (.c (.s 7) 0 0) 4 0 p.length]]) ∧ OwnP st.hp (.c (.s 7) 0 0) p ∧ st.tm 8 = .pt (.s 8) 0 ∧ st.hp (.s 8) = some (.row 6 [R.own (.s 8) 0]) ∧ OwnK st.hp (.s 8) 0 R ∧ st.tm 27 = .agg (R.own (.s 8) 0) ∧ st.tm 28 = .agg (R.own (.s 6) 0))
    ⟨by simp [h2], by simp [hp2], by simp [h6], by simp [hp6], ⟨by simp [r1], by simp [r2], by simp [r3], by simp [r4], by simp [r5]⟩, by simp [h1], by simp, by simp, ⟨by simp [b1, -List.map_map]; rw [pRows_tr (m := .c (.s 7) 0 0) (by simp), pRows_tr (m := .c (.s 7) 0 0) (by simp), pRows_tr (m := .c (.s 7) 0 0) (by simp), pRows_tr (m := .c (.s 7) 0 0) (by simp), pRows_tr (m := .c (.s 7) 0 0) (by simp)], fun j r hj => by simp [b2 j r hj], fun j r hj => by simp [b3 j r hj]⟩, by simp, by simp, ⟨by simp [s1], by simp [s2], by simp [s3], by simp [s4], by simp [s5]⟩, by simp, by simp⟩ ?_
  clear h2 hp2 h6 hp6 h1 h22 r1 r2 r3 r4 r5 s1 s2 s3 s4 s5 hO b1 b2 b3 hR3
  rintro st ⟨h2, hp2, h6, hp6, ⟨r1, r2, r3, r4, r5⟩, h1, h7, hp7, ⟨b1, b2, b3⟩, h8, hp8, ⟨s1, s2, s3, s4, s5⟩, h27, h28⟩
  rw [Cod.own_eq] at hp6 hp8 h27 h28
  all_goals have fx := And.intro h2 <| And.intro hp2 <| And.intro h6 <| And.intro hp6 <| And.intro h1 <| And.intro h7 <| And.intro hp7 <| And.intro h8 <| And.intro hp8 <| And.intro r1 <| And.intro r2 <| And.intro r3 <| And.intro r4 <| And.intro r5 <| And.intro s1 <| And.intro s2 <| And.intro s3 <| And.intro s4 <| And.intro s5 <| And.intro h27 <| h28
  repeat' (first
   | refine w_seq ?_ | refine w_skip ?_ | refine w_reg fun K hK => ?_
   | ((with_reducible refine s_end hK ?_); clear hK K)
   | (with_reducible first | refine then_normal ?_ | refine then_ret ?_ | refine s_nil ?_)
   | refine w_ret ?_
   | (with_reducible refine s_none ?_)
   | ((with_reducible refine g_id ?_); refine x_guard (h := ?_))
   | (with_reducible first | refine gx_tt ?_ | refine gx_ff ?_ | refine x_tf (h := ?_) | refine x_ft (h := ?_) | refine x_u (h := ?_) | refine x_assign (h := ?_) | refine x_box (h := ?_) | refine x_alloc (h := ?_) | refine x_store0 (h := ?_) | refine x_store (h := ?_))
   | ((with_reducible refine o_id 9 rfl ?_); refine x_call (hB := (by first | ((repeat' (first | exact .nil | refine .cons ?_ ?_ | exact .refl _ | exact bw_ints (by simp [fx]; first | done | rfl) (by first | (simp [fx]; done) | (simp [fx]; omega) | omega) | exact bw_list (by simp [fx]; first | done | rfl) (by first | (simp [fx]; done) | (simp [fx]; omega) | omega) (by first | (simp; done) | fail) | exact bw_codeA (n := .s 8) (i := 0) (c := R) ⟨by simp [s1], by simp [s2], by simp [s3], by simp [s4], by simp [s5]⟩ | exact bw_codeA (n := .s 6) (i := 0) (c := R) ⟨by simp [r1], by simp [r2], by simp [r3], by simp [r4], by simp [r5]⟩)); done) | fail)) (hF := heq) (h := ?_))
   | ((with_reducible refine o_id 7 rfl ?_); refine x_callg (hB := (by first | ((repeat' (first | exact .nil | refine .cons ?_ ?_ | exact .refl _ | exact bw_ints (by simp [fx]; first | done | rfl) (by first | (simp [fx]; done) | (simp [fx]; omega) | omega) | exact bw_list (by simp [fx]; first | done | rfl) (by first | (simp [fx]; done) | (simp [fx]; omega) | omega) (by first | (simp; done) | fail) | exact bw_codeA (n := .s 8) (i := 0) (c := R) ⟨by simp [s1], by simp [s2], by simp [s3], by simp [s4], by simp [s5]⟩ | exact bw_codeA (n := .s 6) (i := 0) (c := R) ⟨by simp [r1], by simp [r2], by simp [r3], by simp [r4], by simp [r5]⟩)); done) | fail)) (hF := toProgram_fn gl p hs) (h := ?_))
   | (with_reducible refine x_q (h := ?_))
   | (with_reducible refine gx_s (fun ht => ?_) (fun ht => ?_))
   | refine x_condt (h1 := ?_) | refine x_condf (h1 := ?_)
   | (refine wSc (id := 10) qsJi0 mixed fun K hK => ?_)
   | ((with_reducible refine a_end hK ?_); clear hK K)
   | ((with_reducible refine a_id ?_); first | refine xa_q (h := ?_) | refine xa_qt (h := ?_) | refine xa_qf (h := ?_) | refine xa_qu (h := ?_))
   | ((with_reducible refine a_id ?_); refine xa_gq (h1 := fun ht => ?_) (h2 := fun ht => ?_))
   | refine a_l rfl ?_ | refine a_l2 ?_ ?_ | (with_reducible refine And.intro ?_ ?_) | exact st_nil | refine xa_st (h2 := ?_)
   | fail)
  all_goals try clear fx
  rintro y H3 ⟨rfl, hO3⟩
  obtain ⟨ho1, ho2, ho3⟩ := hO3.hcln
  refine ⟨by simp, ?_⟩
  have fx := And.intro h2 <| And.intro hp2 <| And.intro h6 <| And.intro hp6 <| And.intro h7 <| And.intro hp7 <| And.intro h8 <| And.intro hp8 <| And.intro b1 <| ho1
  have c1 := eqProgram_fn gl p p hs hs
  refine k_run ?_
  repeat ((first | refine wSc (id := 10) qsJi0 mixed ?_); refine k_rund ?_; refine k_run ?_)
  clear fx c1
  intro K hK
  refine o_abs (fun st => st.tm 2 = .pt (.s 2) 0 ∧ st.hp (.s 2) = some (.row 1 [[ksl p]]) ∧ st.tm 6 = .pt (.s 6) 0 ∧ st.hp (.s 6) = some (.row 6 [R.own (.s 6) 0]) ∧ OwnK st.hp (.s 6) 0 R ∧ st.tm 1 = iv b ∧ OwnP st.hp (.c (.s 7) 0 0) p ∧ st.tm 8 = .pt (.s 8) 0 ∧ st.hp (.s 8) = some (.row 6 [R.own (.s 8) 0]) ∧ OwnK st.hp (.s 8) 0 R ∧ st.tm 36 = .agg [.hs (.c (.s 7) 0 0) 4 0 p.length] ∧ st.tm 37 = iv 1)
    ⟨by simp [h2], by simp [hp2], by simp [h6], by simp [hp6], ⟨by simp [r1], by simp [r2], by simp [r3], by simp [r4], by simp [r5]⟩, by simp [h1], ⟨by simp [b1], fun j r hj => by simp [b2 j r hj], fun j r hj => by simp [b3 j r hj]⟩, by simp [h8], by simp [hp8], ⟨by simp [s1], by simp [s2], by simp [s3], by simp [s4], by simp [s5]⟩, by simp, by simp⟩ ?_
  clear h2 hp2 h6 hp6 r1 r2 r3 r4 r5 h1 h7 hp7 b1 b2 b3 h8 hp8 s1 s2 s3 s4 s5 h27 h28 ho1 ho2 ho3 hO3
  rintro st ⟨h2, hp2, h6, hp6, ⟨r1, r2, r3, r4, r5⟩, h1, ⟨b1, b2, b3⟩, h8, hp8, ⟨s1, s2, s3, s4, s5⟩, h36, h37⟩
  rw [Cod.own_eq] at hp6 hp8
  have fx := And.intro h36 h37
  refine x_mutc (.c (.s 7) 0 0) (.u 0 0 0) (hext := rfl) (hs := by simp [b1]) (hF := markProgram_fn _ _ p 1 hs ⟨by simp [b1], fun j r hj => by simp [b2 j r hj], fun j r hj => by simp [b3 j r hj]⟩ (by simp) (by decide)) (h := ?_)
  rintro y H6 ⟨rfl, ⟨d1, d2, d3⟩⟩
  clear fx
  refine s_abs (fun st => st.tm 2 = .pt (.s 2) 0 ∧ st.hp (.s 2) = some (.row 1 [[ksl p]]) ∧ st.tm 6 = .pt (.s 6) 0 ∧ st.hp (.s 6) = some (.row 6 [R.own (.s 6) 0]) ∧ OwnK st.hp (.s 6) 0 R ∧ st.tm 1 = iv b ∧ st.tm 8 = .pt (.s 8) 0 ∧ st.hp (.s 8) = some (.row 6 [R.own (.s 8) 0]) ∧ OwnK st.hp (.s 8) 0 R ∧ st.tm 38 = iv (1 + cnt p))
    ⟨by simp [h2], by simp [hp2], by simp [h6], by simp [hp6], ⟨by simp [r1], by simp [r2], by simp [r3], by simp [r4], by simp [r5]⟩, by simp [h1], by simp [h8], by simp [hp8], ⟨by simp [s1], by simp [s2], by simp [s3], by simp [s4], by simp [s5]⟩, by simp⟩ ?_
  clear h2 hp2 h6 hp6 r1 r2 r3 r4 r5 h1 b1 b2 b3 h8 hp8 s1 s2 s3 s4 s5 h36 h37 d1 d2 d3
  rintro st ⟨h2, hp2, h6, hp6, ⟨r1, r2, r3, r4, r5⟩, h1, h8, hp8, ⟨s1, s2, s3, s4, s5⟩, h38⟩
  rw [Cod.own_eq] at hp6 hp8
  have hk1 : ¬ 1 + (cnt p : Int) < 0 := by omega
  all_goals have fx := And.intro h2 <| And.intro hp2 <| And.intro h6 <| And.intro hp6 <| And.intro h1 <| And.intro h8 <| And.intro hp8 <| And.intro r1 <| And.intro r2 <| And.intro r3 <| And.intro r4 <| And.intro r5 <| And.intro s1 <| And.intro s2 <| And.intro s3 <| And.intro s4 <| And.intro s5 <| And.intro h38 <| hk1
  repeat' (first
   | refine w_seq ?_ | refine w_skip ?_ | refine w_reg fun K hK => ?_
   | ((with_reducible refine s_end hK ?_); clear hK K)
   | (with_reducible first | refine then_normal ?_ | refine then_ret ?_ | refine s_nil ?_)
   | refine w_ret ?_
   | (with_reducible refine s_none ?_)
   | ((with_reducible refine g_id ?_); refine x_guard (h := ?_))
   | (with_reducible first | refine gx_tt ?_ | refine gx_ff ?_ | refine x_tf (h := ?_) | refine x_ft (h := ?_) | refine x_u (h := ?_) | refine x_assign (h := ?_) | refine x_box (h := ?_) | refine x_alloc (h := ?_) | refine x_store0 (h := ?_) | refine x_store (h := ?_))
   | ((with_reducible refine o_id 9 rfl ?_); refine x_call (hB := (by first | ((repeat' (first | exact .nil | refine .cons ?_ ?_ | exact .refl _ | exact bw_ints (by simp [fx]; first | done | rfl) (by first | (simp [fx]; done) | (simp [fx]; omega) | omega) | exact bw_list (by simp [fx]; first | done | rfl) (by first | (simp [fx]; done) | (simp [fx]; omega) | omega) (by first | (simp; done) | fail) | exact bw_codeA (n := .s 8) (i := 0) (c := R) ⟨by simp [s1], by simp [s2], by simp [s3], by simp [s4], by simp [s5]⟩ | exact bw_codeA (n := .s 6) (i := 0) (c := R) ⟨by simp [r1], by simp [r2], by simp [r3], by simp [r4], by simp [r5]⟩)); done) | fail)) (hF := heq) (h := ?_))
   | (with_reducible refine x_q (h := ?_))
   | (with_reducible refine gx_s (fun ht => ?_) (fun ht => ?_))
   | refine x_condt (h1 := ?_) | refine x_condf (h1 := ?_)
   | (refine wSc (id := 10) qsJi0 mixed fun K hK => ?_)
   | ((with_reducible refine a_end hK ?_); clear hK K)
   | ((with_reducible refine a_id ?_); first | refine xa_q (h := ?_) | refine xa_qt (h := ?_) | refine xa_qf (h := ?_) | refine xa_qu (h := ?_))
   | ((with_reducible refine a_id ?_); refine xa_gq (h1 := fun ht => ?_) (h2 := fun ht => ?_))
   | refine a_l rfl ?_ | refine a_l2 ?_ ?_ | (with_reducible refine And.intro ?_ ?_) | exact st_nil | refine xa_st (h2 := ?_)
   | fail)
  all_goals try clear fx
  refine o_abs (fun st => st.tm 2 = .pt (.s 2) 0 ∧ st.hp (.s 2) = some (.row 1 [[ksl p]]) ∧ st.tm 6 = .pt (.s 6) 0 ∧ st.hp (.s 6) = some (.row 6 [R.own (.s 6) 0]) ∧ OwnK st.hp (.s 6) 0 R ∧ st.tm 1 = iv b ∧ st.tm 8 = .pt (.s 8) 0 ∧ st.hp (.s 8) = some (.row 6 [R.own (.s 8) 0]) ∧ OwnK st.hp (.s 8) 0 R ∧ st.tm 47 = .agg (R.own (.s 8) 0) ∧ st.tm 48 = iv 1)
    ⟨by simp [h2], by simp [hp2], by simp [h6], by simp [hp6], ⟨by simp [r1], by simp [r2], by simp [r3], by simp [r4], by simp [r5]⟩, by simp [h1], by simp [h8], by simp [hp8], ⟨by simp [s1], by simp [s2], by simp [s3], by simp [s4], by simp [s5]⟩, by simp [h8, hp8], by simp⟩ ?_
  clear h2 hp2 h6 hp6 r1 r2 r3 r4 r5 h1 h8 hp8 s1 s2 s3 s4 s5 h38
  rintro st ⟨h2, hp2, h6, hp6, ⟨r1, r2, r3, r4, r5⟩, h1, h8, hp8, ⟨s1, s2, s3, s4, s5⟩, h47, h48⟩
  rw [Cod.own_eq] at hp6 hp8 h47
  have fx := And.intro h47 h48
  refine x_mutc (.s 8) (.u 0 0 0) (hext := rfl) (hs := by simp [hp8]) (hF := markCode_fn _ _ R 1 (by simp [hp8]) ⟨by simp [s1], by simp [s2], by simp [s3], by simp [s4], by simp [s5]⟩ (by simp) (by decide) hsm) (h := ?_)
  rintro y H7 ⟨rfl, hMt, ⟨m1, m2, m3, m4, m5⟩⟩
  clear fx
  rw [Cod.own_eq] at hMt
  refine s_abs (fun st => st.tm 2 = .pt (.s 2) 0 ∧ st.hp (.s 2) = some (.row 1 [[ksl p]]) ∧ st.tm 6 = .pt (.s 6) 0 ∧ st.hp (.s 6) = some (.row 6 [R.own (.s 6) 0]) ∧ OwnK st.hp (.s 6) 0 R ∧ st.tm 1 = iv b ∧ st.tm 8 = .pt (.s 8) 0 ∧ st.hp (.s 8) = some (.row 6 [R.own (.s 8) 0]) ∧ OwnK st.hp (.s 8) 0 (R.mark 1) ∧ st.tm 49 = iv (1 + R.cnt))
    ⟨by simp [h2], by simp [hp2], by simp [h6], by simp [hp6], ⟨by simp [r1], by simp [r2], by simp [r3], by simp [r4], by simp [r5]⟩, by simp [h1], by simp [h8], by simp [hMt], ⟨by simp [m1], by simp [m2], by simp [m3], by simp [m4], by simp [m5]⟩, by simp⟩ ?_
  clear h2 hp2 h6 hp6 r1 r2 r3 r4 r5 h1 h8 hp8 s1 s2 s3 s4 s5 h47 h48 hMt m1 m2 m3 m4 m5
  rintro st ⟨h2, hp2, h6, hp6, ⟨r1, r2, r3, r4, r5⟩, h1, h8, hp8, ⟨s1, s2, s3, s4, s5⟩, h49⟩
  rw [Cod.own_eq] at hp6 hp8
  have hhe := heldCode_fn gl R 1 (by decide) hsm
  have hk2 : ¬ 1 + (R.cnt : Int) < 0 := by omega
  all_goals have fx := And.intro h2 <| And.intro hp2 <| And.intro h6 <| And.intro hp6 <| And.intro h1 <| And.intro h8 <| And.intro hp8 <| And.intro r1 <| And.intro r2 <| And.intro r3 <| And.intro r4 <| And.intro r5 <| And.intro s1 <| And.intro s2 <| And.intro s3 <| And.intro s4 <| And.intro s5 <| And.intro h49 <| And.intro hk2 <| @bne_def
  repeat' (first
   | refine w_seq ?_ | refine w_skip ?_ | refine w_reg fun K hK => ?_
   | ((with_reducible refine s_end hK ?_); clear hK K)
   | (with_reducible first | refine then_normal ?_ | refine then_ret ?_ | refine s_nil ?_)
   | refine w_ret ?_
   | (with_reducible refine s_none ?_)
   | ((with_reducible refine g_id ?_); refine x_guard (h := ?_))
   | (with_reducible first | refine gx_tt ?_ | refine gx_ff ?_ | refine x_tf (h := ?_) | refine x_ft (h := ?_) | refine x_u (h := ?_) | refine x_assign (h := ?_) | refine x_box (h := ?_) | refine x_alloc (h := ?_) | refine x_store0 (h := ?_) | refine x_store (h := ?_))
   | ((with_reducible refine o_id 13 rfl ?_); refine x_call (hB := (by first | ((repeat' (first | exact .nil | refine .cons ?_ ?_ | exact .refl _ | exact bw_ints (by simp [fx]; first | done | rfl) (by first | (simp [fx]; done) | (simp [fx]; omega) | omega) | exact bw_list (by simp [fx]; first | done | rfl) (by first | (simp [fx]; done) | (simp [fx]; omega) | omega) (by first | (simp; done) | fail) | exact bw_codeM (n := .s 8) (i := 0) (k := R) (c := 1) ⟨by simp [s1], by simp [s2], by simp [s3], by simp [s4], by simp [s5]⟩)); done) | fail)) (hF := hhe) (h := ?_))
   | ((with_reducible refine o_id 7 rfl ?_); refine x_callg (hB := (by first | ((repeat' (first | exact .nil | refine .cons ?_ ?_ | exact .refl _ | exact bw_ints (by simp [fx]; first | done | rfl) (by first | (simp [fx]; done) | (simp [fx]; omega) | omega) | exact bw_list (by simp [fx]; first | done | rfl) (by first | (simp [fx]; done) | (simp [fx]; omega) | omega) (by first | (simp; done) | fail) | exact bw_codeM (n := .s 8) (i := 0) (k := R) (c := 1) ⟨by simp [s1], by simp [s2], by simp [s3], by simp [s4], by simp [s5]⟩)); done) | fail)) (hF := toProgram_fn gl p hs) (h := ?_))
   | (with_reducible refine x_q (h := ?_))
   | (with_reducible refine gx_s (fun ht => ?_) (fun ht => ?_))
   | refine x_condt (h1 := ?_) | refine x_condf (h1 := ?_)
   | (refine wSc (id := 10) qsJi0 mixed fun K hK => ?_)
   | ((with_reducible refine a_end hK ?_); clear hK K)
   | ((with_reducible refine a_id ?_); first | refine xa_q (h := ?_) | refine xa_qt (h := ?_) | refine xa_qf (h := ?_) | refine xa_qu (h := ?_))
   | ((with_reducible refine a_id ?_); refine xa_gq (h1 := fun ht => ?_) (h2 := fun ht => ?_))
   | refine a_l rfl ?_ | refine a_l2 ?_ ?_ | (with_reducible refine And.intro ?_ ?_) | exact st_nil | refine xa_st (h2 := ?_)
   | fail)
  all_goals try clear fx
  rintro y H8 ⟨rfl, hO⟩
  obtain ⟨ho1, ho2, ho3⟩ := hO.hcln
  refine ⟨by simp, ?_⟩
  have fx := And.intro h2 <| And.intro hp2 <| And.intro h6 <| And.intro hp6 <| And.intro h1 <| And.intro h8 <| And.intro hp8 <| ho1
  have e1 := hia
  refine k_run ?_
  repeat ((first | refine wSc (id := 10) qsJi0 mixed ?_); refine k_rund ?_; refine k_run ?_)
  clear fx e1
  rintro y H9 ⟨rfl, hR9⟩
  obtain ⟨t1, t2, t3, t4, t5⟩ := hR9.hcln
  refine ⟨by simp, ?_⟩
  all_goals have fx := And.intro h2 <| And.intro hp2 <| And.intro h6 <| And.intro hp6 <| And.intro h1 <| And.intro h8 <| And.intro hp8 <| And.intro ho1 <| And.intro r1 <| And.intro r2 <| And.intro r3 <| And.intro r4 <| And.intro r5 <| And.intro s1 <| And.intro s2 <| And.intro s3 <| And.intro s4 <| And.intro s5 <| And.intro t1 <| And.intro t2 <| And.intro t3 <| And.intro t4 <| And.intro t5 <| And.intro hk2 <| @bne_def
  repeat' (first
   | refine w_seq ?_ | refine w_skip ?_ | refine w_reg fun K hK => ?_
   | ((with_reducible refine s_end hK ?_); clear hK K)
   | (with_reducible first | refine then_normal ?_ | refine then_ret ?_ | refine s_nil ?_)
   | refine w_ret ?_
   | (with_reducible refine s_none ?_)
   | ((with_reducible refine g_id ?_); refine x_guard (h := ?_))
   | (with_reducible first | refine gx_tt ?_ | refine gx_ff ?_ | refine x_tf (h := ?_) | refine x_ft (h := ?_) | refine x_u (h := ?_) | refine x_assign (h := ?_) | refine x_box (h := ?_) | refine x_alloc (h := ?_) | refine x_store0 (h := ?_) | refine x_store (h := ?_))
   | ((with_reducible refine o_id 9 rfl ?_); refine x_call (hB := (by first | ((repeat' (first | exact .nil | refine .cons ?_ ?_ | exact .refl _ | exact bw_ints (by simp [fx]; first | done | rfl) (by first | (simp [fx]; done) | (simp [fx]; omega) | omega) | exact bw_list (by simp [fx]; first | done | rfl) (by first | (simp [fx]; done) | (simp [fx]; omega) | omega) (by first | (simp; done) | fail) | exact bw_codeA (n := .s 61) (i := 0) (c := R) ⟨by simp [t1], by simp [t2], by simp [t3], by simp [t4], by simp [t5]⟩ | exact bw_codeA (n := .s 6) (i := 0) (c := R) ⟨by simp [r1], by simp [r2], by simp [r3], by simp [r4], by simp [r5]⟩ | exact bw_codeM (n := .s 8) (i := 0) (k := R) (c := 1) ⟨by simp [s1], by simp [s2], by simp [s3], by simp [s4], by simp [s5]⟩)); done) | fail)) (hF := heq) (h := ?_))
   | ((with_reducible refine o_id 13 rfl ?_); refine x_call (hB := (by first | ((repeat' (first | exact .nil | refine .cons ?_ ?_ | exact .refl _ | exact bw_ints (by simp [fx]; first | done | rfl) (by first | (simp [fx]; done) | (simp [fx]; omega) | omega) | exact bw_list (by simp [fx]; first | done | rfl) (by first | (simp [fx]; done) | (simp [fx]; omega) | omega) (by first | (simp; done) | fail) | exact bw_codeA (n := .s 61) (i := 0) (c := R) ⟨by simp [t1], by simp [t2], by simp [t3], by simp [t4], by simp [t5]⟩ | exact bw_codeA (n := .s 6) (i := 0) (c := R) ⟨by simp [r1], by simp [r2], by simp [r3], by simp [r4], by simp [r5]⟩ | exact bw_codeM (n := .s 8) (i := 0) (k := R) (c := 1) ⟨by simp [s1], by simp [s2], by simp [s3], by simp [s4], by simp [s5]⟩)); done) | fail)) (hF := hhe) (h := ?_))
   | (with_reducible refine x_q (h := ?_))
   | (with_reducible refine gx_s (fun ht => ?_) (fun ht => ?_))
   | refine x_condt (h1 := ?_) | refine x_condf (h1 := ?_)
   | (refine wSc (id := 10) qsJi0 mixed fun K hK => ?_)
   | ((with_reducible refine a_end hK ?_); clear hK K)
   | ((with_reducible refine a_id ?_); first | refine xa_q (h := ?_) | refine xa_qt (h := ?_) | refine xa_qf (h := ?_) | refine xa_qu (h := ?_))
   | ((with_reducible refine a_id ?_); refine xa_gq (h1 := fun ht => ?_) (h2 := fun ht => ?_))
   | refine a_l rfl ?_ | refine a_l2 ?_ ?_ | (with_reducible refine And.intro ?_ ?_) | exact st_nil | refine xa_st (h2 := ?_)
   | fail)
  all_goals try clear fx
  refine e_ret [] .nil (by simp; rfl) (by simp)
end Go.Proofs.YtnnpbiamlalnmaaGreatDoor
end
