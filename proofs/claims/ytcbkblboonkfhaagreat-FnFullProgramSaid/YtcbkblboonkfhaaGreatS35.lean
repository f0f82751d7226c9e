/-
  Own texts, joined by mkclaim.py: Gm.
-/
import Derived.Test.YtcbkblboonkfhaaGreatS22
import Derived.Test.YtcbkblboonkfhaaGreatS24
import Derived.Test.YtcbkblboonkfhaaGreatS10
import Derived.Test.YtcbkblboonkfhaaGreatS13
set_option linter.unusedSimpArgs false
set_option linter.unusedVariables false
set_option maxRecDepth 100000
set_option maxHeartbeats 4000000

section
namespace Go.Proofs.YtcbkblboonkfhaaGreat
open Go Go.Hm Go.Proofs
abbrev qsGm0 : Sch := .q 0 <| .q 1 <| .q 2 <| .q 3 <| .q 4 <| .q 6 <| .q 7 <| .q 8 <| .q 9 <| .q 10 <| .q 11 <| .l 5 [11, 10, 9, 8, 7, 6, 2, 1, 0] <| .l 12 [10, 9, 8, 7, 6, 2, 1, 0] <| .q 13 <| .q 14 <| .l 15 [13] <| .done
abbrev qsGm1 : Sch := .q 0 <| .l 1 [] <| .q 2 <| .q 3 <| .q 4 <| .q 6 <| .l 5 [6, 2] <| .l 7 [2] <| .l 8 [2] <| .q 9 <| .q 10 <| .done
theorem spec_FullProgram_fn (gl) (p : Prg) (hs : Sml p) : FnOk Tryz.prog gl 30 [pav p] (fun r y H' => if fullOk p = true then y = .tup [.agg [.hs r 4 0 p.length], bv true] ∧ OwnP H' r (fullP p) else y = .tup [.agg [.hs r 4 0 0], bv false] ∧ H' r = some (.row 4 [])) := by
  have hpl := hs.len
  refine FnOk.of_sem Tryz.func30 rfl (by kernel_rfl) (rs := [.cell 2 29, .tmp 3]) rfl Tryz.ntmps30 (Nat.le_of_ble_eq_true rfl) fun C w g root => ?_
  all_goals have fx := fx0
  repeat' (first
   | refine w_seq ?_ | refine w_block ?_ | refine w_skip ?_ | refine w_reg fun K hK => ?_
   | ((with_reducible refine s_end hK ?_); clear hK K)
   | (with_reducible first | refine then_normal ?_ | refine in_normal ?_ | refine then_exit ?_ | refine in_exit ?_ | refine then_ret ?_ | refine in_ret ?_ | refine s_nil ?_ | refine in_other (by decide) ?_)
   | refine w_exit ?_
   | refine w_ret ?_
   | (with_reducible refine s_none ?_)
   | ((with_reducible refine g_id ?_); refine x_guard (h := ?_))
   | (with_reducible first | refine gx_tt ?_ | refine gx_ff ?_ | refine x_tf (h := ?_) | refine x_ft (h := ?_) | refine x_u (h := ?_) | refine x_assign (h := ?_) | refine x_box (h := ?_) | refine x_alloc (h := ?_) | refine x_store0 (h := ?_) | refine x_append0 (T := 44) (h := ?_) | refine x_append (T := 44) (h := ?_) | refine x_store (h := ?_))
   | ((with_reducible refine o_id 58 rfl ?_); refine x_call (hF := validProgram_fn _ p hs) (h := ?_))
   | (with_reducible refine x_q (h := ?_))
   | (with_reducible refine gx_s (fun ht => ?_) (fun ht => ?_))
   | refine x_condt (h1 := ?_) | refine x_condf (h1 := ?_)
   | (refine wSc (id := 7) qsGm0 mixed fun K hK => ?_)
   | (refine wSc (id := 8) qsGm1 mixed fun K hK => ?_)
   | ((with_reducible refine a_end hK ?_); clear hK K)
   | ((with_reducible refine a_id ?_); first | refine xa_q (h := ?_) | refine xa_qt (h := ?_) | refine xa_qf (h := ?_) | refine xa_qu (h := ?_))
   | ((with_reducible refine a_id ?_); refine xa_gq (h1 := fun ht => ?_) (h2 := fun ht => ?_))
   | refine a_l rfl ?_ | refine a_l2 ?_ ?_ | (with_reducible refine And.intro ?_ ?_) | exact st_nil | refine xa_st (h2 := ?_)
   | refine x_if (h1 := fun ht => ?_) (h2 := fun ht => ?_)
   | fail)
  all_goals try clear fx
  · have hno : fullOk p = false := by
      have : progOk p = false := by simpa using ht
      simp only [fullOk, this, Bool.false_and]
    simp only [hno]
    refine e_ret [(.c (.s 2) 0 0, root)] (.one rfl) (by simp; rfl) ?_
    simp
  have hpo : progOk p = true := by simpa using ht
  have hsh : shapeOk p = true := by
    simp only [progOk, Bool.and_eq_true] at hpo
    exact hpo.1
  obtain ⟨hh, hl1, hl7, hbo, _⟩ := shapeOk_heads hsh
  clear ht
  have fx := fx0
  have e1 := copyProgram_fn gl p hs
  refine k_run ?_
  repeat ((first | refine wSc (id := 7) qsGm0 mixed ?_ | refine wSc (id := 8) qsGm1 mixed ?_); refine k_rund ?_; refine k_run ?_)
  clear fx e1
  first | rintro K hK y H' ⟨rfl, hO⟩ | rintro y H' ⟨rfl, hO⟩
  obtain ⟨ho1, ho2, ho3⟩ := hO.hcln
  refine ⟨by simp, ?_⟩
  have fx :=  ho1
  refine k_run ?_
  repeat ((first | refine wSc (id := 7) qsGm0 mixed ?_ | refine wSc (id := 8) qsGm1 mixed ?_); refine k_rund ?_; refine k_run ?_)
  clear fx
  refine w_loop (fun n st => ∃ i : Nat, n = p.length - i ∧ i ≤ p.length ∧ st.tm 1 = .pt (.s 1) 0 ∧ st.hp (.s 1) = some (.row 1 [[ksl p]]) ∧ st.tm 2 = .pt (.s 2) 0 ∧ st.hp (.s 2) = some (.row 1 [[.hs (.c (.s 2) 0 0) 4 0 0]]) ∧ st.hp (.c (.s 2) 0 0) = some (.row 4 []) ∧ st.tm 4 = .pt (.s 4) 0 ∧ st.hp (.s 4) = some (.row 1 [[.hs (.c (.s 4) 0 0) 4 0 p.length]]) ∧ st.tm 5 = iv i ∧ OwnP st.hp (.c (.s 4) 0 0) (fullTo p i)) p.length ?_ ?_
  · refine ⟨0, by omega, by omega, by simp, by simp, by simp, by simp, by simp, by simp, by simp, by simp, ⟨by simp [ho1, fullTo], fun j k hk => ?_, fun j k hk => ?_⟩⟩
    · simp [ho2 j k hk]
    · simp [ho3 j k hk]
  clear ho1 ho2 ho3 hO
  rintro n st - - ⟨i, rfl, hi, h1, hp1, h2, hp2, hp2', h4, hp4, h5, ⟨ho1, ho2, ho3⟩⟩
  have fx := And.intro h1 <| And.intro hp1 <| h5
  refine k_run ?_
  repeat ((first | refine wSc (id := 7) qsGm0 mixed ?_ | refine wSc (id := 8) qsGm1 mixed ?_); refine k_rund ?_; refine k_run ?_)
  clear fx
  refine w_if (by simp []; first | done | rfl | exact (Bool.not_not _).symm) (fun ht => ?_) (fun hf => ?_)
  · have hlt : i < p.length := by simpa using ht
    obtain ⟨k, hk⟩ : ∃ k, p[i]? = some k := ⟨_, gE hlt⟩
    have hki : (fullTo p i)[i]? = some k := by rw [fullTo_get hk i, if_neg (by omega)]
    have hob := ho3 i k hki
    obtain ⟨_, hki'⟩ := gS hki
    have hkb := (hs.bsm hk).body
    have hex : (explicitL p i k).length ≤ 8 := by
      have h3 := k.rd_len
      unfold explicitL
      split
      · simp
      · exact Nat.le_trans (explicit_take _) h3
    clear ht
    have fx := And.intro h1 <| And.intro hp1 <| And.intro h4 <| And.intro hp4 <| And.intro h5 <| And.intro ho1 <| And.intro hob <| And.intro hki <| And.intro hki' <| hlt
    have d1 := explicit_fn gl p i k hk hs hh
    refine k_run ?_
    repeat ((first | refine wSc (id := 7) qsGm0 mixed ?_ | refine wSc (id := 8) qsGm1 mixed ?_); refine k_rund ?_; refine k_run ?_)
    clear fx d1
    have hft : fullTo p (i + 1) = setBody (fullTo p i) i (explicitL p i k ++ k.body) := by simp only [fullTo, hk]
    refine ⟨p.length - (i + 1), by omega, i + 1, rfl, by omega, by simp [h1], by simp [hp1], by simp [h2], by simp [hp2], by simp [hp2'], by simp [h4], by simp [hp4], by simp; exact wrp (by omega) (by omega), ?_⟩
    rw [hft]
    refine ⟨?_, fun j r hj => ?_, fun j r hj => ?_⟩
    · simp [ho1, pRows_set (n := .c (.s 4) 0 0) (a := 31) (i := i) (p := fullTo p i) (L := explicitL p i k ++ k.body)]
    all_goals
      have hl : j < (fullTo p i).length := by
        have := (gS hj).1
        rwa [setBody_len] at this
      obtain ⟨q, hq⟩ : ∃ q, (fullTo p i)[j]? = some q := ⟨_, gE hl⟩
      rw [setBody_get hq] at hj
      obtain rfl := Option.some.inj hj
      by_cases hij : i = j
    · subst hij
      simp [ho2 i q hq]
    · simp [ho2 j q hq, hij, show ¬ j = i from fun e => hij e.symm]
    · subst hij
      simp
    · simp [ho3 j q hq, hij, show ¬ j = i from fun e => hij e.symm]
  · have hge : i = p.length := by
      have : ¬ i < p.length := by simpa using hf
      omega
    subst hge
    clear hf hi
    have hfs := fullP_sml hs hsh
    all_goals have fx := And.intro h1 <| And.intro hp1 <| And.intro h4 <| And.intro hp4 <| And.intro h2 <| And.intro hp2 <| hp2'
    repeat' (first
     | refine w_seq ?_ | refine w_block ?_ | refine w_skip ?_ | refine w_reg fun K hK => ?_
     | ((with_reducible refine s_end hK ?_); clear hK K)
     | (with_reducible first | refine then_normal ?_ | refine in_normal ?_ | refine then_exit ?_ | refine in_exit ?_ | refine then_ret ?_ | refine in_ret ?_ | refine s_nil ?_ | refine in_other (by decide) ?_)
     | refine w_exit ?_
     | refine w_ret ?_
     | (with_reducible refine s_none ?_)
     | ((with_reducible refine g_id ?_); refine x_guard (h := ?_))
     | (with_reducible first | refine gx_tt ?_ | refine gx_ff ?_ | refine x_tf (h := ?_) | refine x_ft (h := ?_) | refine x_u (h := ?_) | refine x_assign (h := ?_) | refine x_box (h := ?_) | refine x_alloc (h := ?_) | refine x_store0 (h := ?_) | refine x_append0 (T := 44) (h := ?_) | refine x_append (T := 44) (h := ?_) | refine x_store (h := ?_))
     | ((with_reducible refine o_id 58 rfl ?_); refine x_call (hB := (by first | ((repeat' (first | exact .nil | refine .cons ?_ ?_ | exact .refl _ | exact bw_ints (by simp [fx]; first | done | rfl) (by first | (simp [fx]; done) | (simp [fx]; omega) | omega) | exact bw_list (by simp [fx]; first | done | rfl) (by first | (simp [fx]; done) | (simp [fx]; omega) | omega) (by first | (simp; done) | fail) | exact bw_agg1 (bw_prog (p := fullP p) ⟨by simp [ho1, fullP], fun j r hj => by simp [ho2 j r hj], fun j r hj => by simp [ho3 j r hj]⟩ (by simp [fullP])))); done) | fail)) (hF := validProgram_fn _ (fullP p) hfs) (h := ?_))
     | ((with_reducible refine o_id 67 rfl ?_); refine x_callg (hB := (by first | ((repeat' (first | exact .nil | refine .cons ?_ ?_ | exact .refl _ | exact bw_ints (by simp [fx]; first | done | rfl) (by first | (simp [fx]; done) | (simp [fx]; omega) | omega) | exact bw_list (by simp [fx]; first | done | rfl) (by first | (simp [fx]; done) | (simp [fx]; omega) | omega) (by first | (simp; done) | fail) | exact bw_agg1 (bw_prog (p := fullP p) ⟨by simp [ho1, fullP], fun j r hj => by simp [ho2 j r hj], fun j r hj => by simp [ho3 j r hj]⟩ (by simp [fullP])))); done) | fail)) (hF := ownersOf_fn _ p hs hh) (h := ?_))
     | (with_reducible refine x_q (h := ?_))
     | (with_reducible refine gx_s (fun ht => ?_) (fun ht => ?_))
     | refine x_condt (h1 := ?_) | refine x_condf (h1 := ?_)
     | (refine wSc (id := 7) qsGm0 mixed fun K hK => ?_)
     | (refine wSc (id := 8) qsGm1 mixed fun K hK => ?_)
     | ((with_reducible refine a_end hK ?_); clear hK K)
     | ((with_reducible refine a_id ?_); first | refine xa_q (h := ?_) | refine xa_qt (h := ?_) | refine xa_qf (h := ?_) | refine xa_qu (h := ?_))
     | ((with_reducible refine a_id ?_); refine xa_gq (h1 := fun ht => ?_) (h2 := fun ht => ?_))
     | refine a_l rfl ?_ | refine a_l2 ?_ ?_ | (with_reducible refine And.intro ?_ ?_) | exact st_nil | refine xa_st (h2 := ?_)
     | fail)
    all_goals try clear fx
    · have hno : fullOk p = false := by
        have : progOk (fullP p) = false := by simpa using ht
        simp only [fullOk, this, Bool.false_and, Bool.and_false]
      simp only [hno]
      refine e_ret [(.c (.s 2) 0 0, root)] (.one rfl) (by simp [h2]; rfl) ?_
      simp
    have hpf : progOk (fullP p) = true := by simpa using ht
    have hshf : shapeOk (fullP p) = true := by
      simp only [progOk, Bool.and_eq_true] at hpf
      exact hpf.1
    rintro y H1 ⟨rfl, hT1⟩
    obtain ⟨t11, t12⟩ := hT1.hcln
    refine ⟨by simp, ?_⟩
    all_goals have fx := And.intro h1 <| And.intro hp1 <| And.intro h4 <| And.intro hp4 <| And.intro h2 <| And.intro hp2 <| hp2'
    repeat' (first
     | refine w_seq ?_ | refine w_block ?_ | refine w_skip ?_ | refine w_reg fun K hK => ?_
     | ((with_reducible refine s_end hK ?_); clear hK K)
     | (with_reducible first | refine then_normal ?_ | refine in_normal ?_ | refine then_exit ?_ | refine in_exit ?_ | refine then_ret ?_ | refine in_ret ?_ | refine s_nil ?_ | refine in_other (by decide) ?_)
     | refine w_exit ?_
     | refine w_ret ?_
     | (with_reducible refine s_none ?_)
     | ((with_reducible refine g_id ?_); refine x_guard (h := ?_))
     | (with_reducible first | refine gx_tt ?_ | refine gx_ff ?_ | refine x_tf (h := ?_) | refine x_ft (h := ?_) | refine x_u (h := ?_) | refine x_assign (h := ?_) | refine x_box (h := ?_) | refine x_alloc (h := ?_) | refine x_store0 (h := ?_) | refine x_append0 (T := 44) (h := ?_) | refine x_append (T := 44) (h := ?_) | refine x_store (h := ?_))
     | ((with_reducible refine o_id 67 rfl ?_); refine x_callg (hB := (by first | ((repeat' (first | exact .nil | refine .cons ?_ ?_ | exact .refl _ | exact bw_ints (by simp [fx]; first | done | rfl) (by first | (simp [fx]; done) | (simp [fx]; omega) | omega) | exact bw_list (by simp [fx]; first | done | rfl) (by first | (simp [fx]; done) | (simp [fx]; omega) | omega) (by first | (simp; done) | fail) | exact bw_agg1 (bw_prog (p := fullP p) ⟨by simp [ho1, fullP], fun j r hj => by simp [ho2 j r hj], fun j r hj => by simp [ho3 j r hj]⟩ (by simp [fullP])))); done) | fail)) (hF := ownersOf_fn _ (fullP p) hfs (shapeOk_heads hshf).1) (h := ?_))
     | (with_reducible refine x_q (h := ?_))
     | (with_reducible refine gx_s (fun ht => ?_) (fun ht => ?_))
     | refine x_condt (h1 := ?_) | refine x_condf (h1 := ?_)
     | (refine wSc (id := 7) qsGm0 mixed fun K hK => ?_)
     | (refine wSc (id := 8) qsGm1 mixed fun K hK => ?_)
     | ((with_reducible refine a_end hK ?_); clear hK K)
     | ((with_reducible refine a_id ?_); first | refine xa_q (h := ?_) | refine xa_qt (h := ?_) | refine xa_qf (h := ?_) | refine xa_qu (h := ?_))
     | ((with_reducible refine a_id ?_); refine xa_gq (h1 := fun ht => ?_) (h2 := fun ht => ?_))
     | refine a_l rfl ?_ | refine a_l2 ?_ ?_ | (with_reducible refine And.intro ?_ ?_) | exact st_nil | refine xa_st (h2 := ?_)
     | fail)
    all_goals try clear fx
    rintro y H2 ⟨rfl, hT2⟩
    obtain ⟨t21, t22⟩ := hT2.hcln
    refine ⟨by simp, ?_⟩
    have hl1 : (ownersOf p).length = (ownersOf (fullP p)).length := by simp [ownersOf, fullP]
    have hl2 : (ownersOf p).length ≤ 1048576 := by simp [ownersOf]; omega
    have hl3 : ∀ (i : Nat) r r', (ownersOf p)[i]? = some r → (ownersOf (fullP p))[i]? = some r' → r.length = r'.length ∧ r.length ≤ 1048576 := by
      intro i r r' hr hr'
      rw [ownersOf_row hr, ownersOf_row hr']
      exact ⟨rfl, by decide⟩
    all_goals have fx := And.intro h1 <| And.intro hp1 <| And.intro h4 <| And.intro hp4 <| And.intro h2 <| And.intro hp2 <| hp2'
    repeat' (first
     | refine w_seq ?_ | refine w_block ?_ | refine w_skip ?_ | refine w_reg fun K hK => ?_
     | ((with_reducible refine s_end hK ?_); clear hK K)
     | (with_reducible first | refine then_normal ?_ | refine in_normal ?_ | refine then_exit ?_ | refine in_exit ?_ | refine then_ret ?_ | refine in_ret ?_ | refine s_nil ?_ | refine in_other (by decide) ?_)
     | refine w_exit ?_
     | refine w_ret ?_
     | (with_reducible refine s_none ?_)
     | ((with_reducible refine g_id ?_); refine x_guard (h := ?_))
     | (with_reducible first | refine gx_tt ?_ | refine gx_ff ?_ | refine x_tf (h := ?_) | refine x_ft (h := ?_) | refine x_u (h := ?_) | refine x_assign (h := ?_) | refine x_box (h := ?_) | refine x_alloc (h := ?_) | refine x_store0 (h := ?_) | refine x_append0 (T := 44) (h := ?_) | refine x_append (T := 44) (h := ?_) | refine x_store (h := ?_))
     | ((with_reducible refine o_id 66 rfl ?_); refine x_call (hB := (by first | ((repeat' (first | exact .nil | refine .cons ?_ ?_ | exact .refl _ | exact bw_ints (by simp [fx]; first | done | rfl) (by first | (simp [fx]; done) | (simp [fx]; omega) | omega) | exact bw_list (by simp [fx]; first | done | rfl) (by first | (simp [fx]; done) | (simp [fx]; omega) | omega) (by first | (simp; done) | fail) | exact bw_tab (by simp [t11]; first | done | rfl) (fun j r hj => by simp [t12 j r hj]) (by simp) | exact bw_tab (by simp [t21]; first | done | rfl) (fun j r hj => by simp [t22 j r hj]) (by simp))); done) | fail)) (hF := sameTable_fn _ _ _ hl1 hl2 hl3) (h := ?_))
     | (with_reducible refine x_q (h := ?_))
     | (with_reducible refine gx_s (fun ht => ?_) (fun ht => ?_))
     | refine x_condt (h1 := ?_) | refine x_condf (h1 := ?_)
     | (refine wSc (id := 7) qsGm0 mixed fun K hK => ?_)
     | (refine wSc (id := 8) qsGm1 mixed fun K hK => ?_)
     | ((with_reducible refine a_end hK ?_); clear hK K)
     | ((with_reducible refine a_id ?_); first | refine xa_q (h := ?_) | refine xa_qt (h := ?_) | refine xa_qf (h := ?_) | refine xa_qu (h := ?_))
     | ((with_reducible refine a_id ?_); refine xa_gq (h1 := fun ht => ?_) (h2 := fun ht => ?_))
     | refine a_l rfl ?_ | refine a_l2 ?_ ?_ | (with_reducible refine And.intro ?_ ?_) | exact st_nil | refine xa_st (h2 := ?_)
     | refine x_if (h1 := fun ht => ?_) (h2 := fun ht => ?_)
     | fail)
    all_goals try clear fx
    · have hno : fullOk p = false := by
        simp only [fullOk, hpo, hpf, Bool.true_and]
        simpa using ht
      simp only [hno]
      refine e_ret [(.c (.s 2) 0 0, root)] (.one rfl) (by simp [h2]; rfl) ?_
      simp
    · have hyes : fullOk p = true := by
        simp only [fullOk, hpo, hpf, Bool.true_and]
        simpa using ht
      simp only [hyes, if_true]
      refine e_ret [(.c (.s 4) 0 0, root)] (.one rfl) (by simp [h2, fullP]; rfl) ⟨by simp, ⟨?_, fun j r hj => ?_, fun j r hj => ?_⟩⟩
      · simp [ho1, fullP, pRows_tr (n := .c (.s 4) 0 0) (m := root) (f := finf noD [(.c (.s 4) 0 0, root)]) (p := fullTo p p.length) (by simp)]
      · simp [ho2 j r hj]
      · simp [ho3 j r hj]
end Go.Proofs.YtcbkblboonkfhaaGreat
end
