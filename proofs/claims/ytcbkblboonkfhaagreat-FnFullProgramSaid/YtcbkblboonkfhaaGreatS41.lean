/-
  Own texts, joined by mkclaim.py: Ho, Hp, Tb, Sw, Vr, Vu.
-/
import Derived.Test.YtcbkblboonkfhaaGreatS30
import Derived.Test.YtcbkblboonkfhaaGreatS35
import Derived.Test.YtcbkblboonkfhaaGreatS11
import Derived.Test.YtcbkblboonkfhaaGreatS13
import Derived.Test.YtcbkblboonkfhaaGreatS26
import Derived.Test.YtcbkblboonkfhaaGreatS12
import Derived.Test.YtcbkblboonkfhaaGreatS33
import Derived.Test.YtcbkblboonkfhaaGreatS31
set_option linter.unusedSimpArgs false
set_option linter.unusedVariables false
set_option maxRecDepth 100000
set_option maxHeartbeats 4000000

section
namespace Go.Proofs.YtcbkblboonkfhaaGreat
open Go Go.Hm Go.Proofs
abbrev qsHo0 : Sch := .q 0 <| .q 1 <| .q 2 <| .q 3 <| .q 5 <| .q 6 <| .q 7 <| .q 8 <| .q 9 <| .q 10 <| .l 4 [10, 9, 8, 7, 6, 5, 2, 1, 0] <| .l 11 [9, 8, 7, 6, 5, 2, 1, 0] <| .q 12 <| .q 13 <| .l 14 [12] <| .done
abbrev qsHo1 : Sch := .q 0 <| .l 1 [] <| .q 2 <| .q 3 <| .q 4 <| .q 6 <| .l 5 [6, 2] <| .l 7 [2] <| .l 8 [2] <| .q 9 <| .q 10 <| .done
theorem impl_FullProgram_fn (gl) (p : Prg) (hs : Sml p) : FnOk Tryz.prog gl 29 [pav p] (fun r y H' => if fullOk p = true then y = .tup [.agg [.hs r 4 0 p.length], bv true] ∧ OwnP H' r (fullP p) else y = .tup [.agg [.hs r 4 0 0], bv false] ∧ H' r = some (.row 4 [])) := by
  refine FnOk.of_sem Tryz.func29 rfl (by kernel_rfl) (rs := [.cell 2 29, .tmp 3]) rfl Tryz.ntmps29 (Nat.le_of_ble_eq_true rfl) fun C w g root => ?_
  cases hpo : progOk p with
  | false =>
    have hno : fullOk p = false := by simp only [fullOk, hpo, Bool.false_and]
    have fx :=  hpo
    have c1 := impl_ValidProgram_fn gl p hs
    refine k_run ?_
    repeat ((first | refine wSc (id := 8) qsHo0 mixed ?_ | refine wSc (id := 12) qsHo1 mixed ?_); refine k_rund ?_; refine k_run ?_)
    clear fx c1
    simp only [hno]
    refine e_ret [(.c (.s 2) 0 0, root)] (.one rfl) (by simp; rfl) ?_
    simp
  | true =>
    have hsh : shapeOk p = true := by
      simp only [progOk, Bool.and_eq_true] at hpo
      exact hpo.1
    have hp := ShapeP.of hs hsh
    have hh := hp.heads
    have hl7 := hp.len
    have fx :=  hpo
    have c1 := impl_ValidProgram_fn gl p hs
    have e1 := copyOf_fn gl p hs
    refine k_run ?_
    repeat ((first | refine wSc (id := 8) qsHo0 mixed ?_ | refine wSc (id := 12) qsHo1 mixed ?_); refine k_rund ?_; refine k_run ?_)
    clear fx c1 e1
    first | rintro K hK y H' ⟨rfl, hO⟩ | rintro y H' ⟨rfl, hO⟩
    obtain ⟨ho1, ho2, ho3⟩ := hO.hcln
    refine ⟨by simp, ?_⟩
    have fx :=  ho1
    have e1 := scopesOf_fn gl p hs hh hp.names
    refine k_run ?_
    repeat ((first | refine wSc (id := 8) qsHo0 mixed ?_ | refine wSc (id := 12) qsHo1 mixed ?_); refine k_rund ?_; refine k_run ?_)
    clear fx e1
    first | rintro K hK y H2 ⟨rfl, hS⟩ | rintro y H2 ⟨rfl, hS⟩
    obtain ⟨hc1, hc2⟩ := hS.hcln
    refine ⟨by simp, ?_⟩
    have fx := fx0
    refine k_run ?_
    repeat ((first | refine wSc (id := 8) qsHo0 mixed ?_ | refine wSc (id := 12) qsHo1 mixed ?_); refine k_rund ?_; refine k_run ?_)
    clear fx
    refine w_loop (fun n st => ∃ i : Nat, n = p.length - i ∧ i ≤ p.length ∧ st.tm 1 = .pt (.s 1) 0 ∧ st.hp (.s 1) = some (.row 1 [[ksl p]]) ∧ st.tm 2 = .pt (.s 2) 0 ∧ st.hp (.s 2) = some (.row 1 [[.hs (.c (.s 2) 0 0) 4 0 0]]) ∧ st.hp (.c (.s 2) 0 0) = some (.row 4 []) ∧ st.tm 4 = .pt (.s 4) 0 ∧ st.hp (.s 4) = some (.row 1 [[.hs (.c (.s 4) 0 0) 4 0 p.length]]) ∧ st.tm 14 = .hs (.s 14) 1 0 p.length ∧ OwnS st.hp (.s 14) p p.length ∧ st.tm 15 = iv p.length ∧ st.tm 16 = iv i ∧ OwnP st.hp (.c (.s 4) 0 0) (fullTo p i)) p.length ?_ ?_
    · refine ⟨0, by omega, by omega, by simp, by simp, by simp, by simp, by simp, by simp, by simp, by simp, ⟨by simp [hc1], fun j k hj hk => by simp [hc2 j k hj hk]⟩, by simp, by simp, ⟨by simp [ho1, fullTo], fun j k hk => ?_, fun j k hk => ?_⟩⟩
      · simp [ho2 j k hk]
      · simp [ho3 j k hk]
    clear ho1 ho2 ho3 hO hc1 hc2 hS
    rintro n st - - ⟨i, rfl, hi, h1, hp1, h2, hp2, hp2', h4, hp4, h14, ⟨hc1, hc2⟩, h15, h16, ⟨ho1, ho2, ho3⟩⟩
    have fx := And.intro h15 <| h16
    refine k_run ?_
    repeat ((first | refine wSc (id := 8) qsHo0 mixed ?_ | refine wSc (id := 12) qsHo1 mixed ?_); refine k_rund ?_; refine k_run ?_)
    clear fx
    refine w_if (by simp []; first | done | rfl | exact (Bool.not_not _).symm) (fun ht => ?_) (fun hf => ?_)
    · have hlt : i < p.length := by simpa using ht
      obtain ⟨k, hk⟩ : ∃ k, p[i]? = some k := ⟨_, gE hlt⟩
      have hsg := sRows_at (n := .s 14) hlt
      obtain ⟨_, hse⟩ := gS hsg
      clear ht
      have fx := And.intro h14 <| And.intro hc1 <| And.intro h15 <| And.intro h16 <| And.intro hsg <| And.intro hse <| hlt
      refine k_run ?_
      repeat ((first | refine wSc (id := 8) qsHo0 mixed ?_ | refine wSc (id := 12) qsHo1 mixed ?_); refine k_rund ?_; refine k_run ?_)
      clear fx
      refine w_if (by simp []; first | done | rfl | exact (Bool.not_not _).symm) (fun ht => ?_) (fun hf => ?_)
      · have hi0 : i = 0 := by simpa using ht
        subst hi0
        have fx :=  h16
        refine k_run ?_
        repeat ((first | refine wSc (id := 8) qsHo0 mixed ?_ | refine wSc (id := 12) qsHo1 mixed ?_); refine k_rund ?_; refine k_run ?_)
        clear fx
        refine ⟨p.length - 1, by omega, 1, rfl, by omega, by simp [h1], by simp [hp1], by simp [h2], by simp [hp2], by simp [hp2'], by simp [h4], by simp [hp4], by simp [h14], ⟨by simp [hc1], fun j k hj hk => by simp [hc2 j k hj hk]⟩, by simp [h15], by simp; exact wrp (by omega) (by omega), ?_⟩
        rw [fullTo_one hk]
        exact ⟨by simp [ho1, fullTo], fun j k hk => by simp [ho2 j k hk], fun j k hk => by simp [ho3 j k hk]⟩
      · have hi0 : 0 < i := by
          have : ¬ i = 0 := by simpa using hf
          omega
        have hki : (fullTo p i)[i]? = some k := by rw [fullTo_get hk i, if_neg (by omega)]
        have hob := ho3 i k hki
        obtain ⟨_, hki'⟩ := gS hki
        have hkb := (hs.bsm hk).body
        have hex := explicitL_len (p := p) (i := i) (k := k)
        have hset := pRows_set (n := .c (.s 4) 0 0) (a := 34) (i := i) (len := (explicitL p i k).length + k.body.length) (p := fullTo p i) (L := explicitL p i k ++ k.body) (by simp) (by simp) (by simp)
        have hsb := setBody_get (i := i) (L := explicitL p i k ++ k.body) hki
        rw [if_pos rfl] at hsb
        obtain ⟨_, hsbe⟩ := gS hsb
        all_goals have fx := And.intro h1 <| And.intro hp1 <| And.intro h2 <| And.intro hp2 <| And.intro hp2' <| And.intro h4 <| And.intro hp4 <| And.intro h16 <| And.intro ho1 <| And.intro hob <| And.intro hki <| And.intro hki' <| And.intro hset <| And.intro hsb <| And.intro hsbe <| hlt
        repeat' (first
         | refine w_seq ?_ | refine w_block ?_ | refine w_skip ?_ | refine w_reg fun K hK => ?_
         | ((with_reducible refine s_end hK ?_); clear hK K)
         | (with_reducible first | refine then_normal ?_ | refine in_normal ?_ | refine then_exit ?_ | refine in_exit ?_ | refine then_ret ?_ | refine in_ret ?_ | refine s_nil ?_ | refine in_other (by decide) ?_)
         | refine w_exit ?_
         | refine w_ret ?_
         | (with_reducible refine s_none ?_)
         | ((with_reducible refine g_id ?_); refine x_guard (h := ?_))
         | (with_reducible first | refine gx_tt ?_ | refine gx_ff ?_ | refine x_tf (h := ?_) | refine x_ft (h := ?_) | refine x_u (h := ?_) | refine x_assign (h := ?_) | refine x_box (h := ?_) | refine x_alloc (h := ?_) | refine x_store0 (h := ?_) | refine x_append0 (T := 44) (h := ?_) | refine x_append (T := 44) (h := ?_) | refine x_store (h := ?_))
         | ((with_reducible refine o_id 79 rfl ?_); refine x_callh (hB := (by first | ((repeat' (first | exact .nil | refine .cons ?_ ?_ | exact .refl _ | exact bw_ints (by simp [fx]; first | done | rfl) (by first | (simp [fx]; done) | (simp [fx]; omega) | omega) | exact bw_list (by simp [fx]; first | done | rfl) (by first | (simp [fx]; done) | (simp [fx]; omega) | omega) (by first | (simp; done) | fail) | exact bw_sc (n := .s 14) (p := p) (k := k) ⟨by simp [hc1], fun j k hj hk => by simp [hc2 j k hj hk]⟩ hh hk)); done) | fail)) (hF := missing_fn _ p hp i k hk hi0) (h := ?_))
         | (with_reducible refine x_q (h := ?_))
         | (with_reducible refine gx_s (fun ht => ?_) (fun ht => ?_))
         | refine x_condt (h1 := ?_) | refine x_condf (h1 := ?_)
         | (refine wSc (id := 8) qsHo0 mixed fun K hK => ?_)
         | (refine wSc (id := 12) qsHo1 mixed fun K hK => ?_)
         | ((with_reducible refine a_end hK ?_); clear hK K)
         | ((with_reducible refine a_id ?_); first | refine xa_q (h := ?_) | refine xa_qt (h := ?_) | refine xa_qf (h := ?_) | refine xa_qu (h := ?_))
         | ((with_reducible refine a_id ?_); refine xa_gq (h1 := fun ht => ?_) (h2 := fun ht => ?_))
         | refine a_l rfl ?_ | refine a_l2 ?_ ?_ | (with_reducible refine And.intro ?_ ?_) | exact st_nil | refine xa_st (h2 := ?_)
         | refine x_if (h1 := fun ht => ?_) (h2 := fun ht => ?_)
         | fail)
        all_goals try clear fx
        · have hno : fullOk p = false := fullP_long hk (by simp at ht ⊢; omega)
          simp only [hno]
          refine e_ret [(.c (.s 2) 0 0, root)] (.one rfl) (by simp [h2]; rfl) ?_
          simp
        · have hft : fullTo p (i + 1) = setBody (fullTo p i) i (explicitL p i k ++ k.body) := by simp only [fullTo, hk]
          refine ⟨p.length - (i + 1), by omega, i + 1, rfl, by omega, by simp [h1], by simp [hp1], by simp [h2], by simp [hp2], by simp [hp2'], by simp [h4], by simp [hp4], by simp [h14], ⟨by simp [hc1], fun j k hj hk => by simp [hc2 j k hj hk]⟩, by simp [h15], by simp; exact wrp (by omega) (by omega), ?_⟩
          rw [hft]
          refine ⟨?_, fun j r hj => ?_, fun j r hj => ?_⟩
          · simp [hset]
          all_goals
            have hl : j < (fullTo p i).length := by
              have := (gS hj).1
              rwa [setBody_len] at this
            obtain ⟨q, hq⟩ : ∃ q, (fullTo p i)[j]? = some q := ⟨_, gE hl⟩
            rw [setBody_get hq] at hj
            obtain rfl := Option.some.inj hj
            by_cases hij : i = j
          · subst hij
            simp [ho2 i q hq]
          · simp [ho2 j q hq, hij, show ¬ j = i from fun e => hij e.symm]
          · subst hij
            simp
          · simp [ho3 j q hq, hij, show ¬ j = i from fun e => hij e.symm]
    · have hge : i = p.length := by
        have : ¬ i < p.length := by simpa using hf
        omega
      subst hge
      clear hf hi
      have hfs := fullP_sml hs hsh
      have hfo : fullOk p = (progOk (fullP p) && decide (ownersOf (fullP p) = ownersOf p)) := by
        simp only [fullOk, hpo, Bool.true_and]
        congr 1
        simp only [decide_eq_decide]
        exact eq_comm
      cases hpf : progOk (fullP p) with
      | false =>
        have hno : fullOk p = false := by rw [hfo, hpf]; rfl
        all_goals have fx := And.intro h1 <| And.intro hp1 <| And.intro h4 <| And.intro hp4 <| And.intro h2 <| And.intro hp2 <| And.intro hp2' <| hpf
        repeat' (first
         | refine w_seq ?_ | refine w_block ?_ | refine w_skip ?_ | refine w_reg fun K hK => ?_
         | ((with_reducible refine s_end hK ?_); clear hK K)
         | (with_reducible first | refine then_normal ?_ | refine in_normal ?_ | refine then_exit ?_ | refine in_exit ?_ | refine then_ret ?_ | refine in_ret ?_ | refine s_nil ?_ | refine in_other (by decide) ?_)
         | refine w_exit ?_
         | refine w_ret ?_
         | (with_reducible refine s_none ?_)
         | ((with_reducible refine g_id ?_); refine x_guard (h := ?_))
         | (with_reducible first | refine gx_tt ?_ | refine gx_ff ?_ | refine x_tf (h := ?_) | refine x_ft (h := ?_) | refine x_u (h := ?_) | refine x_assign (h := ?_) | refine x_box (h := ?_) | refine x_alloc (h := ?_) | refine x_store0 (h := ?_) | refine x_append0 (T := 44) (h := ?_) | refine x_append (T := 44) (h := ?_) | refine x_store (h := ?_))
         | ((with_reducible refine o_id 52 rfl ?_); refine x_call (hB := (by first | ((repeat' (first | exact .nil | refine .cons ?_ ?_ | exact .refl _ | exact bw_ints (by simp [fx]; first | done | rfl) (by first | (simp [fx]; done) | (simp [fx]; omega) | omega) | exact bw_list (by simp [fx]; first | done | rfl) (by first | (simp [fx]; done) | (simp [fx]; omega) | omega) (by first | (simp; done) | fail) | exact bw_agg1 (bw_prog (p := fullP p) ⟨by simp [ho1, fullP], fun j r hj => by simp [ho2 j r hj], fun j r hj => by simp [ho3 j r hj]⟩ (by simp [fullP])))); done) | fail)) (hF := impl_ValidProgram_fn _ (fullP p) hfs) (h := ?_))
         | (with_reducible refine x_q (h := ?_))
         | (with_reducible refine gx_s (fun ht => ?_) (fun ht => ?_))
         | refine x_condt (h1 := ?_) | refine x_condf (h1 := ?_)
         | (refine wSc (id := 8) qsHo0 mixed fun K hK => ?_)
         | (refine wSc (id := 12) qsHo1 mixed fun K hK => ?_)
         | ((with_reducible refine a_end hK ?_); clear hK K)
         | ((with_reducible refine a_id ?_); first | refine xa_q (h := ?_) | refine xa_qt (h := ?_) | refine xa_qf (h := ?_) | refine xa_qu (h := ?_))
         | ((with_reducible refine a_id ?_); refine xa_gq (h1 := fun ht => ?_) (h2 := fun ht => ?_))
         | refine a_l rfl ?_ | refine a_l2 ?_ ?_ | (with_reducible refine And.intro ?_ ?_) | exact st_nil | refine xa_st (h2 := ?_)
         | fail)
        all_goals try clear fx
        all_goals
          simp only [hno]
          refine e_ret [(.c (.s 2) 0 0, root)] (.one rfl) (by simp [h2]; rfl) ?_
          simp
      | true =>
        rw [hpf, Bool.true_and] at hfo
        have hpq : ShapeP (fullP p) := ShapeP.of hfs (by
          simp only [progOk, Bool.and_eq_true] at hpf
          exact hpf.1)
        all_goals have fx := And.intro h1 <| And.intro hp1 <| And.intro h4 <| And.intro hp4 <| And.intro h2 <| And.intro hp2 <| And.intro hp2' <| hpf
        repeat' (first
         | refine w_seq ?_ | refine w_block ?_ | refine w_skip ?_ | refine w_reg fun K hK => ?_
         | ((with_reducible refine s_end hK ?_); clear hK K)
         | (with_reducible first | refine then_normal ?_ | refine in_normal ?_ | refine then_exit ?_ | refine in_exit ?_ | refine then_ret ?_ | refine in_ret ?_ | refine s_nil ?_ | refine in_other (by decide) ?_)
         | refine w_exit ?_
         | refine w_ret ?_
         | (with_reducible refine s_none ?_)
         | ((with_reducible refine g_id ?_); refine x_guard (h := ?_))
         | (with_reducible first | refine gx_tt ?_ | refine gx_ff ?_ | refine x_tf (h := ?_) | refine x_ft (h := ?_) | refine x_u (h := ?_) | refine x_assign (h := ?_) | refine x_box (h := ?_) | refine x_alloc (h := ?_) | refine x_store0 (h := ?_) | refine x_append0 (T := 44) (h := ?_) | refine x_append (T := 44) (h := ?_) | refine x_store (h := ?_))
         | ((with_reducible refine o_id 52 rfl ?_); refine x_call (hB := (by first | ((repeat' (first | exact .nil | refine .cons ?_ ?_ | exact .refl _ | exact bw_ints (by simp [fx]; first | done | rfl) (by first | (simp [fx]; done) | (simp [fx]; omega) | omega) | exact bw_list (by simp [fx]; first | done | rfl) (by first | (simp [fx]; done) | (simp [fx]; omega) | omega) (by first | (simp; done) | fail) | exact bw_agg1 (bw_prog (p := fullP p) ⟨by simp [ho1, fullP], fun j r hj => by simp [ho2 j r hj], fun j r hj => by simp [ho3 j r hj]⟩ (by simp [fullP])))); done) | fail)) (hF := impl_ValidProgram_fn _ (fullP p) hfs) (h := ?_))
         | ((with_reducible refine o_id 63 rfl ?_); refine x_callg (hB := (by first | ((repeat' (first | exact .nil | refine .cons ?_ ?_ | exact .refl _ | exact bw_ints (by simp [fx]; first | done | rfl) (by first | (simp [fx]; done) | (simp [fx]; omega) | omega) | exact bw_list (by simp [fx]; first | done | rfl) (by first | (simp [fx]; done) | (simp [fx]; omega) | omega) (by first | (simp; done) | fail) | exact bw_agg1 (bw_prog (p := fullP p) ⟨by simp [ho1, fullP], fun j r hj => by simp [ho2 j r hj], fun j r hj => by simp [ho3 j r hj]⟩ (by simp [fullP])))); done) | fail)) (hF := impl_ownersOf_fn _ (fullP p) hpq) (h := ?_))
         | (with_reducible refine x_q (h := ?_))
         | (with_reducible refine gx_s (fun ht => ?_) (fun ht => ?_))
         | refine x_condt (h1 := ?_) | refine x_condf (h1 := ?_)
         | (refine wSc (id := 8) qsHo0 mixed fun K hK => ?_)
         | (refine wSc (id := 12) qsHo1 mixed fun K hK => ?_)
         | ((with_reducible refine a_end hK ?_); clear hK K)
         | ((with_reducible refine a_id ?_); first | refine xa_q (h := ?_) | refine xa_qt (h := ?_) | refine xa_qf (h := ?_) | refine xa_qu (h := ?_))
         | ((with_reducible refine a_id ?_); refine xa_gq (h1 := fun ht => ?_) (h2 := fun ht => ?_))
         | refine a_l rfl ?_ | refine a_l2 ?_ ?_ | (with_reducible refine And.intro ?_ ?_) | exact st_nil | refine xa_st (h2 := ?_)
         | fail)
        all_goals try clear fx
        rintro y H1 ⟨rfl, hT1⟩
        obtain ⟨t11, t12⟩ := hT1.hcln
        refine ⟨by simp, ?_⟩
        have fx := And.intro h1 <| And.intro hp1 <| And.intro h4 <| And.intro hp4 <| And.intro h2 <| And.intro hp2 <| And.intro hp2' <| hpf
        have e1 := impl_ownersOf_fn gl p hp
        refine k_run ?_
        repeat ((first | refine wSc (id := 8) qsHo0 mixed ?_ | refine wSc (id := 12) qsHo1 mixed ?_); refine k_rund ?_; refine k_run ?_)
        clear fx e1
        first | rintro K hK y H2 ⟨rfl, hT2⟩ | rintro y H2 ⟨rfl, hT2⟩
        obtain ⟨t21, t22⟩ := hT2.hcln
        refine ⟨by simp, ?_⟩
        have hl1 : (ownersOf (fullP p)).length ≤ 1048576 := by simp [ownersOf, fullP]; omega
        have hl2 : (ownersOf p).length ≤ 1048576 := by simp [ownersOf]; omega
        have hr : ∀ q : Prg, ∀ r ∈ ownersOf q, r.length ≤ 1048576 := fun q r hr => by
          obtain ⟨j, hj⟩ := List.getElem?_of_mem hr
          rw [ownersOf_row hj]
          decide
        all_goals have fx := And.intro h1 <| And.intro hp1 <| And.intro h4 <| And.intro hp4 <| And.intro h2 <| And.intro hp2 <| And.intro hp2' <| hpf
        repeat' (first
         | refine w_seq ?_ | refine w_block ?_ | refine w_skip ?_ | refine w_reg fun K hK => ?_
         | ((with_reducible refine s_end hK ?_); clear hK K)
         | (with_reducible first | refine then_normal ?_ | refine in_normal ?_ | refine then_exit ?_ | refine in_exit ?_ | refine then_ret ?_ | refine in_ret ?_ | refine s_nil ?_ | refine in_other (by decide) ?_)
         | refine w_exit ?_
         | refine w_ret ?_
         | (with_reducible refine s_none ?_)
         | ((with_reducible refine g_id ?_); refine x_guard (h := ?_))
         | (with_reducible first | refine gx_tt ?_ | refine gx_ff ?_ | refine x_tf (h := ?_) | refine x_ft (h := ?_) | refine x_u (h := ?_) | refine x_assign (h := ?_) | refine x_box (h := ?_) | refine x_alloc (h := ?_) | refine x_store0 (h := ?_) | refine x_append0 (T := 44) (h := ?_) | refine x_append (T := 44) (h := ?_) | refine x_store (h := ?_))
         | ((with_reducible refine o_id 64 rfl ?_); refine x_call (hB := (by first | ((repeat' (first | exact .nil | refine .cons ?_ ?_ | exact .refl _ | exact bw_ints (by simp [fx]; first | done | rfl) (by first | (simp [fx]; done) | (simp [fx]; omega) | omega) | exact bw_list (by simp [fx]; first | done | rfl) (by first | (simp [fx]; done) | (simp [fx]; omega) | omega) (by first | (simp; done) | fail) | exact bw_tab (by simp [t11]; first | done | rfl) (fun j r hj => by simp [t12 j r hj]) (by simp [ownersOf]) | exact bw_tab (by simp [t21]; first | done | rfl) (fun j r hj => by simp [t22 j r hj]) (by simp [ownersOf]))); done) | fail)) (hF := gridEqual_fn _ _ _ hl1 hl2 (hr _) (hr _)) (h := ?_))
         | (with_reducible refine x_q (h := ?_))
         | (with_reducible refine gx_s (fun ht => ?_) (fun ht => ?_))
         | refine x_condt (h1 := ?_) | refine x_condf (h1 := ?_)
         | (refine wSc (id := 8) qsHo0 mixed fun K hK => ?_)
         | (refine wSc (id := 12) qsHo1 mixed fun K hK => ?_)
         | ((with_reducible refine a_end hK ?_); clear hK K)
         | ((with_reducible refine a_id ?_); first | refine xa_q (h := ?_) | refine xa_qt (h := ?_) | refine xa_qf (h := ?_) | refine xa_qu (h := ?_))
         | ((with_reducible refine a_id ?_); refine xa_gq (h1 := fun ht => ?_) (h2 := fun ht => ?_))
         | refine a_l rfl ?_ | refine a_l2 ?_ ?_ | (with_reducible refine And.intro ?_ ?_) | exact st_nil | refine xa_st (h2 := ?_)
         | refine x_if (h1 := fun ht => ?_) (h2 := fun ht => ?_)
         | fail)
        all_goals try clear fx
        · have hno : fullOk p = false := by rw [hfo]; simpa using ht
          simp only [hno]
          refine e_ret [(.c (.s 2) 0 0, root)] (.one rfl) (by simp [h2]; rfl) ?_
          simp
        · have hyes : fullOk p = true := by rw [hfo]; simpa using ht
          simp only [hyes, if_true]
          refine e_ret [(.c (.s 4) 0 0, root)] (.one rfl) (by simp [h2, fullP]; rfl) ⟨by simp, ⟨?_, fun j r hj => ?_, fun j r hj => ?_⟩⟩
          · simp [ho1, fullP, pRows_tr (n := .c (.s 4) 0 0) (m := root) (f := finf noD [(.c (.s 4) 0 0, root)]) (p := fullTo p p.length) (by simp)]
          · simp [ho2 j r hj]
          · simp [ho3 j r hj]
theorem list_fn (gl) (l : List Int) : FnOk Tryz.prog gl 84 [.agg (bset l)] (fun r z H' => z = .hs r 1 0 (sorted l).length ∧ H' r = some (.row 1 (irows (sorted l)))) := by
  refine FnOk.of_sem Tryz.func84 rfl (by kernel_rfl) (rs := [.tmp 2]) rfl Tryz.ntmps84 (Nat.le_of_ble_eq_true rfl) fun C w g root => ?_
  have fx := fx0
  refine k_run ?_
  clear fx
  refine w_loop (fun n st => ∃ x : Nat, n = 8 - x ∧ x ≤ 8 ∧ st.tm 6 = .agg (bset l) ∧ st.tm 7 = iv x ∧ st.tm 3 = .hs (.s 3) 1 0 (sortedTo l x).length ∧ st.hp (.s 3) = some (.row 1 (irows (sortedTo l x))) ∧ (sortedTo l x).length ≤ x) 8 ?_ ?_
  · exact ⟨0, by omega, by omega, by simp, by simp, by simp [sortedTo], by simp [sortedTo], by simp [sortedTo]⟩
  rintro n st - - ⟨x, rfl, hx, h6, h7, h3, hp3, hle⟩
  have fx :=  h7
  refine k_run ?_
  clear fx
  refine w_if (by simp []; first | done | rfl | exact (Bool.not_not _).symm) (fun ht => ?_) (fun hf => ?_)
  · have hx8' : (x : Int) < 8 := by simpa using ht
    have hx8 : x < 8 := by omega
    have hbg := bset_get (l := l) hx8
    obtain ⟨hbl, hbE⟩ := gS hbg
    clear ht
    by_cases hm : (x : Int) ∈ l
    · have he : sortedTo l (x + 1) = sortedTo l x ++ [(x : Int)] := by simp [sortedTo, hm]
      generalize hL : sortedTo l x = L at h3 hp3 he hle
      have fx := And.intro h6 <| And.intro h7 <| And.intro hbg <| And.intro hbE <| And.intro hx8 <| And.intro hx8' <| And.intro hm <| And.intro h3 <| hp3
      refine k_run ?_
      clear fx
      refine ⟨8 - (x + 1), by omega, x + 1, rfl, by omega, by simp [h6], by simp; exact wrp (by omega) (by omega), by simp [he], ?_, by simp [he]; omega⟩
      rw [he]
      simp [hp3, irows]
    · have he : sortedTo l (x + 1) = sortedTo l x := by simp [sortedTo, hm]
      have fx := And.intro h6 <| And.intro h7 <| And.intro hbg <| And.intro hbE <| And.intro hx8 <| And.intro hx8' <| hm
      refine k_run ?_
      clear fx
      exact ⟨8 - (x + 1), by omega, x + 1, rfl, by omega, by simp [h6], by simp; exact wrp (by omega) (by omega), by simp [he, h3], by simp [he, hp3], by rw [he]; omega⟩
  · have hge : x = 8 := by
      have : ¬ (x : Int) < 8 := by simpa using hf
      omega
    subst hge
    have fx := And.intro h3 <| hp3
    refine k_run ?_
    clear fx
    exact e_list (t := 2) (by first | (simp [hp3]; done) | (simp [hp3]; rfl)) (by first | (simp [hp3]; done) | (simp [hp3]; rfl)) (by simp)
theorem OwnerOf_fn (gl) (p : Prg) (b x : Nat) (k : Blk) (hk : p[b]? = some k) (hx : x < 8) (hs : Sml p) (hv : progOk p = true) : FnOk Tryz.prog gl 32 [pav p, iv b, iv x] (fun _ z _ => z = iv (owner p b x)) := by
  have hsh : shapeOk p = true := by
    simp only [progOk, Bool.and_eq_true] at hv
    exact hv.1
  have hp := ShapeP.of hs hsh
  have hh := hp.heads
  have hvp := hv ▸ impl_ValidProgram_fn gl p hs
  obtain ⟨hbl, hkE⟩ := gS hk
  have hib := impl_isBlock_fn gl p b
  rw [show decide ((0 : Int) ≤ (b : Int) ∧ (b : Int) < p.length) = true by simp; omega] at hib
  have hin := impl_isName_fn gl x
  rw [show (decide ((0 : Int) ≤ (x : Int)) && decide ((x : Int) ≤ 7)) = true by simp; omega] at hin
  have hsc := scopesOf_fn gl p hs hh hp.names
  have how := scope_owner_fn gl p hp b k hk x hx
  have hsg := sRows_at (n := .s 22) hbl
  obtain ⟨_, hse⟩ := gS hsg
  refine FnOk.of_sem Tryz.func32 rfl (by kernel_rfl) (rs := [.tmp 6]) rfl Tryz.ntmps32 (Nat.le_of_ble_eq_true rfl) fun C w g root => ?_
  have fx := And.intro hk <| And.intro hkE <| hbl
  have c1 := hvp
  have c2 := hib
  have c3 := hin
  have e1 := hsc
  refine k_run ?_
  clear fx c1 c2 c3 e1
  rintro K hK z H' ⟨rfl, hO⟩
  obtain ⟨hc1, hc2⟩ := hO.hcln
  refine ⟨by simp, ?_⟩
  have fx := And.intro hc1 <| And.intro hsg <| And.intro hse <| hbl
  have c1 := how
  refine k_run ?_
  clear fx c1
  refine e_ret [] .nil (by simp; rfl) (by simp)
theorem ReadIn_fn (gl) (p : Prg) (b : Nat) (k : Blk) (hk : p[b]? = some k) (hs : Sml p) (hv : progOk p = true) : FnOk Tryz.prog gl 31 [pav p, iv b] (fun r z H' => z = .hs r 1 0 (sorted k.rd).length ∧ H' r = some (.row 1 (irows (sorted k.rd)))) := by
  have hsh : shapeOk p = true := by
    simp only [progOk, Bool.and_eq_true] at hv
    exact hv.1
  have hp := ShapeP.of hs hsh
  have hvs := hsh ▸ impl_ValidShape_fn gl p hs
  obtain ⟨hbl, hkE⟩ := gS hk
  have hib := impl_isBlock_fn gl p b
  rw [show decide ((0 : Int) ≤ (b : Int) ∧ (b : Int) < p.length) = true by simp; omega] at hib
  have hbs := readSet_fn gl k (hp.names k (List.mem_of_getElem? hk)) (hs.bsm hk)
  have hls := list_fn gl k.rd
  refine FnOk.of_sem Tryz.func31 rfl (by kernel_rfl) (rs := [.tmp 4]) rfl Tryz.ntmps31 (Nat.le_of_ble_eq_true rfl) fun C w g root => ?_
  have fx := And.intro hk <| And.intro hkE <| hbl
  have c1 := hvs
  have c2 := hib
  have c3 := hbs
  have d1 := hls
  refine k_run ?_
  clear fx c1 c2 c3 d1
  refine e_ret [(.s 4, root)] (.one rfl) (by simp; rfl) ⟨by simp, by simp⟩
theorem DeclaredIn_fn (gl) (p : Prg) (b : Nat) (k : Blk) (d : Int) (hd : d = 9 ∨ d = 10) (hk : p[b]? = some k) (hs : Sml p) (hv : progOk p = true) : FnOk Tryz.prog gl 34 [pav p, iv b, iv d] (fun r z H' => z = .hs r 1 0 (sorted (k.dc d)).length ∧ H' r = some (.row 1 (irows (sorted (k.dc d))))) := by
  have hsh : shapeOk p = true := by
    simp only [progOk, Bool.and_eq_true] at hv
    exact hv.1
  have hp := ShapeP.of hs hsh
  have hvs := hsh ▸ impl_ValidShape_fn gl p hs
  obtain ⟨hbl, hkE⟩ := gS hk
  have hib := impl_isBlock_fn gl p b
  rw [show decide ((0 : Int) ≤ (b : Int) ∧ (b : Int) < p.length) = true by simp; omega] at hib
  have hbs := declaredSet_fn gl k d (hp.names k (List.mem_of_getElem? hk)) (hs.bsm hk)
  have hls := list_fn gl (k.dc d)
  refine FnOk.of_sem Tryz.func34 rfl (by kernel_rfl) (rs := [.tmp 6]) rfl Tryz.ntmps34 (Nat.le_of_ble_eq_true rfl) fun C w g root => ?_
  rcases hd with rfl | rfl
  all_goals
    have fx := And.intro hk <| And.intro hkE <| And.intro hbl <| @bne_def
    have c1 := hvs
    have c2 := hib
    have c3 := hbs
    have d1 := hls
    refine k_run ?_
    clear fx c1 c2 c3 d1
    refine e_ret [(.s 6, root)] (.one rfl) (by simp; rfl) ⟨by simp, by simp⟩
abbrev qsVu0 : Sch := .q 0 <| .q 1 <| .q 2 <| .q 3 <| .q 4 <| .q 5 <| .q 7 <| .l 6 [7, 4, 3, 2] <| .q 8 <| .q 9 <| .q 10 <| .q 11 <| .q 13 <| .q 14 <| .q 15 <| .q 16 <| .l 12 [16, 15, 14, 13, 8, 7, 4, 3, 2] <| .l 17 [15, 14, 13, 8, 7, 4, 3, 2] <| .q 18 <| .q 19 <| .q 20 <| .q 21 <| .q 22 <| .q 24 <| .q 25 <| .q 26 <| .q 27 <| .l 23 [27, 26, 25, 24, 19, 18, 15, 14, 13, 8, 7, 4, 3, 2] <| .l 28 [26, 25, 24, 19, 18, 15, 14, 13, 8, 7, 4, 3, 2] <| .q 29 <| .q 30 <| .done
theorem implFullL_fn (gl) (p : Prg) (hs : Sml p) : FnOk Tryz.prog gl 29 [pav p] (fun r y H' => y = .tup [.agg [.hs r 4 0 (fullG p).length], bv (fullOk p)] ∧ OwnP H' r (fullG p)) := by
  refine FnE.mono (impl_FullProgram_fn gl p hs) (fun r y H' h => ?_) (fun _ _ _ h => h)
  cases hf : fullOk p
  · simp only [hf, Bool.false_eq_true, if_false] at h
    have hg : fullG p = [] := by simp [fullG, hf]
    rw [hg]
    exact ⟨h.1, ⟨by simpa [pRows] using h.2, fun j k hk => by simp at hk, fun j k hk => by simp at hk⟩⟩
  · simp only [hf, if_true] at h
    have hg : fullG p = fullP p := by simp [fullG, hf]
    rw [hg, show (fullP p).length = p.length by simp [fullP]]
    exact h
theorem specFullL_fn (gl) (p : Prg) (hs : Sml p) : FnOk Tryz.prog gl 30 [pav p] (fun r y H' => y = .tup [.agg [.hs r 4 0 (fullG p).length], bv (fullOk p)] ∧ OwnP H' r (fullG p)) := by
  refine FnE.mono (spec_FullProgram_fn gl p hs) (fun r y H' h => ?_) (fun _ _ _ h => h)
  cases hf : fullOk p
  · simp only [hf, Bool.false_eq_true, if_false] at h
    have hg : fullG p = [] := by simp [fullG, hf]
    rw [hg]
    exact ⟨h.1, ⟨by simpa [pRows] using h.2, fun j k hk => by simp at hk, fun j k hk => by simp at hk⟩⟩
  · simp only [hf, if_true] at h
    have hg : fullG p = fullP p := by simp [fullG, hf]
    rw [hg, show (fullP p).length = p.length by simp [fullP]]
    exact h
theorem FnFullProgram_fn (gl : Nat → Option (List AV)) (code : List Int) (hcode : ∀ v ∈ code, 0 ≤ v ∧ v ≤ 255) (hbig : code.length ≤ 1152921504606846976) :
    FnOk Tryz.prog gl 7 [bsl code] (fun _ z _ => z = bv true) := by
  refine FnOk.of_sem Tryz.func7 rfl (by kernel_rfl) (rs := [.tmp 2]) rfl Tryz.ntmps7 (Nat.le_of_ble_eq_true rfl) fun C w g root => ?_
  by_cases hlen : 1048576 < code.length
  · have hl1 : (1048576 : Int) < code.length := by omega
    have fx :=  hl1
    refine k_run ?_
    repeat ((first | refine wSc (id := 15) qsVu0 mixed ?_); refine k_rund ?_; refine k_run ?_)
    clear fx
    refine e_ret [] .nil (by simp; rfl) (by simp)
  have hl1 : ¬ (1048576 : Int) < code.length := by omega
  have hc : CodeOk code := ⟨by omega, hcode⟩
  have fx :=  hl1
  have e1 := DrawFullProgram_fn gl code hc
  refine k_run ?_
  repeat ((first | refine wSc (id := 15) qsVu0 mixed ?_); refine k_rund ?_; refine k_run ?_)
  clear fx e1
  rintro K hK z H1 ⟨p, rfl, hO, hs⟩
  obtain ⟨ho1, ho2, ho3⟩ := hO.hcln
  refine ⟨by simp, ?_⟩
  have hpl := hs.len
  have hqs := fullG_sml hs
  have hql := hqs.len
  have il := implFullL_fn gl p hs
  have sl := specFullL_fn gl p hs
  have eq1 := equalProgram_fn gl (fullG p) (fullG p) hqs hqs
  simp only [decide_true] at eq1
  have fx :=  ho1
  have e1 := il
  refine k_run ?_
  repeat ((first | refine wSc (id := 15) qsVu0 mixed ?_); refine k_rund ?_; refine k_run ?_)
  clear fx e1
  rintro K hK z H2 ⟨rfl, hQ⟩
  obtain ⟨b1, b2, b3⟩ := hQ.hcln
  refine ⟨by simp, ?_⟩
  have fx := And.intro ho1 <| b1
  have e1 := sl
  refine k_run ?_
  repeat ((first | refine wSc (id := 15) qsVu0 mixed ?_); refine k_rund ?_; refine k_run ?_)
  clear fx e1
  rintro K hK y H3 ⟨rfl, hW⟩
  obtain ⟨a1, a2, a3⟩ := hW.hcln
  refine ⟨by simp, ?_⟩
  cases hf : fullOk p
  · skip
    have fx := And.intro ho1 <| And.intro b1 <| And.intro a1 <| @bne_def
    have c1 := eq1
    refine k_run ?_
    repeat ((first | refine wSc (id := 15) qsVu0 mixed ?_); refine k_rund ?_; refine k_run ?_)
    clear fx c1
    refine e_ret [] .nil (by simp; rfl) (by simp)
  have hgl : fullG p = fullP p := by simp [fullG, hf]
  have hsm := full_same hf
  have hrd := fun {b : Nat} {k : Blk} (hk : (fullP p)[b]? = some k) (hb : 0 < b) {x : Int} (hx : x ∈ k.rd) => full_reads hf hk hb hx
  obtain ⟨hok, hv, _, _⟩ := sameG_parts hsm
  have i1 := impl_SameMeaning_fn gl (fullG p) p hqs hs
  rw [← hgl] at hsm hok hrd
  rw [hsm] at i1
  have sr := sameRun_fn gl p (fullG p) hs hqs hv hok (sameG_run hs hqs (sameG_symm hsm))
  have hQ7 := (shape_ok hqs hok).len
  clear hgl hsm il sl
  generalize fullG p = q at *
  have fx := And.intro ho1 <| And.intro b1 <| And.intro a1 <| @bne_def
  have c1 := eq1
  refine k_run ?_
  repeat ((first | refine wSc (id := 15) qsVu0 mixed ?_); refine k_rund ?_; refine k_run ?_)
  clear fx c1
  refine w_loop (fun n st => ∃ b : Nat, n = q.length - b ∧ 1 ≤ b ∧ b ≤ q.length ∧ BoxP st 3 p ∧ BoxP st 4 q ∧ st.tm 8 = iv b) (q.length - 1) ?_ ?_
  · exact ⟨1, by omega, by omega, by omega, ⟨by simp, by simp, ⟨by simp [ho1], fun j r hj => by simp [ho2 j r hj], fun j r hj => by simp [ho3 j r hj]⟩⟩, ⟨by simp, by simp, ⟨by simp [b1], fun j r hj => by simp [b2 j r hj], fun j r hj => by simp [b3 j r hj]⟩⟩, by simp⟩
  clear ho1 ho2 ho3 hO b1 b2 b3 hQ a1 a2 a3 hW
  rintro n st - - ⟨b, rfl, hb0, hb, ⟨h3, hp3, ⟨a1, a2, a3⟩⟩, ⟨h4, hp4, ⟨b1, b2, b3⟩⟩, h8⟩
  by_cases hbl : b < q.length
  · obtain ⟨k, hk⟩ : ∃ k, q[b]? = some k := ⟨_, gE hbl⟩
    have hri := ReadIn_fn gl q b k hk hqs hok
    have hd9 := DeclaredIn_fn gl q b k 9 (.inl rfl) hk hqs hok
    have hd10 := DeclaredIn_fn gl q b k 10 (.inr rfl) hk hqs hok
    have hL1 : ∀ x ∈ sorted k.rd, x ∈ k.rd ∧ 0 ≤ x ∧ x ≤ 7 := fun x hx => Go.Hm.mem_sorted.1 hx
    have hL2 : (sorted k.rd).length ≤ 8 := sortedTo_len 8
    generalize sorted k.rd = L at *
    have fx := And.intro h3 <| And.intro hp3 <| And.intro h4 <| And.intro hp4 <| And.intro b1 <| And.intro h8 <| hbl
    have d1 := hri
    refine k_run ?_
    repeat ((first | refine wSc (id := 15) qsVu0 mixed ?_); refine k_rund ?_; refine k_run ?_)
    clear fx d1
    refine w_loop (fun n st => ∃ i : Nat, n = L.length - i ∧ i ≤ L.length ∧ BoxP st 3 p ∧ BoxP st 4 q ∧ st.tm 8 = iv b ∧ st.tm 9 = .hs (.s 9) 1 0 L.length ∧ st.hp (.s 9) = some (.row 1 (irows L)) ∧ st.tm 10 = iv i) L.length ?_ ?_
    · exact ⟨0, by omega, by omega, ⟨by simp [h3], by simp [hp3], ⟨by simp [a1], fun j r hj => by simp [a2 j r hj], fun j r hj => by simp [a3 j r hj]⟩⟩, ⟨by simp [h4], by simp [hp4], ⟨by simp [b1], fun j r hj => by simp [b2 j r hj], fun j r hj => by simp [b3 j r hj]⟩⟩, by simp [h8], by simp, by simp, by simp⟩
    clear h3 hp3 a1 a2 a3 h4 hp4 b1 b2 b3 h8
    rintro n st - - ⟨i, rfl, hi, ⟨h3, hp3, ⟨a1, a2, a3⟩⟩, ⟨h4, hp4, ⟨b1, b2, b3⟩⟩, h8, h9, hp9, h10⟩
    by_cases hil : i < L.length
    · obtain ⟨x, hxi⟩ : ∃ x, L[i]? = some x := ⟨_, gE hil⟩
      obtain ⟨_, hxE⟩ := gS hxi
      obtain ⟨hxr, hx0, hx7⟩ := hL1 x (List.mem_of_getElem? hxi)
      obtain ⟨X, rfl⟩ : ∃ X : Nat, x = X := ⟨x.toNat, by omega⟩
      have how := OwnerOf_fn gl q b X k hk (by omega) hqs hok
      have hor := hrd hk hb0 hxr
      have in9 := isIn_fn gl (sorted (k.dc 9)) X (Nat.le_trans (sortedTo_len 8) (by decide))
      have in10 := isIn_fn gl (sorted (k.dc 10)) X (Nat.le_trans (sortedTo_len 8) (by decide))
      have hm9 : decide ((X : Int) ∈ sorted (k.dc 9)) = decide ((X : Int) ∈ k.dc 9) := by rw [decide_eq_decide, Go.Hm.mem_sorted]; exact ⟨fun h => h.1, fun h => ⟨h, hx0, hx7⟩⟩
      have hm10 : decide ((X : Int) ∈ sorted (k.dc 10)) = decide ((X : Int) ∈ k.dc 10) := by rw [decide_eq_decide, Go.Hm.mem_sorted]; exact ⟨fun h => h.1, fun h => ⟨h, hx0, hx7⟩⟩
      rw [hm9] at in9
      rw [hm10] at in10
      cases he : (owner q b X == (b : Int))
      · cases h9' : decide ((X : Int) ∈ k.dc 9)
        · have h10' : decide ((X : Int) ∈ k.dc 10) = true := by
            rcases hor with h | h | h
            · rw [h] at he; simp at he
            · simp [h] at h9'
            · simp [h]
          rw [h9'] at in9
          rw [h10'] at in10
          have fx := And.intro h3 <| And.intro hp3 <| And.intro h4 <| And.intro hp4 <| And.intro b1 <| And.intro h8 <| And.intro h9 <| And.intro hp9 <| And.intro h10 <| And.intro hil <| And.intro hxi <| And.intro hxE <| And.intro he <| @bne_def
          have c1 := how
          have d1 := hd9
          have c2 := in9
          have d2 := hd10
          have c3 := in10
          refine k_run ?_
          repeat ((first | refine wSc (id := 15) qsVu0 mixed ?_); refine k_rund ?_; refine k_run ?_)
          clear fx c1 d1 c2 d2 c3
          exact ⟨L.length - (i + 1), by omega, i + 1, rfl, by omega, ⟨by simp [h3], by simp [hp3], ⟨by simp [a1], fun j r hj => by simp [a2 j r hj], fun j r hj => by simp [a3 j r hj]⟩⟩, ⟨by simp [h4], by simp [hp4], ⟨by simp [b1], fun j r hj => by simp [b2 j r hj], fun j r hj => by simp [b3 j r hj]⟩⟩, by simp [h8], by simp [h9], by simp [hp9], by simp; exact wrp (by omega) (by omega)⟩
        · rw [h9'] at in9
          have fx := And.intro h3 <| And.intro hp3 <| And.intro h4 <| And.intro hp4 <| And.intro b1 <| And.intro h8 <| And.intro h9 <| And.intro hp9 <| And.intro h10 <| And.intro hil <| And.intro hxi <| And.intro hxE <| And.intro he <| @bne_def
          have c1 := how
          have d1 := hd9
          have c2 := in9
          refine k_run ?_
          repeat ((first | refine wSc (id := 15) qsVu0 mixed ?_); refine k_rund ?_; refine k_run ?_)
          clear fx c1 d1 c2
          exact ⟨L.length - (i + 1), by omega, i + 1, rfl, by omega, ⟨by simp [h3], by simp [hp3], ⟨by simp [a1], fun j r hj => by simp [a2 j r hj], fun j r hj => by simp [a3 j r hj]⟩⟩, ⟨by simp [h4], by simp [hp4], ⟨by simp [b1], fun j r hj => by simp [b2 j r hj], fun j r hj => by simp [b3 j r hj]⟩⟩, by simp [h8], by simp [h9], by simp [hp9], by simp; exact wrp (by omega) (by omega)⟩
      · skip
        have fx := And.intro h3 <| And.intro hp3 <| And.intro h4 <| And.intro hp4 <| And.intro b1 <| And.intro h8 <| And.intro h9 <| And.intro hp9 <| And.intro h10 <| And.intro hil <| And.intro hxi <| And.intro hxE <| And.intro he <| @bne_def
        have c1 := how
        refine k_run ?_
        repeat ((first | refine wSc (id := 15) qsVu0 mixed ?_); refine k_rund ?_; refine k_run ?_)
        clear fx c1
        exact ⟨L.length - (i + 1), by omega, i + 1, rfl, by omega, ⟨by simp [h3], by simp [hp3], ⟨by simp [a1], fun j r hj => by simp [a2 j r hj], fun j r hj => by simp [a3 j r hj]⟩⟩, ⟨by simp [h4], by simp [hp4], ⟨by simp [b1], fun j r hj => by simp [b2 j r hj], fun j r hj => by simp [b3 j r hj]⟩⟩, by simp [h8], by simp [h9], by simp [hp9], by simp; exact wrp (by omega) (by omega)⟩
    · skip
      have fx := And.intro h9 <| And.intro h10 <| And.intro h8 <| hil
      refine k_run ?_
      repeat ((first | refine wSc (id := 15) qsVu0 mixed ?_); refine k_rund ?_; refine k_run ?_)
      clear fx
      exact ⟨q.length - (b + 1), by omega, b + 1, rfl, by omega, by omega, ⟨by simp [h3], by simp [hp3], ⟨by simp [a1], fun j r hj => by simp [a2 j r hj], fun j r hj => by simp [a3 j r hj]⟩⟩, ⟨by simp [h4], by simp [hp4], ⟨by simp [b1], fun j r hj => by simp [b2 j r hj], fun j r hj => by simp [b3 j r hj]⟩⟩, by simp; exact wrp (by omega) (by omega)⟩
  · skip
    have fx := And.intro h3 <| And.intro hp3 <| And.intro h4 <| And.intro hp4 <| And.intro a1 <| And.intro b1 <| And.intro h8 <| hbl
    have c1 := i1
    have c2 := sr
    refine k_run ?_
    repeat ((first | refine wSc (id := 15) qsVu0 mixed ?_); refine k_rund ?_; refine k_run ?_)
    clear fx c1 c2
    refine e_ret [] .nil (by simp; rfl) (by simp)
end Go.Proofs.YtcbkblboonkfhaaGreat
end
