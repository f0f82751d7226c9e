/-
  Own texts, joined by mkclaim.py: Hu, Qns, Vl.
-/
import Derived.Test.YtcbkblboonkfhaaGreatS36
import Derived.Test.YtcbkblboonkfhaaGreatS13
import Derived.Test.YtcbkblboonkfhaaGreatS29
import Derived.Test.YtcbkblboonkfhaaGreatS33
import Derived.Test.YtcbkblboonkfhaaGreatS34
import Derived.Test.YtcbkblboonkfhaaGreatS30
import Derived.Test.YtcbkblboonkfhaaGreatS31
set_option linter.unusedSimpArgs false
set_option linter.unusedVariables false
set_option maxRecDepth 100000
set_option maxHeartbeats 4000000

section
namespace Go.Proofs.YtcbkblboonkfhaaGreat
open Go Go.Hm Go.Proofs
theorem impl_LeanProgram_fn (gl) (p : Prg) (hs : Sml p) : FnOk Tryz.prog gl 24 [pav p] (fun r z H' => z = .agg [.hs r 4 0 (leanG p).length] ∧ OwnP H' r (leanG p)) := by
  have hpl := hs.len
  refine FnOk.of_sem Tryz.func24 rfl (by kernel_rfl) (rs := [.cell 2 29]) rfl Tryz.ntmps24 (Nat.le_of_ble_eq_true rfl) fun C w g root => ?_
  cases hv : progOk p
  · have hg : leanG p = [] := by simp [leanG, hv]
    have fx :=  hv
    have c1 := impl_ValidProgram_fn gl p hs
    refine k_run ?_
    clear fx c1
    rw [hg]
    refine e_ret [(.c (.s 2) 0 0, root)] (.one rfl) (by simp; rfl) ?_
    refine ⟨by simp, ⟨by simp, fun j k hk => by simp at hk, fun j k hk => by simp at hk⟩⟩
  have hg : leanG p = leanP p := by simp [leanG, hv]
  rw [hg]
  have fx :=  hv
  have c1 := impl_ValidProgram_fn gl p hs
  have e1 := copyOf_fn gl p hs
  refine k_run ?_
  clear fx c1 e1
  first | rintro K hK z H' ⟨rfl, hO⟩ | rintro z H' ⟨rfl, hO⟩
  obtain ⟨ho1, ho2, ho3⟩ := hO.hcln
  refine ⟨by simp, ?_⟩
  have fx :=  ho1
  refine k_run ?_
  clear fx
  refine w_loop (fun n st => ∃ q : Prg, n = stmts q ∧ q.length = p.length ∧ progOk q = true ∧ Sml q ∧ leanP q = leanP p ∧
    st.tm 2 = .pt (.s 2) 0 ∧ st.hp (.s 2) = some (.row 1 [[.hs (.c (.s 2) 0 0) 4 0 0]]) ∧ st.hp (.c (.s 2) 0 0) = some (.row 4 []) ∧ st.tm 3 = .pt (.s 3) 0 ∧ st.hp (.s 3) = some (.row 1 [[.hs (.c (.s 3) 0 0) 4 0 p.length]]) ∧ OwnP st.hp (.c (.s 3) 0 0) q) (stmts p) ?_ ?_
  · exact ⟨p, rfl, rfl, hv, hs, rfl, by simp, by simp, by simp, by simp, by simp, ⟨by simp [ho1], fun j r hj => by simp [ho2 j r hj], fun j r hj => by simp [ho3 j r hj]⟩⟩
  clear ho1 ho2 ho3 hO
  rintro n st - - ⟨q, rfl, hql, hqv, hqs, hqp, h2, hp2, hp2', h3, hp3, ⟨ho1, ho2, ho3⟩⟩
  rcases fst_cases q with ⟨hf, hfo⟩ | ⟨hno, hfo⟩
  · obtain ⟨k, s, hk, hsi, hcv⟩ := idleAt_in hf.idle
    have hil := (gS hsi).1
    have hsc := stmts_cut hk hil
    have hcl := leanP_step hf
    all_goals have fx := And.intro h3 <| And.intro hp3 <| hfo
    repeat' (first
     | refine w_seq ?_ | refine w_block ?_ | refine w_skip ?_ | refine w_reg fun K hK => ?_
     | ((with_reducible refine s_end hK ?_); clear hK K)
     | (with_reducible first | refine then_normal ?_ | refine in_normal ?_ | refine then_ret ?_ | refine in_ret ?_)
     | refine w_ret ?_
     | (with_reducible first | refine s_none ?_ | refine x_assign (h := ?_) | refine x_box (h := ?_) | refine x_alloc (h := ?_) | refine x_store0 (h := ?_) | refine x_store (h := ?_))
     | ((with_reducible refine o_id 73 rfl ?_); refine x_call (hB := (by first | ((repeat' (first | exact .nil | refine .cons ?_ ?_ | exact .refl _ | exact bw_ints (by simp [fx]; first | done | rfl) (by first | (simp [fx]; done) | (simp [fx]; omega) | omega) | exact bw_list (by simp [fx]; first | done | rfl) (by first | (simp [fx]; done) | (simp [fx]; omega) | omega) (by first | (simp; done) | fail) | exact bw_agg1 (bw_prog (p := q) (n := .c (.s 3) 0 0) ⟨by simp [ho1], fun j r hj => by simp [ho2 j r hj], fun j r hj => by simp [ho3 j r hj]⟩ (by simp [hql])))); done) | fail)) (hF := firstIdle_fn _ q hqs hqv) (h := ?_))
     | ((with_reducible refine o_id 74 rfl ?_); refine x_callg (hB := (by first | ((repeat' (first | exact .nil | refine .cons ?_ ?_ | exact .refl _ | exact bw_ints (by simp [fx]; first | done | rfl) (by first | (simp [fx]; done) | (simp [fx]; omega) | omega) | exact bw_list (by simp [fx]; first | done | rfl) (by first | (simp [fx]; done) | (simp [fx]; omega) | omega) (by first | (simp; done) | fail) | exact bw_agg1 (bw_prog (p := q) (n := .c (.s 3) 0 0) ⟨by simp [ho1], fun j r hj => by simp [ho2 j r hj], fun j r hj => by simp [ho3 j r hj]⟩ (by simp [hql])))); done) | fail)) (hF := without_fn _ q (fstB q) (fstI q) k hk hil hqs) (h := ?_))
     | (with_reducible refine x_q (h := ?_))
     | refine x_condt (h1 := ?_) | refine x_condf (h1 := ?_)
     | fail)
    all_goals try clear fx
    rintro z H1 ⟨rfl, hC⟩
    obtain ⟨hc1, hc2, hc3⟩ := hC.hcln
    refine ⟨by simp, ?_⟩
    have fx := And.intro hc1 <| And.intro h3 <| hp3
    refine k_run ?_
    clear fx
    exact ⟨stmts (cutP q (fstB q) (fstI q)), by omega, cutP q (fstB q) (fstI q), rfl, by simp [hql], hcv, cutP_sml hqs, by rw [← hcl, hqp], by simp [h2], by simp [hp2], by simp [hp2'], by simp [h3], by simp [hql], ⟨by simp [hc1], fun j r hj => by simp [hc2 j r hj], fun j r hj => by simp [hc3 j r hj]⟩⟩
  · skip
    all_goals have fx := And.intro h2 <| And.intro hp2 <| And.intro hp2' <| And.intro h3 <| And.intro hp3 <| hfo
    repeat' (first
     | refine w_seq ?_ | refine w_block ?_ | refine w_skip ?_ | refine w_reg fun K hK => ?_
     | ((with_reducible refine s_end hK ?_); clear hK K)
     | (with_reducible first | refine then_normal ?_ | refine in_normal ?_ | refine then_ret ?_ | refine in_ret ?_)
     | refine w_ret ?_
     | (with_reducible first | refine s_none ?_ | refine x_assign (h := ?_) | refine x_box (h := ?_) | refine x_alloc (h := ?_) | refine x_store0 (h := ?_) | refine x_store (h := ?_))
     | ((with_reducible refine o_id 73 rfl ?_); refine x_call (hB := (by first | ((repeat' (first | exact .nil | refine .cons ?_ ?_ | exact .refl _ | exact bw_ints (by simp [fx]; first | done | rfl) (by first | (simp [fx]; done) | (simp [fx]; omega) | omega) | exact bw_list (by simp [fx]; first | done | rfl) (by first | (simp [fx]; done) | (simp [fx]; omega) | omega) (by first | (simp; done) | fail) | exact bw_agg1 (bw_prog (p := q) (n := .c (.s 3) 0 0) ⟨by simp [ho1], fun j r hj => by simp [ho2 j r hj], fun j r hj => by simp [ho3 j r hj]⟩ (by simp [hql])))); done) | fail)) (hF := firstIdle_fn _ q hqs hqv) (h := ?_))
     | (with_reducible refine x_q (h := ?_))
     | refine x_condt (h1 := ?_) | refine x_condf (h1 := ?_)
     | fail)
    all_goals try clear fx
    rw [← hqp, leanP_stop hno]
    refine e_ret [(.c (.s 3) 0 0, root)] (.one rfl) (by simp [h2]; rfl) ⟨by simp [hql], ⟨?_, fun j r hj => ?_, fun j r hj => ?_⟩⟩
    · simp [ho1, pRows_tr (n := .c (.s 3) 0 0) (m := root) (f := finf noD [(.c (.s 3) 0 0, root)]) (p := q) (by simp)]
    · simp [ho2 j r hj]
    · simp [ho3 j r hj]
theorem impl_StepsOf_fn (gl) (p : Prg) (hs : Sml p) : FnOk Tryz.prog gl 27 [pav p] (fun _ y _ => y = iv (stepsG p)) := by
  refine FnOk.of_sem Tryz.func27 rfl (by kernel_rfl) (rs := [.tmp 2]) rfl Tryz.ntmps27 (Nat.le_of_ble_eq_true rfl) fun C w g root => ?_
  cases hv : progOk p
  · skip
    have fx :=  hv
    have c1 := hv ▸ impl_ValidProgram_fn gl p hs
    refine k_run ?_
    clear fx c1
    refine e_ret [] .nil (by simp; rfl) (by simp [stepsG, hv])
  · have hP := ValP.of hs hv
    have hm := meantOk hP.sh (Nat.le_refl 150)
    have hml := hm.left
    have fx :=  hv
    have c1 := hv ▸ impl_ValidProgram_fn gl p hs
    refine k_run ?_
    clear fx c1
    intro K hK
    have fx := fx0
    refine x_mutM (fun k i j he => by simp [ctx0, noH] at he) (hF := meaningOf_fn gl _ p 150 hP (by omega) (by simp [noH])) (h := ?_)
    rintro y H1 ⟨rfl, hO1⟩
    clear fx
    have hT1 := hO1.top
    simp only [mRow] at hT1
    have hw : IntKind.i64.wrap (150 - ((meantW p 150).left : Int)) = 150 - ((meantW p 150).left : Int) := wrp (by omega) (by omega)
    have fx := And.intro hT1 <| hw
    refine k_run ?_
    clear fx
    refine e_ret [] .nil (by simp; rfl) (by simp [stepsG, hv])
abbrev qsVl0 : Sch := .q 0 <| .q 1 <| .l 2 [0] <| .l 3 [] <| .q 4 <| .q 5 <| .q 6 <| .q 7 <| .q 8 <| .q 9 <| .q 10 <| .done
abbrev qsVl1 : Sch := .q 0 <| .q 1 <| .l 2 [0] <| .l 3 [] <| .l 4 [] <| .done
abbrev qsVl2 : Sch := .q 0 <| .q 1 <| .l 2 [] <| .q 3 <| .q 4 <| .q 5 <| .l 6 [] <| .q 7 <| .q 8 <| .q 9 <| .q 11 <| .l 10 [11, 7] <| .l 12 [7] <| .q 13 <| .q 14 <| .q 15 <| .q 17 <| .l 16 [17, 13, 7] <| .l 18 [13, 7] <| .q 19 <| .q 20 <| .l 21 [] <| .done
theorem FnLeanProgram_fn (gl : Nat → Option (List AV)) (code : List Int) (hcode : ∀ v ∈ code, 0 ≤ v ∧ v ≤ 255) (hbig : code.length ≤ 1152921504606846976) :
    FnOk Tryz.prog gl 6 [bsl code] (fun _ z _ => z = bv true) := by
  refine FnOk.of_sem Tryz.func6 rfl (by kernel_rfl) (rs := [.tmp 2]) rfl Tryz.ntmps6 (Nat.le_of_ble_eq_true rfl) fun C w g root => ?_
  by_cases hlen : 1048576 < code.length
  · have hl1 : (1048576 : Int) < code.length := by omega
    have fx :=  hl1
    refine k_run ?_
    repeat ((first | refine wSc (id := 5) qsVl0 mixed ?_ | refine wSc (id := 6) qsVl1 mixed ?_ | refine wSc (id := 13) qsVl2 mixed ?_); refine k_rund ?_; refine k_run ?_)
    clear fx
    refine e_ret [] .nil (by simp; rfl) (by simp)
  have hl1 : ¬ (1048576 : Int) < code.length := by omega
  have hc : CodeOk code := ⟨by omega, hcode⟩
  have fx :=  hl1
  have e1 := DrawLeanProgram_fn gl code hc
  refine k_run ?_
  repeat ((first | refine wSc (id := 5) qsVl0 mixed ?_ | refine wSc (id := 6) qsVl1 mixed ?_ | refine wSc (id := 13) qsVl2 mixed ?_); refine k_rund ?_; refine k_run ?_)
  clear fx e1
  rintro K hK z H1 ⟨p, rfl, hO, hs⟩
  obtain ⟨ho1, ho2, ho3⟩ := hO.hcln
  refine ⟨by simp, ?_⟩
  have hpl := hs.len
  have hqs := leanG_sml hs
  have hql := hqs.len
  have il := impl_LeanProgram_fn gl p hs
  have sl := spec_LeanProgram_fn gl p hs
  have eq1 := equalProgram_fn gl (leanG p) (leanG p) hqs hqs
  simp only [decide_true] at eq1
  have fx :=  ho1
  have e1 := il
  refine k_run ?_
  repeat ((first | refine wSc (id := 5) qsVl0 mixed ?_ | refine wSc (id := 6) qsVl1 mixed ?_ | refine wSc (id := 13) qsVl2 mixed ?_); refine k_rund ?_; refine k_run ?_)
  clear fx e1
  rintro K hK z H2 ⟨rfl, hQ⟩
  obtain ⟨b1, b2, b3⟩ := hQ.hcln
  refine ⟨by simp, ?_⟩
  have fx := And.intro ho1 <| b1
  have e1 := sl
  refine k_run ?_
  repeat ((first | refine wSc (id := 5) qsVl0 mixed ?_ | refine wSc (id := 6) qsVl1 mixed ?_ | refine wSc (id := 13) qsVl2 mixed ?_); refine k_rund ?_; refine k_run ?_)
  clear fx e1
  rintro K hK y H3 ⟨rfl, hW⟩
  obtain ⟨a1, a2, a3⟩ := hW.hcln
  refine ⟨by simp, ?_⟩
  cases hv : progOk p
  · have hg0 : (((leanG p).length : Int) == 0) = true := by simp [leanG, hv]
    have fx := And.intro ho1 <| And.intro b1 <| And.intro a1 <| hg0
    have c1 := eq1
    have e1 := sl
    refine k_run ?_
    repeat ((first | refine wSc (id := 5) qsVl0 mixed ?_ | refine wSc (id := 6) qsVl1 mixed ?_ | refine wSc (id := 13) qsVl2 mixed ?_); refine k_rund ?_; refine k_run ?_)
    clear fx c1 e1
    rintro K hK y H4 ⟨rfl, hW⟩
    obtain ⟨a1, a2, a3⟩ := hW.hcln
    refine ⟨by simp, ?_⟩
    have fx := And.intro ho1 <| And.intro b1 <| a1
    have c1 := eq1
    refine k_run ?_
    repeat ((first | refine wSc (id := 5) qsVl0 mixed ?_ | refine wSc (id := 6) qsVl1 mixed ?_ | refine wSc (id := 13) qsVl2 mixed ?_); refine k_rund ?_; refine k_run ?_)
    clear fx c1
    refine e_ret [] .nil (by simp; rfl) (by simp)
  have hgl : leanG p = leanP p := by simp [leanG, hv]
  have hok := (lean_ok hv).ok
  have hni := (lean_ok hv).none
  have hsm := lean_same hv
  have htw := lean_twice hv
  have hst := lean_steps hs hv
  rw [← hgl] at hok hni hsm htw hst
  have hg2 : leanG (leanG p) = leanG p := by
    have e : leanG (leanG p) = leanP (leanG p) := if_pos hok
    rw [e, htw]
  have hP := shape_ok hs hv
  have hQ := shape_ok hqs hok
  have hq1 := hQ.len
  have hw1 := meantOk hP (show 150 ≤ 150 by omega)
  have hw2 := meantOk hQ (show 150 ≤ 150 by omega)
  have hss : stepsG (leanG p) ≤ stepsG p := by
    simp only [stepsG, hok, hv, if_true]
    have := hw1.left
    have := hw2.left
    omega
  have iI := impl_IdleDeclarations_fn gl (leanG p) hqs
  have hid : idleG (leanG p) = (leanG p).map fun _ => [] := by
    rw [show idleG (leanG p) = idleT (leanG p) by simp [idleG, hok]]
    exact idleT_none hni
  have i1 := impl_SameMeaning_fn gl (leanG p) p hqs hs
  rw [hsm] at i1
  have sr := sameRun_fn gl p (leanG p) hs hqs hv hok (sameG_run hs hqs (sameG_symm hsm))
  have i2 := impl_LeanProgram_fn gl (leanG p) hqs
  rw [hg2] at i2
  have t1 := impl_StepsOf_fn gl (leanG p) hqs
  have t2 := impl_StepsOf_fn gl p hs
  clear hgl hok hni hsm htw hst hg2 hw1 hw2 hP hQ il sl
  generalize leanG p = q at *
  generalize stepsG q = u at *
  generalize stepsG p = v at *
  have hg0 : ((q.length : Int) == 0) = false := by rw [beq_eq_false_iff_ne]; omega
  have fx := And.intro ho1 <| And.intro b1 <| And.intro a1 <| hg0
  have c1 := eq1
  have e1 := iI
  refine k_run ?_
  repeat ((first | refine wSc (id := 5) qsVl0 mixed ?_ | refine wSc (id := 6) qsVl1 mixed ?_ | refine wSc (id := 13) qsVl2 mixed ?_); refine k_rund ?_; refine k_run ?_)
  clear fx c1 e1
  rintro K hK y H4 ⟨rfl, hI⟩
  have hI1 := hI.hcln.top
  refine ⟨by simp, ?_⟩
  rw [hid] at hI1
  rw [show (idleG q).length = q.length by rw [hid]; simp]
  have fx := And.intro ho1 <| And.intro b1 <| hI1
  refine k_run ?_
  repeat ((first | refine wSc (id := 5) qsVl0 mixed ?_ | refine wSc (id := 6) qsVl1 mixed ?_ | refine wSc (id := 13) qsVl2 mixed ?_); refine k_rund ?_; refine k_run ?_)
  clear fx
  refine w_loop (fun n st => ∃ b : Nat, n = q.length - b ∧ b ≤ q.length ∧ BoxP st 3 p ∧ BoxP st 4 q ∧ st.tm 6 = iv b ∧ st.tm 5 = .hs (.s 5) 1 0 q.length ∧ st.hp (.s 5) = some (.row 1 (ntRows (.s 5) (q.map fun _ => [])))) q.length ?_ ?_
  · refine ⟨0, by omega, by omega, ⟨by simp, by simp, ⟨by simp [ho1], fun j r hj => by simp [ho2 j r hj], fun j r hj => by simp [ho3 j r hj]⟩⟩, ⟨by simp, by simp, ⟨by simp [b1], fun j r hj => by simp [b2 j r hj], fun j r hj => by simp [b3 j r hj]⟩⟩, by simp, by simp, ?_⟩
    simp [hI1, -List.map_map]
    rw [ntRows_fix (n := .s 30) (m := .s 5) (by simp)]
  clear ho1 ho2 ho3 hO b1 b2 b3 hQ a1 a2 a3 hW hI hI1 iI
  rintro n st - - ⟨b, rfl, hb, ⟨h3, hp3, ⟨a1, a2, a3⟩⟩, ⟨h4, hp4, ⟨b1, b2, b3⟩⟩, h6, h5, hp5⟩
  by_cases hbl : b < q.length
  · have hTb : (q.map fun _ => ([] : List Int))[b]? = some [] := by simp [hbl]
    obtain ⟨hTl, hTE⟩ := gS hTb
    have hcell := cellN_nil (n := .s 5) (j := b) (r := []) rfl
    have fx := And.intro h5 <| And.intro hp5 <| And.intro h6 <| And.intro hbl <| And.intro hTb <| And.intro hTE <| And.intro hTl <| hcell
    refine k_run ?_
    repeat ((first | refine wSc (id := 5) qsVl0 mixed ?_ | refine wSc (id := 6) qsVl1 mixed ?_ | refine wSc (id := 13) qsVl2 mixed ?_); refine k_rund ?_; refine k_run ?_)
    clear fx
    exact ⟨q.length - (b + 1), by omega, b + 1, rfl, by omega, ⟨by simp [h3], by simp [hp3], ⟨by simp [a1], fun j r hj => by simp [a2 j r hj], fun j r hj => by simp [a3 j r hj]⟩⟩, ⟨by simp [h4], by simp [hp4], ⟨by simp [b1], fun j r hj => by simp [b2 j r hj], fun j r hj => by simp [b3 j r hj]⟩⟩, by simp; exact wrp (by omega) (by omega), by simp [h5], by simp [hp5]⟩
  · skip
    have fx := And.intro h5 <| And.intro hp5 <| And.intro h6 <| And.intro hbl <| And.intro h3 <| And.intro hp3 <| And.intro h4 <| hp4
    have c1 := i1
    have c2 := sr
    have e1 := i2
    refine k_run ?_
    repeat ((first | refine wSc (id := 5) qsVl0 mixed ?_ | refine wSc (id := 6) qsVl1 mixed ?_ | refine wSc (id := 13) qsVl2 mixed ?_); refine k_rund ?_; refine k_run ?_)
    clear fx c1 c2 e1
    rintro K hK y H4 ⟨rfl, hW⟩
    obtain ⟨ho1, ho2, ho3⟩ := hW.hcln
    refine ⟨by simp, ?_⟩
    have fx := And.intro h3 <| And.intro hp3 <| And.intro h4 <| And.intro hp4 <| And.intro ho1 <| And.intro a1 <| And.intro b1 <| hss
    have c1 := eq1
    have c2 := t1
    have c3 := t2
    refine k_run ?_
    repeat ((first | refine wSc (id := 5) qsVl0 mixed ?_ | refine wSc (id := 6) qsVl1 mixed ?_ | refine wSc (id := 13) qsVl2 mixed ?_); refine k_rund ?_; refine k_run ?_)
    clear fx c1 c2 c3
    refine e_ret [] .nil (by simp; rfl) (by simp)
end Go.Proofs.YtcbkblboonkfhaaGreat
end
