/-
  Own texts, joined by mkclaim.py: Gr.
-/
import Derived.Test.YtcbkblboonkfhaaGreatS22
import Derived.Test.YtcbkblboonkfhaaGreatS24
import Derived.Test.YtcbkblboonkfhaaGreatS12
import Derived.Test.YtcbkblboonkfhaaGreatS11
import Derived.Test.YtcbkblboonkfhaaGreatS13
set_option linter.unusedSimpArgs false
set_option linter.unusedVariables false
set_option maxRecDepth 100000
set_option maxHeartbeats 4000000

section
namespace Go.Proofs.YtcbkblboonkfhaaGreat
open Go Go.Hm Go.Proofs
abbrev qsGr0 : Sch := .q 0 <| .q 1 <| .q 2 <| .q 4 <| .q 5 <| .q 6 <| .q 7 <| .q 8 <| .q 9 <| .q 10 <| .q 11 <| .q 13 <| .q 14 <| .q 15 <| .q 16 <| .q 17 <| .q 18 <| .q 19 <| .q 20 <| .q 21 <| .l 3 [21, 20, 19, 18, 17, 16, 15, 14, 13, 11, 10, 9, 8, 7, 6, 5, 4, 2, 1, 0] <| .l 12 [21, 20, 19, 18, 17, 16, 15, 14, 13, 10, 9, 8, 7, 6, 5, 4, 2, 1, 0] <| .l 22 [20, 19, 18, 17, 16, 15, 14, 13, 10, 9, 8, 7, 6, 5, 4, 2, 1, 0] <| .q 23 <| .q 24 <| .l 25 [23] <| .done
abbrev qsGr1 : Sch := .q 0 <| .l 1 [] <| .q 2 <| .q 3 <| .q 5 <| .l 4 [5] <| .l 6 [] <| .l 7 [] <| .q 8 <| .l 9 [] <| .done
attribute [local simp] slcAV rowsIn
theorem cut_fn (gl) (p : Prg) (b i : Nat) (k : Blk) (hk : p[b]? = some k) (hi : i < k.body.length) (hs : Sml p) : FnOk Tryz.prog gl 77 [pav p, iv b, iv i] (fun r z H' => z = .agg [.hs r 4 0 p.length] ∧ OwnP H' r (cutP p b i)) := by
  have hpl := hs.len
  obtain ⟨hkp, hkb⟩ := hs.bsm hk
  obtain ⟨hbl, hkE⟩ := gS hk
  rw [cutP_eq hk]
  have hcl : (cutL k.body i).length ≤ 1048576 := by rw [cutL_len hi]; omega
  refine FnOk.of_sem Tryz.func77 rfl (by kernel_rfl) (rs := [.cell 6 29]) rfl Tryz.ntmps77 (Nat.le_of_ble_eq_true rfl) fun C w g root => ?_
  have fx := fx0
  have e1 := copyProgram_fn gl p hs
  refine k_run ?_
  repeat ((first | refine wSc (id := 2) qsGr0 mixed ?_); refine k_rund ?_; refine k_run ?_)
  clear fx e1
  first | rintro K hK z H' ⟨rfl, hO⟩ | rintro z H' ⟨rfl, hO⟩
  obtain ⟨ho1, ho2, ho3⟩ := hO.hcln
  refine ⟨by simp, ?_⟩
  have hw : IntKind.i64.wrap ((i : Int) + 1) = i + 1 := wrp (by omega) (by omega)
  have hi0 : i ≤ k.body.length := by omega
  have hi1 : (i : Int) + 1 ≤ k.body.length := by omega
  have hi2 : (0 : Int) ≤ (i : Int) + 1 := by omega
  have hi3 : ((i : Int) + 1).toNat = i + 1 := by omega
  have fx := And.intro ho1 <| And.intro hk <| And.intro hkE <| And.intro hbl <| And.intro hi <| And.intro hw <| And.intro hi0 <| And.intro hi1 <| And.intro hi2 <| hi3
  refine k_run ?_
  repeat ((first | refine wSc (id := 2) qsGr0 mixed ?_); refine k_rund ?_; refine k_run ?_)
  clear fx
  have e2 : List.take (k.body.length - (i + 1)) (List.drop (i + 1) k.body) = List.drop (i + 1) k.body := List.take_of_length_le (by simp)
  have e1 : List.take i (List.take i k.body) = List.take i k.body := by rw [List.take_take, Nat.min_self]
  have hset := pRows_set (n := .c (.s 7) 0 0) (a := 32) (i := b) (len := i + (k.body.length - (i + 1))) (p := p) (L := cutL k.body i) (by rw [cutL_len hi]; omega) (by simp) (by simp)
  refine e_ret (xs := [.agg [.hs (.c (.s 7) 0 0) 4 0 p.length]]) [(.c (.s 7) 0 0, root)] (.one rfl) (by simp) ⟨by simp, ⟨?_, fun j r hj => ?_, fun j r hj => ?_⟩⟩
  · simp [hset, pRows_tr (n := .c (.s 7) 0 0) (m := root) (f := finf noD [(.c (.s 7) 0 0, root)]) (p := setBody p b (cutL k.body i)) (by simp)]
  all_goals
    have hjl : j < p.length := by
      have := (gS hj).1
      rwa [setBody_len] at this
    obtain ⟨q, hq⟩ : ∃ q, p[j]? = some q := ⟨_, gE hjl⟩
    rw [setBody_get hq] at hj
    obtain rfl := Option.some.inj hj
    by_cases hij : b = j
  · subst hij
    simp [ho2 b q hq]
  · simp [ho2 j q hq, hij, show ¬ j = b from fun e => hij e.symm]
  · subst hij
    rw [hk] at hq
    obtain rfl := Option.some.inj hq
    simp [cutL, e1, e2]
  · simp [ho3 j q hq, hij, show ¬ j = b from fun e => hij e.symm]
theorem idle_fn (gl) (p : Prg) (b i : Nat) (k : Blk) (s : Stm) (hk : p[b]? = some k) (hs : k.body[i]? = some s) (hS : Sml p) (hp : ShapeP p) : FnOk Tryz.prog gl 71 [pav p, iv b, iv i] (fun _ y _ => y = bv (idleAt p b i)) := by
  have hpl := hS.len
  have hh := hp.heads
  have hl7 := hp.len
  obtain ⟨hkp, hkb⟩ := hS.bsm hk
  obtain ⟨hbl, hkE⟩ := gS hk
  obtain ⟨hil, hsE⟩ := gS hs
  have hcs := cutP_sml (b := b) (i := i) hS
  rw [idleAt_eq hk hs]
  refine FnOk.of_sem Tryz.func71 rfl (by kernel_rfl) (rs := [.tmp 6]) rfl Tryz.ntmps71 (Nat.le_of_ble_eq_true rfl) fun C w g root => ?_
  cases hd : ((s.kind == 9) || (s.kind == 10))
  · obtain ⟨h9, h10⟩ : (s.kind == 9) = false ∧ (s.kind == 10) = false := by simpa using hd
    have fx := And.intro hk <| And.intro hkE <| And.intro hbl <| And.intro hs <| And.intro hsE <| And.intro hil <| And.intro h9 <| And.intro h10 <| @bne_def
    refine k_run ?_
    repeat ((first | refine wSc (id := 5) qsGr1 mixed ?_); refine k_rund ?_; refine k_run ?_)
    clear fx
    refine e_ret [] .nil (by simp; rfl) ?_
    simp
  have hd' : (s.kind == 9) = true ∨ ((s.kind == 9) = false ∧ (s.kind == 10) = true) := by
    revert hd
    cases (s.kind == 9) <;> cases (s.kind == 10) <;> simp
  have main : (s.kind != 9 && s.kind != 10) = false := by
    rcases hd' with h | ⟨h1, h2⟩
    · simp [bne, h]
    · simp [bne, h2]
  rcases hd' with h9 | ⟨h9, h10⟩
  case' inl => have h10 : True := trivial
  all_goals
    have fx := And.intro hk <| And.intro hkE <| And.intro hbl <| And.intro hs <| And.intro hsE <| And.intro hil <| And.intro h9 <| And.intro h10 <| @bne_def
    have e1 := cut_fn gl p b i k hk hil hS
    refine k_run ?_
    repeat ((first | refine wSc (id := 5) qsGr1 mixed ?_); refine k_rund ?_; refine k_run ?_)
    clear fx e1
    first | rintro K hK z H1 ⟨rfl, hO⟩ | rintro z H1 ⟨rfl, hO⟩
    obtain ⟨ho1, ho2, ho3⟩ := hO.hcln
    refine ⟨by simp, ?_⟩
    have fx :=  ho1
    refine k_run ?_
    repeat ((first | refine wSc (id := 5) qsGr1 mixed ?_); refine k_rund ?_; refine k_run ?_)
    clear fx
    first | show SemOp _ _ _ _ _ | intro K hK
    refine o_abs (fun st => st.tm 3 = .pt (.s 3) 0 ∧ st.hp (.s 3) = some (.row 1 [[ksl p]]) ∧ BoxP st 8 (cutP p b i) ∧ st.tm 29 = .agg [.hs (.c (.s 8) 0 0) 4 0 p.length]) ⟨by simp, by simp, ⟨by simp, by simp, ⟨by simp [ho1], fun j r hj => by simp [ho2 j r hj], fun j r hj => by simp [ho3 j r hj]⟩⟩, by simp⟩ ?_
    clear hO ho1 ho2 ho3
    rintro st ⟨h3, hp3, ⟨h8, hp8, ⟨a1, a2, a3⟩⟩, h29⟩
    rw [cutP_len] at hp8
    cases hpf : progOk (cutP p b i)
    · skip
      all_goals have fx := And.intro h3 <| And.intro hp3 <| And.intro h8 <| And.intro hp8 <| And.intro h29 <| hpf
      repeat' (first
       | refine w_seq ?_ | refine w_skip ?_ | refine w_reg fun K hK => ?_
       | ((with_reducible refine s_end hK ?_); clear hK K)
       | (with_reducible first | refine then_normal ?_ | refine then_ret ?_ | refine s_nil ?_)
       | refine w_ret ?_
       | (with_reducible refine s_none ?_)
       | ((with_reducible refine g_id ?_); refine x_guard (h := ?_))
       | (with_reducible first | refine gx_tt ?_ | refine gx_ff ?_ | refine x_tf (h := ?_) | refine x_ft (h := ?_) | refine x_u (h := ?_) | refine x_assign (h := ?_) | refine x_box (h := ?_) | refine x_alloc (h := ?_) | refine x_store0 (h := ?_) | refine x_store (h := ?_))
       | ((with_reducible refine o_id 58 rfl ?_); refine x_call (hB := (by first | ((repeat' (first | exact .nil | refine .cons ?_ ?_ | exact .refl _ | exact bw_ints (by simp [fx]; first | done | rfl) (by first | (simp [fx]; done) | (simp [fx]; omega) | omega) | exact bw_list (by simp [fx]; first | done | rfl) (by first | (simp [fx]; done) | (simp [fx]; omega) | omega) (by first | (simp; done) | fail) | exact bw_agg1 (bw_prog (p := cutP p b i) (n := .c (.s 8) 0 0) ⟨by simp [a1], fun j r hj => by simp [a2 j r hj], fun j r hj => by simp [a3 j r hj]⟩ (by simp)))); done) | fail)) (hF := validProgram_fn _ (cutP p b i) hcs) (h := ?_))
       | (with_reducible refine x_q (h := ?_))
       | (with_reducible refine gx_s (fun ht => ?_) (fun ht => ?_))
       | refine x_condt (h1 := ?_) | refine x_condf (h1 := ?_)
       | (refine wSc (id := 5) qsGr1 mixed fun K hK => ?_)
       | ((with_reducible refine a_end hK ?_); clear hK K)
       | ((with_reducible refine a_id ?_); first | refine xa_q (h := ?_) | refine xa_qt (h := ?_) | refine xa_qf (h := ?_) | refine xa_qu (h := ?_))
       | ((with_reducible refine a_id ?_); refine xa_gq (h1 := fun ht => ?_) (h2 := fun ht => ?_))
       | refine a_l rfl ?_ | refine a_l2 ?_ ?_ | (with_reducible refine And.intro ?_ ?_) | exact st_nil | refine xa_st (h2 := ?_)
       | fail)
      all_goals try clear fx
      refine e_ret [] .nil (by simp; rfl) ?_
      simp [hpf]
    have hshf : shapeOk (cutP p b i) = true := by
      simp only [progOk, Bool.and_eq_true] at hpf
      exact hpf.1
    all_goals have fx := And.intro h3 <| And.intro hp3 <| And.intro h8 <| And.intro hp8 <| And.intro h29 <| hpf
    repeat' (first
     | refine w_seq ?_ | refine w_skip ?_ | refine w_reg fun K hK => ?_
     | ((with_reducible refine s_end hK ?_); clear hK K)
     | (with_reducible first | refine then_normal ?_ | refine then_ret ?_ | refine s_nil ?_)
     | refine w_ret ?_
     | (with_reducible refine s_none ?_)
     | ((with_reducible refine g_id ?_); refine x_guard (h := ?_))
     | (with_reducible first | refine gx_tt ?_ | refine gx_ff ?_ | refine x_tf (h := ?_) | refine x_ft (h := ?_) | refine x_u (h := ?_) | refine x_assign (h := ?_) | refine x_box (h := ?_) | refine x_alloc (h := ?_) | refine x_store0 (h := ?_) | refine x_store (h := ?_))
     | ((with_reducible refine o_id 58 rfl ?_); refine x_call (hB := (by first | ((repeat' (first | exact .nil | refine .cons ?_ ?_ | exact .refl _ | exact bw_ints (by simp [fx]; first | done | rfl) (by first | (simp [fx]; done) | (simp [fx]; omega) | omega) | exact bw_list (by simp [fx]; first | done | rfl) (by first | (simp [fx]; done) | (simp [fx]; omega) | omega) (by first | (simp; done) | fail) | exact bw_agg1 (bw_prog (p := cutP p b i) (n := .c (.s 8) 0 0) ⟨by simp [a1], fun j r hj => by simp [a2 j r hj], fun j r hj => by simp [a3 j r hj]⟩ (by simp)))); done) | fail)) (hF := validProgram_fn _ (cutP p b i) hcs) (h := ?_))
     | ((with_reducible refine o_id 67 rfl ?_); refine x_callg (hB := (by first | ((repeat' (first | exact .nil | refine .cons ?_ ?_ | exact .refl _ | exact bw_ints (by simp [fx]; first | done | rfl) (by first | (simp [fx]; done) | (simp [fx]; omega) | omega) | exact bw_list (by simp [fx]; first | done | rfl) (by first | (simp [fx]; done) | (simp [fx]; omega) | omega) (by first | (simp; done) | fail) | exact bw_agg1 (bw_prog (p := cutP p b i) (n := .c (.s 8) 0 0) ⟨by simp [a1], fun j r hj => by simp [a2 j r hj], fun j r hj => by simp [a3 j r hj]⟩ (by simp)))); done) | fail)) (hF := ownersOf_fn _ p hS hh) (h := ?_))
     | (with_reducible refine x_q (h := ?_))
     | (with_reducible refine gx_s (fun ht => ?_) (fun ht => ?_))
     | refine x_condt (h1 := ?_) | refine x_condf (h1 := ?_)
     | (refine wSc (id := 5) qsGr1 mixed fun K hK => ?_)
     | ((with_reducible refine a_end hK ?_); clear hK K)
     | ((with_reducible refine a_id ?_); first | refine xa_q (h := ?_) | refine xa_qt (h := ?_) | refine xa_qf (h := ?_) | refine xa_qu (h := ?_))
     | ((with_reducible refine a_id ?_); refine xa_gq (h1 := fun ht => ?_) (h2 := fun ht => ?_))
     | refine a_l rfl ?_ | refine a_l2 ?_ ?_ | (with_reducible refine And.intro ?_ ?_) | exact st_nil | refine xa_st (h2 := ?_)
     | fail)
    all_goals try clear fx
    rintro y H1 ⟨rfl, hT1⟩
    obtain ⟨t11, t12⟩ := hT1.hcln
    refine ⟨by simp, ?_⟩
    all_goals have fx := And.intro h3 <| And.intro hp3 <| And.intro h8 <| hp8
    repeat' (first
     | refine w_seq ?_ | refine w_skip ?_ | refine w_reg fun K hK => ?_
     | ((with_reducible refine s_end hK ?_); clear hK K)
     | (with_reducible first | refine then_normal ?_ | refine then_ret ?_ | refine s_nil ?_)
     | refine w_ret ?_
     | (with_reducible refine s_none ?_)
     | ((with_reducible refine g_id ?_); refine x_guard (h := ?_))
     | (with_reducible first | refine gx_tt ?_ | refine gx_ff ?_ | refine x_tf (h := ?_) | refine x_ft (h := ?_) | refine x_u (h := ?_) | refine x_assign (h := ?_) | refine x_box (h := ?_) | refine x_alloc (h := ?_) | refine x_store0 (h := ?_) | refine x_store (h := ?_))
     | ((with_reducible refine o_id 67 rfl ?_); refine x_callg (hB := (by first | ((repeat' (first | exact .nil | refine .cons ?_ ?_ | exact .refl _ | exact bw_ints (by simp [fx]; first | done | rfl) (by first | (simp [fx]; done) | (simp [fx]; omega) | omega) | exact bw_list (by simp [fx]; first | done | rfl) (by first | (simp [fx]; done) | (simp [fx]; omega) | omega) (by first | (simp; done) | fail) | exact bw_agg1 (bw_prog (p := cutP p b i) (n := .c (.s 8) 0 0) ⟨by simp [a1], fun j r hj => by simp [a2 j r hj], fun j r hj => by simp [a3 j r hj]⟩ (by simp)))); done) | fail)) (hF := ownersOf_fn _ (cutP p b i) hcs (shapeOk_heads hshf).1) (h := ?_))
     | (with_reducible refine x_q (h := ?_))
     | (with_reducible refine gx_s (fun ht => ?_) (fun ht => ?_))
     | refine x_condt (h1 := ?_) | refine x_condf (h1 := ?_)
     | (refine wSc (id := 5) qsGr1 mixed fun K hK => ?_)
     | ((with_reducible refine a_end hK ?_); clear hK K)
     | ((with_reducible refine a_id ?_); first | refine xa_q (h := ?_) | refine xa_qt (h := ?_) | refine xa_qf (h := ?_) | refine xa_qu (h := ?_))
     | ((with_reducible refine a_id ?_); refine xa_gq (h1 := fun ht => ?_) (h2 := fun ht => ?_))
     | refine a_l rfl ?_ | refine a_l2 ?_ ?_ | (with_reducible refine And.intro ?_ ?_) | exact st_nil | refine xa_st (h2 := ?_)
     | fail)
    all_goals try clear fx
    rintro y H2 ⟨rfl, hT2⟩
    obtain ⟨t21, t22⟩ := hT2.hcln
    refine ⟨by simp, ?_⟩
    have hl1 : (ownersOf p).length = (ownersOf (cutP p b i)).length := by simp [ownersOf]
    have hl2 : (ownersOf p).length ≤ 1048576 := by simp [ownersOf]; omega
    have hl3 : ∀ (i' : Nat) r r', (ownersOf p)[i']? = some r → (ownersOf (cutP p b i))[i']? = some r' → r.length = r'.length ∧ r.length ≤ 1048576 := by
      intro i' r r' hr hr'
      rw [ownersOf_row hr, ownersOf_row hr']
      exact ⟨rfl, by decide⟩
    all_goals have fx := fx0
    repeat' (first
     | refine w_seq ?_ | refine w_skip ?_ | refine w_reg fun K hK => ?_
     | ((with_reducible refine s_end hK ?_); clear hK K)
     | (with_reducible first | refine then_normal ?_ | refine then_ret ?_ | refine s_nil ?_)
     | refine w_ret ?_
     | (with_reducible refine s_none ?_)
     | ((with_reducible refine g_id ?_); refine x_guard (h := ?_))
     | (with_reducible first | refine gx_tt ?_ | refine gx_ff ?_ | refine x_tf (h := ?_) | refine x_ft (h := ?_) | refine x_u (h := ?_) | refine x_assign (h := ?_) | refine x_box (h := ?_) | refine x_alloc (h := ?_) | refine x_store0 (h := ?_) | refine x_store (h := ?_))
     | ((with_reducible refine o_id 66 rfl ?_); refine x_call (hB := (by first | ((repeat' (first | exact .nil | refine .cons ?_ ?_ | exact .refl _ | exact bw_ints (by simp [fx]; first | done | rfl) (by first | (simp [fx]; done) | (simp [fx]; omega) | omega) | exact bw_list (by simp [fx]; first | done | rfl) (by first | (simp [fx]; done) | (simp [fx]; omega) | omega) (by first | (simp; done) | fail) | exact bw_tab (by simp [t11]; first | done | rfl) (fun j r hj => by simp [t12 j r hj]) (by simp [ownersOf]) | exact bw_tab (by simp [t21]; first | done | rfl) (fun j r hj => by simp [t22 j r hj]) (by simp [ownersOf]))); done) | fail)) (hF := sameTable_fn _ _ _ hl1 hl2 hl3) (h := ?_))
     | (with_reducible refine x_q (h := ?_))
     | (with_reducible refine gx_s (fun ht => ?_) (fun ht => ?_))
     | refine x_condt (h1 := ?_) | refine x_condf (h1 := ?_)
     | (refine wSc (id := 5) qsGr1 mixed fun K hK => ?_)
     | ((with_reducible refine a_end hK ?_); clear hK K)
     | ((with_reducible refine a_id ?_); first | refine xa_q (h := ?_) | refine xa_qt (h := ?_) | refine xa_qf (h := ?_) | refine xa_qu (h := ?_))
     | ((with_reducible refine a_id ?_); refine xa_gq (h1 := fun ht => ?_) (h2 := fun ht => ?_))
     | refine a_l rfl ?_ | refine a_l2 ?_ ?_ | (with_reducible refine And.intro ?_ ?_) | exact st_nil | refine xa_st (h2 := ?_)
     | fail)
    all_goals try clear fx
    refine e_ret [] .nil (by simp; rfl) ?_
    simp [hpf]
end Go.Proofs.YtcbkblboonkfhaaGreat
end
