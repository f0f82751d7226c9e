/-
  Own texts, joined by mkclaim.py: Hs, Ht, Vf.
-/
import Derived.Test.YtcbkblboonkfhaaGreatS30
import Derived.Test.YtcbkblboonkfhaaGreatS12
import Derived.Test.YtcbkblboonkfhaaGreatS13
import Derived.Test.YtcbkblboonkfhaaGreatS17
set_option linter.unusedSimpArgs false
set_option linter.unusedVariables false
set_option maxRecDepth 100000
set_option maxHeartbeats 4000000

section
namespace Go.Proofs.YtcbkblboonkfhaaGreat
open Go Go.Hm Go.Proofs
abbrev qsHs0 : Sch := .q 0 <| .q 1 <| .q 2 <| .q 3 <| .q 4 <| .q 5 <| .l 6 [4, 3, 1, 0] <| .l 7 [] <| .done
abbrev qsHs1 : Sch := .q 0 <| .q 1 <| .q 2 <| .q 3 <| .q 4 <| .q 5 <| .q 6 <| .q 7 <| .q 8 <| .q 9 <| .q 10 <| .q 11 <| .l 12 [10, 7, 6, 5, 4, 3, 2, 1, 0] <| .q 13 <| .q 14 <| .l 15 [13] <| .done
attribute [local simp] slcAV rowsIn
theorem delete_fn (gl) (H : Nm → Option AO) (ss : List Stm) (i : Nat) (hi : i < ss.length) (hl : ss.length ≤ 1048576) (hH : H (.u 1 0 0) = some (.row 4 (srows ss))) :
    FnE Tryz.prog gl 123 (Nm.under (.u 1 0 0)) [.hs (.u 1 0 0) 4 0 ss.length, iv i, iv (i + 1)] H (fun _ z H' => z = .hs (.u 1 0 0) 4 0 (ss.length - 1) ∧ H' (.u 1 0 0) = some (.row 4 (srows (cutL ss i)))) noE := by
  have hi1 : (i : Int) + 1 ≤ ss.length := by omega
  have hi0 : i ≤ ss.length := by omega
  have hi2 : (0 : Int) ≤ (i : Int) + 1 := by omega
  have hi3 : ((i : Int) + 1).toNat = i + 1 := by omega
  have hne : ((i : Int) == (i : Int) + 1) = false := by simp; omega
  refine FnE.of_sem Tryz.func123 rfl (by kernel_rfl) (rs := [.tmp 6]) rfl Tryz.ntmps123 (Nat.le_of_ble_eq_true rfl) (fun _ => under_usroot rfl) fun C w g root hroot => ?_
  have fx := And.intro hH <| And.intro hi1 <| And.intro hi0 <| And.intro hi2 <| hi3
  refine k_run ?_
  repeat ((first | refine wSc (id := 5) qsHs0 mixed ?_); refine k_rund ?_; refine k_run ?_)
  clear fx
  first | show SemOp _ _ _ _ _ | intro K hK
  refine x_slice3 (F := 43) (n := .u 1 0 0) (z := 4) (len := ss.length) (i := i) (j := i + 1) (k1 := .i64) (k2 := .i64) (k3 := .i64) (by simp) (by simp) (by simp) (by simp) (by simp) (by simp) (by omega) (by omega) (by omega) ?_
  all_goals have fx := And.intro hH <| And.intro hi1 <| And.intro hi0 <| And.intro hi2 <| And.intro hi3 <| hne
  repeat' (first
   | refine w_seq ?_ | refine w_skip ?_ | refine w_reg fun K hK => ?_
   | ((with_reducible refine s_end hK ?_); clear hK K)
   | (with_reducible first | refine then_normal ?_ | refine then_ret ?_ | refine s_nil ?_)
   | refine w_ret ?_
   | (with_reducible first | refine s_none ?_ | refine x_assign (h := ?_) | refine x_append0 (T := 44) (h := ?_) | refine x_append (T := 44) (h := ?_))
   | (with_reducible refine x_q (h := ?_))
   | refine x_condt (h1 := ?_) | refine x_condf (h1 := ?_)
   | (refine wSc (id := 5) qsHs0 mixed fun K hK => ?_)
   | ((with_reducible refine a_end hK ?_); clear hK K)
   | ((with_reducible refine a_id ?_); first | refine xa_q (h := ?_) | refine xa_qt (h := ?_) | refine xa_qf (h := ?_) | refine xa_qu (h := ?_))
   | ((with_reducible refine a_id ?_); refine xa_gq (h1 := fun ht => ?_) (h2 := fun ht => ?_))
   | refine a_l rfl ?_ | refine a_l2 ?_ ?_ | (with_reducible refine And.intro ?_ ?_) | exact st_nil | refine xa_st (h2 := ?_)
   | fail)
  all_goals try clear fx
  have er : (srows ss).take (0 + i) ++ srows ((ss.drop (i + 1)).take (ss.length - (i + 1))) ++ (srows ss).drop (0 + i + (srows ((ss.drop (i + 1)).take (ss.length - (i + 1)))).length) = srows (cutL ss i ++ ss.drop (ss.length - 1)) := by
    have e2 : List.take (ss.length - (i + 1)) (List.drop (i + 1) ss) = List.drop (i + 1) ss := List.take_of_length_le (by simp)
    rw [e2]
    simp only [Nat.zero_add, srows_take, srows_drop, srows_app, srows_len, List.length_drop, cutL]
    congr 3
    omega
  have el : i + (srows ((ss.drop (i + 1)).take (ss.length - (i + 1)))).length = ss.length - 1 := by
    rw [srows_len, List.length_take, List.length_drop]
    omega
  have hL : (cutL ss i ++ ss.drop (ss.length - 1)).length = ss.length := by
    rw [List.length_append, cutL_len hi, List.length_drop]
    omega
  have hLt : (cutL ss i ++ ss.drop (ss.length - 1)).take (ss.length - 1) = cutL ss i := List.take_left' (cutL_len hi)
  refine sem_appendIn (T := 44) (F := 43) (d := 26) (z := 4) (lo := 0) (len := i) (n := .u 1 0 0) (rows0 := srows ss) (rows2 := srows ((ss.drop (i + 1)).take (ss.length - (i + 1)))) rfl rfl (by simp) (by simp) (by simp) (by simp) (by simp [hH]) (by simp [hH]; omega) (by simp; omega) ?_
  rw [er, el]
  generalize hM : cutL ss i ++ ss.drop (ss.length - 1) = M at hL hLt
  obtain ⟨m, hm⟩ : ∃ m, m = ss.length - 1 := ⟨_, rfl⟩
  rw [← hm] at hLt ⊢
  have hml : m ≤ M.length := by omega
  have hm1 : (m : Int) ≤ ss.length := by omega
  have fx := And.intro hL <| And.intro hml <| hm1
  refine k_run ?_
  repeat ((first | refine wSc (id := 5) qsHs0 mixed ?_); refine k_rund ?_; refine k_run ?_)
  clear fx
  first | show SemOp _ _ _ _ _ | intro K hK
  refine o_cut (.u 1 0 0) m (z := 4) (rows := srows M) (by simp) ?_
  rw [srows_take, hLt]
  refine x_clear (F := 43) (z := 4) (lo := m) (len := ss.length - m) (n := .u 1 0 0) (rows := srows (cutL ss i)) (zv := [iv 0, iv 0, iv 0, iv 0]) (by simp) (by simp) (by simp) (by simp) (by simp) (by simp [cutL_len hi, hm]) ?_
  have fx := fx0
  refine k_run ?_
  repeat ((first | refine wSc (id := 5) qsHs0 mixed ?_); refine k_rund ?_; refine k_run ?_)
  clear fx
  refine e_ret [] .nil (by simp; rfl) ?_
  simp [hm]
theorem without_fn (gl) (p : Prg) (b i : Nat) (k : Blk) (hk : p[b]? = some k) (hi : i < k.body.length) (hs : Sml p) : FnOk Tryz.prog gl 74 [pav p, iv b, iv i] (fun r z H' => z = .agg [.hs r 4 0 p.length] ∧ OwnP H' r (cutP p b i)) := by
  have hpl := hs.len
  obtain ⟨hkp, hkb⟩ := hs.bsm hk
  obtain ⟨hbl, hkE⟩ := gS hk
  rw [cutP_eq hk]
  refine FnOk.of_sem Tryz.func74 rfl (by kernel_rfl) (rs := [.cell 6 29]) rfl Tryz.ntmps74 (Nat.le_of_ble_eq_true rfl) fun C w g root => ?_
  have fx := fx0
  have e1 := copyOf_fn gl p hs
  refine k_run ?_
  repeat ((first | refine wSc (id := 2) qsHs1 mixed ?_); refine k_rund ?_; refine k_run ?_)
  clear fx e1
  first | rintro K hK z H' ⟨rfl, hO⟩ | rintro z H' ⟨rfl, hO⟩
  obtain ⟨ho1, ho2, ho3⟩ := hO.hcln
  refine ⟨by simp, ?_⟩
  have hw : IntKind.i64.wrap ((i : Int) + 1) = i + 1 := wrp (by omega) (by omega)
  all_goals have fx := And.intro ho1 <| And.intro hk <| And.intro hkE <| And.intro hbl <| hw
  repeat' (first
   | refine w_seq ?_ | refine w_reg fun K hK => ?_
   | ((with_reducible refine s_end hK ?_); clear hK K)
   | (with_reducible first | refine then_normal ?_ | refine then_ret ?_ | refine s_nil ?_)
   | refine w_ret ?_
   | (with_reducible first | refine s_none ?_ | refine x_box (h := ?_) | refine x_alloc (h := ?_) | refine x_store0 (h := ?_) | refine x_store (h := ?_))
   | (with_reducible refine x_q (h := ?_))
   | (refine wSc (id := 2) qsHs1 mixed fun K hK => ?_)
   | ((with_reducible refine a_end hK ?_); clear hK K)
   | ((with_reducible refine a_id ?_); first | refine xa_q (h := ?_) | refine xa_qt (h := ?_) | refine xa_qf (h := ?_) | refine xa_qu (h := ?_))
   | ((with_reducible refine a_id ?_); refine xa_gq (h1 := fun ht => ?_) (h2 := fun ht => ?_))
   | refine a_l rfl ?_ | refine a_l2 ?_ ?_ | (with_reducible refine And.intro ?_ ?_) | exact st_nil | refine xa_st (h2 := ?_)
   | fail)
  all_goals try clear fx
  have hob := ho3 b k hk
  have hset := pRows_setOwn (n := .c (.s 7) 0 0) (i := b) (len := k.body.length - 1) (p := p) (L := cutL k.body i) (by rw [cutL_len hi])
  have fx := hbl
  refine x_mutc (.c (.c (.s 7) 0 0) b 3) (.u 1 0 0) (hext := rfl) (hs := by simp [hob]) (hF := delete_fn _ _ k.body i hi hkb (by simp [hob])) (h := ?_)
  rintro z H1 ⟨rfl, hy1⟩
  clear fx
  have fx := And.intro ho1 <| And.intro hk <| And.intro hkE <| And.intro hbl <| hset
  refine k_run ?_
  repeat ((first | refine wSc (id := 2) qsHs1 mixed ?_); refine k_rund ?_; refine k_run ?_)
  clear fx
  refine e_ret (xs := [.agg [.hs (.c (.s 7) 0 0) 4 0 p.length]]) [(.c (.s 7) 0 0, root)] (.one rfl) (by simp) ⟨by simp, ⟨?_, fun j r hj => ?_, fun j r hj => ?_⟩⟩
  · simp [ho1, hset, pRows_tr (n := .c (.s 7) 0 0) (m := root) (f := finf noD [(.c (.s 7) 0 0, root)]) (p := setBody p b (cutL k.body i)) (by simp)]
  all_goals
    have hjl : j < p.length := by
      have := (gS hj).1
      rwa [setBody_len] at this
    obtain ⟨q, hq⟩ : ∃ q, p[j]? = some q := ⟨_, gE hjl⟩
    rw [setBody_get hq] at hj
    obtain rfl := Option.some.inj hj
    by_cases hij : b = j
  · subst hij
    simp [ho2 b q hq]
  · simp [ho2 j q hq, hij, show ¬ j = b from fun e => hij e.symm]
  · subst hij
    simp [hy1]
  · simp [ho3 j q hq, hij, show ¬ j = b from fun e => hij e.symm]
end Go.Proofs.YtcbkblboonkfhaaGreat
end
section
namespace Go.Proofs.YtcbkblboonkfhaaGreat
open Go Go.Hm Go.Proofs
theorem isIdle_fn (gl) (p : Prg) (b i : Nat) (k : Blk) (s : Stm) (hk : p[b]? = some k) (hs : k.body[i]? = some s) (hS : Sml p) (hp : ShapeP p) : FnOk Tryz.prog gl 70 [pav p, tsl (ownersOf p), iv b, iv i] (fun _ y _ => y = bv (idleAt p b i)) := by
  have hpl := hS.len
  have hl7 := hp.len
  obtain ⟨hbl, hkE⟩ := gS hk
  obtain ⟨hil, hsE⟩ := gS hs
  have hcs := cutP_sml (b := b) (i := i) hS
  rw [idleAt_eq hk hs]
  refine FnOk.of_sem Tryz.func70 rfl (by kernel_rfl) (rs := [.tmp 8]) rfl Tryz.ntmps70 (Nat.le_of_ble_eq_true rfl) fun C w g root => ?_
  cases hd : decide (s.kind = 9 ∨ s.kind = 10)
  · have h9 : (s.kind == 9 || s.kind == 10) = false := by
      simp only [decide_eq_false_iff_not, not_or] at hd
      simp [hd.1, hd.2]
    have fx := And.intro hk <| And.intro hkE <| And.intro hbl <| And.intro hs <| And.intro hsE <| And.intro hil <| hd
    have c1 := isDeclaration_fn gl s
    refine k_run ?_
    clear fx c1
    refine e_ret [] .nil (by simp; rfl) ?_
    simp only [h9]
    simp
  have h9 : (s.kind == 9 || s.kind == 10) = true := by
    simp only [decide_eq_true_eq] at hd
    rcases hd with h | h <;> simp [h]
  rw [h9, Bool.true_and]
  have fx := And.intro hk <| And.intro hkE <| And.intro hbl <| And.intro hs <| And.intro hsE <| And.intro hil <| hd
  have c1 := isDeclaration_fn gl s
  have e1 := without_fn gl p b i k hk hil hS
  refine k_run ?_
  clear fx c1 e1
  first | rintro K hK z H1 ⟨rfl, hO⟩ | rintro z H1 ⟨rfl, hO⟩
  obtain ⟨ho1, ho2, ho3⟩ := hO.hcln
  refine ⟨by simp, ?_⟩
  have fx :=  ho1
  refine k_run ?_
  clear fx
  first | show SemOp _ _ _ _ _ | intro K hK
  refine o_abs (fun st => st.tm 1 = tsl (ownersOf p) ∧ BoxP st 9 (cutP p b i) ∧ st.tm 25 = .agg [.hs (.c (.s 9) 0 0) 4 0 p.length]) ⟨by simp, ⟨by simp, by simp, ⟨by simp [ho1], fun j r hj => by simp [ho2 j r hj], fun j r hj => by simp [ho3 j r hj]⟩⟩, by simp⟩ ?_
  clear hO ho1 ho2 ho3
  rintro st ⟨h1, ⟨h9, hp9, ⟨a1, a2, a3⟩⟩, h25⟩
  rw [cutP_len] at hp9
  cases hpf : progOk (cutP p b i)
  · skip
    all_goals have fx := And.intro h1 <| And.intro h9 <| And.intro hp9 <| And.intro h25 <| hpf
    repeat' (first
     | refine w_seq ?_ | refine w_skip ?_ | refine w_reg fun K hK => ?_
     | ((with_reducible refine s_end hK ?_); clear hK K)
     | (with_reducible first | refine then_normal ?_ | refine then_ret ?_)
     | refine w_ret ?_
     | (with_reducible refine s_none ?_)
     | ((with_reducible refine g_id ?_); refine x_guard (h := ?_))
     | (with_reducible first | refine gx_tt ?_ | refine gx_ff ?_ | refine x_tf (h := ?_) | refine x_ft (h := ?_) | refine x_u (h := ?_) | refine x_assign (h := ?_) | refine x_box (h := ?_) | refine x_alloc (h := ?_) | refine x_store0 (h := ?_) | refine x_store (h := ?_))
     | ((with_reducible refine o_id 52 rfl ?_); refine x_call (hB := (by first | ((repeat' (first | exact .nil | refine .cons ?_ ?_ | exact .refl _ | exact bw_ints (by simp [fx]; first | done | rfl) (by first | (simp [fx]; done) | (simp [fx]; omega) | omega) | exact bw_list (by simp [fx]; first | done | rfl) (by first | (simp [fx]; done) | (simp [fx]; omega) | omega) (by first | (simp; done) | fail) | exact bw_agg1 (bw_prog (p := cutP p b i) (n := .c (.s 9) 0 0) ⟨by simp [a1], fun j r hj => by simp [a2 j r hj], fun j r hj => by simp [a3 j r hj]⟩ (by simp)))); done) | fail)) (hF := impl_ValidProgram_fn _ (cutP p b i) hcs) (h := ?_))
     | (with_reducible refine x_q (h := ?_))
     | (with_reducible refine gx_s (fun ht => ?_) (fun ht => ?_))
     | refine x_condt (h1 := ?_) | refine x_condf (h1 := ?_)
     | fail)
    all_goals try clear fx
    refine e_ret [] .nil (by simp; rfl) ?_
    simp [hpf]
  have hpq : ShapeP (cutP p b i) := ShapeP.of hcs (by
    simp only [progOk, Bool.and_eq_true] at hpf
    exact hpf.1)
  all_goals have fx := And.intro h1 <| And.intro h9 <| And.intro hp9 <| And.intro h25 <| hpf
  repeat' (first
   | refine w_seq ?_ | refine w_skip ?_ | refine w_reg fun K hK => ?_
   | ((with_reducible refine s_end hK ?_); clear hK K)
   | (with_reducible first | refine then_normal ?_ | refine then_ret ?_)
   | refine w_ret ?_
   | (with_reducible refine s_none ?_)
   | ((with_reducible refine g_id ?_); refine x_guard (h := ?_))
   | (with_reducible first | refine gx_tt ?_ | refine gx_ff ?_ | refine x_tf (h := ?_) | refine x_ft (h := ?_) | refine x_u (h := ?_) | refine x_assign (h := ?_) | refine x_box (h := ?_) | refine x_alloc (h := ?_) | refine x_store0 (h := ?_) | refine x_store (h := ?_))
   | ((with_reducible refine o_id 52 rfl ?_); refine x_call (hB := (by first | ((repeat' (first | exact .nil | refine .cons ?_ ?_ | exact .refl _ | exact bw_ints (by simp [fx]; first | done | rfl) (by first | (simp [fx]; done) | (simp [fx]; omega) | omega) | exact bw_list (by simp [fx]; first | done | rfl) (by first | (simp [fx]; done) | (simp [fx]; omega) | omega) (by first | (simp; done) | fail) | exact bw_agg1 (bw_prog (p := cutP p b i) (n := .c (.s 9) 0 0) ⟨by simp [a1], fun j r hj => by simp [a2 j r hj], fun j r hj => by simp [a3 j r hj]⟩ (by simp)))); done) | fail)) (hF := impl_ValidProgram_fn _ (cutP p b i) hcs) (h := ?_))
   | ((with_reducible refine o_id 63 rfl ?_); refine x_callg (hB := (by first | ((repeat' (first | exact .nil | refine .cons ?_ ?_ | exact .refl _ | exact bw_ints (by simp [fx]; first | done | rfl) (by first | (simp [fx]; done) | (simp [fx]; omega) | omega) | exact bw_list (by simp [fx]; first | done | rfl) (by first | (simp [fx]; done) | (simp [fx]; omega) | omega) (by first | (simp; done) | fail) | exact bw_agg1 (bw_prog (p := cutP p b i) (n := .c (.s 9) 0 0) ⟨by simp [a1], fun j r hj => by simp [a2 j r hj], fun j r hj => by simp [a3 j r hj]⟩ (by simp)))); done) | fail)) (hF := impl_ownersOf_fn _ (cutP p b i) hpq) (h := ?_))
   | (with_reducible refine x_q (h := ?_))
   | (with_reducible refine gx_s (fun ht => ?_) (fun ht => ?_))
   | refine x_condt (h1 := ?_) | refine x_condf (h1 := ?_)
   | fail)
  all_goals try clear fx
  rintro y H2 ⟨rfl, hT2⟩
  obtain ⟨t21, t22⟩ := hT2.hcln
  refine ⟨by simp, ?_⟩
  have hl1 : (ownersOf (cutP p b i)).length ≤ 1048576 := by simp [ownersOf]; omega
  have hl2 : (ownersOf p).length ≤ 1048576 := by simp [ownersOf]; omega
  have hr : ∀ q : Prg, ∀ r ∈ ownersOf q, r.length ≤ 1048576 := fun q r hr => by
    obtain ⟨j, hj⟩ := List.getElem?_of_mem hr
    rw [ownersOf_row hj]
    decide
  have heq : decide (ownersOf (cutP p b i) = ownersOf p) = decide (ownersOf p = ownersOf (cutP p b i)) := by
    rw [decide_eq_decide]
    exact eq_comm
  all_goals have fx :=  h1
  repeat' (first
   | refine w_seq ?_ | refine w_skip ?_ | refine w_reg fun K hK => ?_
   | ((with_reducible refine s_end hK ?_); clear hK K)
   | (with_reducible first | refine then_normal ?_ | refine then_ret ?_)
   | refine w_ret ?_
   | (with_reducible refine s_none ?_)
   | ((with_reducible refine g_id ?_); refine x_guard (h := ?_))
   | (with_reducible first | refine gx_tt ?_ | refine gx_ff ?_ | refine x_tf (h := ?_) | refine x_ft (h := ?_) | refine x_u (h := ?_) | refine x_assign (h := ?_) | refine x_box (h := ?_) | refine x_alloc (h := ?_) | refine x_store0 (h := ?_) | refine x_store (h := ?_))
   | ((with_reducible refine o_id 64 rfl ?_); refine x_call (hB := (by first | ((repeat' (first | exact .nil | refine .cons ?_ ?_ | exact .refl _ | exact bw_ints (by simp [fx]; first | done | rfl) (by first | (simp [fx]; done) | (simp [fx]; omega) | omega) | exact bw_list (by simp [fx]; first | done | rfl) (by first | (simp [fx]; done) | (simp [fx]; omega) | omega) (by first | (simp; done) | fail) | exact bw_tab (by simp [t21]; first | done | rfl) (fun j r hj => by simp [t22 j r hj]) (by simp [ownersOf]))); done) | fail)) (hF := gridEqual_fn _ _ _ hl1 hl2 (hr _) (hr _)) (h := ?_))
   | (with_reducible refine x_q (h := ?_))
   | (with_reducible refine gx_s (fun ht => ?_) (fun ht => ?_))
   | refine x_condt (h1 := ?_) | refine x_condf (h1 := ?_)
   | fail)
  all_goals try clear fx
  refine e_ret [] .nil (by simp; rfl) ?_
  rw [hpf, Bool.true_and, ← heq]
  simp
theorem firstIdle_fn (gl) (p : Prg) (hS : Sml p) (hv : progOk p = true) : FnOk Tryz.prog gl 73 [pav p] (fun _ z _ => z = .tup [iv (fstB p), iv (fstI p), bv (fstOk p)]) := by
  have hsh : shapeOk p = true := by
    simp only [progOk, Bool.and_eq_true] at hv
    exact hv.1
  have hp := ShapeP.of hS hsh
  have hl7 := hp.len
  refine FnOk.of_sem Tryz.func73 rfl (by kernel_rfl) (rs := [.tmp 2, .tmp 3, .tmp 4]) rfl Tryz.ntmps73 (Nat.le_of_ble_eq_true rfl) fun C w g root => ?_
  have fx := fx0
  have e1 := impl_ownersOf_fn gl p hp
  refine k_run ?_
  clear fx e1
  first | rintro K hK y H2 ⟨rfl, hT2⟩ | rintro y H2 ⟨rfl, hT2⟩
  obtain ⟨t21, t22⟩ := hT2.hcln
  refine ⟨by simp, ?_⟩
  have fx := fx0
  refine k_run ?_
  clear fx
  refine w_loop (fun n st => ∃ b : Nat, n = p.length - b ∧ b ≤ p.length ∧ st.tm 1 = .pt (.s 1) 0 ∧ st.hp (.s 1) = some (.row 1 [[ksl p]]) ∧ st.tm 5 = .hs (.s 5) 1 0 p.length ∧ IsTab st.hp (.s 5) (ownersOf p) ∧ st.tm 12 = ksl p ∧ st.tm 13 = iv p.length ∧ st.tm 14 = iv b ∧
    (∀ b' i', b' < b → idleAt p b' i' = false)) p.length ?_ ?_
  · exact ⟨0, by omega, by omega, by simp, by simp, by simp, ⟨by simp [t21], fun j r hj => by simp [t22 j r hj]⟩, by simp, by simp, by simp, fun b' i' h => by omega⟩
  clear t21 t22 hT2
  rintro n st - - ⟨b, rfl, hb, h1, hp1, h5, ⟨t21, t22⟩, h12, h13, h14, hno⟩
  have fx := And.intro h13 <| h14
  refine k_run ?_
  clear fx
  refine w_if (by simp []; first | done | rfl | exact (Bool.not_not _).symm) (fun ht => ?_) (fun hf => ?_)
  · have hlt : b < p.length := by simpa using ht
    obtain ⟨k, hk⟩ : ∃ k, p[b]? = some k := ⟨_, gE hlt⟩
    obtain ⟨_, hkE⟩ := gS hk
    obtain ⟨hkp, hkb⟩ := hS.bsm hk
    clear ht
    have fx := And.intro h12 <| And.intro h14 <| And.intro hk <| And.intro hkE <| hlt
    refine k_run ?_
    clear fx
    refine w_loop (fun n st => ∃ i : Nat, n = k.body.length - i ∧ i ≤ k.body.length ∧ st.tm 1 = .pt (.s 1) 0 ∧ st.hp (.s 1) = some (.row 1 [[ksl p]]) ∧ st.tm 5 = .hs (.s 5) 1 0 p.length ∧ IsTab st.hp (.s 5) (ownersOf p) ∧ st.tm 12 = ksl p ∧ st.tm 13 = iv p.length ∧ st.tm 14 = iv b ∧ st.tm 6 = iv b ∧
      st.tm 21 = iv k.body.length ∧ st.tm 22 = iv i ∧ (∀ j, j < i → idleAt p b j = false)) k.body.length ?_ ?_
    · exact ⟨0, by omega, by omega, by simp [h1], by simp [hp1], by simp [h5], ⟨by simp [t21], fun j r hj => by simp [t22 j r hj]⟩, by simp [h12], by simp [h13], by simp [h14], by simp, by simp, by simp, fun j h => by omega⟩
    clear t21 t22 h1 hp1 h5 h12 h13 h14
    rintro n st - - ⟨i, rfl, hi, h1, hp1, h5, ⟨t21, t22⟩, h12, h13, h14, h6, h21, h22, hno2⟩
    have fx := And.intro h21 <| h22
    refine k_run ?_
    clear fx
    refine w_if (by simp []; first | done | rfl | exact (Bool.not_not _).symm) (fun ht => ?_) (fun hf => ?_)
    · have hil : i < k.body.length := by simpa using ht
      obtain ⟨s, hsi⟩ : ∃ s, k.body[i]? = some s := ⟨_, gE hil⟩
      clear ht
      cases hid : idleAt p b i
      · skip
        all_goals have fx := And.intro h1 <| And.intro hp1 <| And.intro h5 <| And.intro h6 <| And.intro h22 <| hid
        repeat' (first
         | refine w_seq ?_ | refine w_block ?_ | refine w_skip ?_ | refine w_reg fun K hK => ?_
         | ((with_reducible refine s_end hK ?_); clear hK K)
         | (with_reducible first | refine then_normal ?_ | refine in_normal ?_ | refine then_exit ?_ | refine in_exit ?_ | refine then_ret ?_ | refine in_ret ?_ | refine in_other (by decide) ?_)
         | refine w_exit ?_
         | refine w_ret ?_
         | (with_reducible first | refine s_none ?_ | refine x_assign (h := ?_) | refine x_box (h := ?_) | refine x_alloc (h := ?_) | refine x_store0 (h := ?_) | refine x_store (h := ?_))
         | ((with_reducible refine o_id 70 rfl ?_); refine x_call (hB := (by first | ((repeat' (first | exact .nil | refine .cons ?_ ?_ | exact .refl _ | exact bw_ints (by simp [fx]; first | done | rfl) (by first | (simp [fx]; done) | (simp [fx]; omega) | omega) | exact bw_list (by simp [fx]; first | done | rfl) (by first | (simp [fx]; done) | (simp [fx]; omega) | omega) (by first | (simp; done) | fail) | exact bw_tab (n := .s 5) (by simp [t21]; first | done | rfl) (fun j r hj => by simp [t22 j r hj]) (by simp [ownersOf]))); done) | fail)) (hF := isIdle_fn _ p b i k s hk hsi hS hp) (h := ?_))
         | (with_reducible refine x_q (h := ?_))
         | refine x_condt (h1 := ?_) | refine x_condf (h1 := ?_)
         | fail)
        all_goals try clear fx
        refine ⟨k.body.length - (i + 1), by omega, i + 1, rfl, by omega, by simp [h1], by simp [hp1], by simp [h5], ⟨by simp [t21], fun j r hj => by simp [t22 j r hj]⟩, by simp [h12], by simp [h13], by simp [h14], by simp [h6], by simp [h21], by simp; exact wrp (by omega) (by omega), fun j hj => ?_⟩
        rcases Nat.lt_succ_iff_lt_or_eq.1 hj with h | rfl
        · exact hno2 j h
        · exact hid
      · obtain ⟨f1, f2, f3⟩ := fst_is (p := p) (b := b) (i := i) ⟨hid, fun c j h => hno c j h, hno2⟩
        all_goals have fx := And.intro h1 <| And.intro hp1 <| And.intro h5 <| And.intro h6 <| And.intro h22 <| hid
        repeat' (first
         | refine w_seq ?_ | refine w_block ?_ | refine w_skip ?_ | refine w_reg fun K hK => ?_
         | ((with_reducible refine s_end hK ?_); clear hK K)
         | (with_reducible first | refine then_normal ?_ | refine in_normal ?_ | refine then_exit ?_ | refine in_exit ?_ | refine then_ret ?_ | refine in_ret ?_ | refine in_other (by decide) ?_)
         | refine w_exit ?_
         | refine w_ret ?_
         | (with_reducible first | refine s_none ?_ | refine x_assign (h := ?_) | refine x_box (h := ?_) | refine x_alloc (h := ?_) | refine x_store0 (h := ?_) | refine x_store (h := ?_))
         | ((with_reducible refine o_id 70 rfl ?_); refine x_call (hB := (by first | ((repeat' (first | exact .nil | refine .cons ?_ ?_ | exact .refl _ | exact bw_ints (by simp [fx]; first | done | rfl) (by first | (simp [fx]; done) | (simp [fx]; omega) | omega) | exact bw_list (by simp [fx]; first | done | rfl) (by first | (simp [fx]; done) | (simp [fx]; omega) | omega) (by first | (simp; done) | fail) | exact bw_tab (n := .s 5) (by simp [t21]; first | done | rfl) (fun j r hj => by simp [t22 j r hj]) (by simp [ownersOf]))); done) | fail)) (hF := isIdle_fn _ p b i k s hk hsi hS hp) (h := ?_))
         | (with_reducible refine x_q (h := ?_))
         | refine x_condt (h1 := ?_) | refine x_condf (h1 := ?_)
         | fail)
        all_goals try clear fx
        refine e_ret [] .nil (by simp; rfl) ?_
        simp [f1, f2, f3]
    · have hge : i = k.body.length := by
        have : ¬ i < k.body.length := by simpa using hf
        omega
      subst hge
      have fx :=  h14
      refine k_run ?_
      clear fx
      refine ⟨p.length - (b + 1), by omega, b + 1, rfl, by omega, by simp [h1], by simp [hp1], by simp [h5], ⟨by simp [t21], fun j r hj => by simp [t22 j r hj]⟩, by simp [h12], by simp [h13], by simp; exact wrp (by omega) (by omega), fun c j hc => ?_⟩
      rcases Nat.lt_succ_iff_lt_or_eq.1 hc with h | rfl
      · exact hno c j h
      · rcases Nat.lt_or_ge j k.body.length with hj | hj
        · exact hno2 j hj
        · have : k.body[j]? = none := List.getElem?_eq_none hj
          simp [idleAt, hk, this]
  · have hge : b = p.length := by
      have : ¬ b < p.length := by simpa using hf
      omega
    subst hge
    have hni : NoIdle p := by
      intro c j
      rcases Nat.lt_or_ge c p.length with hc | hc
      · exact hno c j hc
      · have : p[c]? = none := List.getElem?_eq_none hc
        simp [idleAt, this]
    obtain ⟨f1, f2, f3⟩ := fst_no hni
    have fx := fx0
    refine k_run ?_
    clear fx
    refine e_ret [] .nil (by simp; rfl) ?_
    simp [f1, f2, f3]
theorem impl_IdleDeclarations_fn (gl) (p : Prg) (hs : Sml p) : FnOk Tryz.prog gl 20 [pav p] (fun r y H' => y = .hs r 1 0 (idleG p).length ∧ IsTabN H' r (idleG p)) := by
  have hpl := hs.len
  refine FnOk.of_sem Tryz.func20 rfl (by kernel_rfl) (rs := [.tmp 2]) rfl Tryz.ntmps20 (Nat.le_of_ble_eq_true rfl) fun C w g root => ?_
  cases hv : progOk p
  · have hg : idleG p = [] := by simp [idleG, hv]
    rw [hg]
    have fx :=  hv
    have c1 := hv ▸ impl_ValidProgram_fn gl p hs
    refine k_run ?_
    clear fx c1
    refine e_ret [(.s 2, root)] (.one rfl) (by simp; rfl) ⟨by simp, ⟨by simp [ntRows], fun j r hj => by simp at hj⟩⟩
  have hP := shape_ok hs hv
  have hl7 := hP.len
  have hg : idleG p = idleT p := by simp [idleG, hv]
  rw [hg]
  have fx := And.intro hv <| hl7
  have c1 := hv ▸ impl_ValidProgram_fn gl p hs
  have e1 := impl_ownersOf_fn gl p hP
  refine k_run ?_
  clear fx c1 e1
  rintro K hK y H2 ⟨rfl, hT2⟩
  obtain ⟨t21, t22⟩ := hT2.hcln
  refine ⟨by simp, ?_⟩
  have fx := And.intro t21 <| hl7
  refine k_run ?_
  clear fx
  have hrep := ntRows_nils (n := .s 4) (l := p.length)
  have hpl7 : p.length ≤ 7 := hl7.2
  refine w_loop (fun n st => ∃ (b : Nat) (T : List (List Int)), n = p.length - b ∧ b ≤ p.length ∧ TabTo p b 0 T ∧ st.tm 1 = .pt (.s 1) 0 ∧ st.hp (.s 1) = some (.row 1 [[ksl p]]) ∧ st.tm 3 = .hs (.s 3) 1 0 p.length ∧ IsTab st.hp (.s 3) (ownersOf p) ∧ st.tm 4 = .hs (.s 4) 1 0 p.length ∧ IsTabN st.hp (.s 4) T ∧ st.tm 18 = ksl p ∧ st.tm 19 = iv p.length ∧ st.tm 20 = iv b) p.length ?_ ?_
  · refine ⟨0, List.replicate p.length [], by omega, by omega, .start, by simp, by simp, by simp, ⟨by simp [t21], fun j r hj => by simp [t22 j r hj]⟩, by simp, ⟨by simp; exact hrep, fun j r hj h0 => ?_⟩, by simp, by simp, by simp⟩
    rw [List.getElem?_replicate] at hj
    split at hj
    · obtain rfl := Option.some.inj hj
      simp at h0
    · cases hj
  clear t21 t22 hT2 hrep
  rintro n st - - ⟨b, T, rfl, hb, hT, h1, hp1, h3, ⟨t21, t22⟩, h4, ⟨n1, n2⟩, h18, h19, h20⟩
  by_cases hbl : b < p.length
  · obtain ⟨k, hk⟩ : ∃ k, p[b]? = some k := ⟨_, gE hbl⟩
    obtain ⟨_, hkE⟩ := gS hk
    obtain ⟨hkp, hkb⟩ := hs.bsm hk
    have hb12 := hP.body k (List.mem_of_getElem? hk)
    have fx := And.intro h18 <| And.intro h19 <| And.intro h20 <| And.intro hbl <| And.intro hk <| hkE
    refine k_run ?_
    clear fx
    refine w_loop (fun n st => ∃ (i : Nat) (T : List (List Int)), n = k.body.length - i ∧ i ≤ k.body.length ∧ TabTo p b i T ∧ st.tm 1 = .pt (.s 1) 0 ∧ st.hp (.s 1) = some (.row 1 [[ksl p]]) ∧ st.tm 3 = .hs (.s 3) 1 0 p.length ∧ IsTab st.hp (.s 3) (ownersOf p) ∧ st.tm 4 = .hs (.s 4) 1 0 p.length ∧ IsTabN st.hp (.s 4) T ∧ st.tm 18 = ksl p ∧ st.tm 19 = iv p.length ∧ st.tm 20 = iv b ∧ st.tm 5 = iv b ∧ st.tm 27 = iv k.body.length ∧ st.tm 28 = iv i) k.body.length ⟨0, T, by omega, by omega, hT, by simp [h1], by simp [hp1], by simp [h3], ⟨by simp [t21], fun j r hj => by simp [t22 j r hj]⟩, by simp [h4], ⟨by simp [n1], fun j r hj h0 => by simp [n2 j r hj h0]⟩, by simp [h18], by simp [h19], by simp [h20], by simp, by simp, by simp⟩ ?_
    clear h1 hp1 h3 t21 t22 h4 n1 n2 h18 h19 h20 hT T
    rintro n st - - ⟨i, T, rfl, hi, hT, h1, hp1, h3, ⟨t21, t22⟩, h4, ⟨n1, n2⟩, h18, h19, h20, h5, h27, h28⟩
    by_cases hil : i < k.body.length
    · obtain ⟨s, hsi⟩ : ∃ s, k.body[i]? = some s := ⟨_, gE hil⟩
      have hid := isIdle_fn gl p b i k s hk hsi hs hP
      have hTl := hT.len
      have hTb := hT.at' hbl
      have hLl : (idleTo p b i).length ≤ i := idleTo_len
      cases hix : idleAt p b i
      · rw [hix] at hid
        have fx := And.intro h1 <| And.intro hp1 <| And.intro h3 <| And.intro h5 <| And.intro h28 <| And.intro h27 <| hil
        refine k_run ?_
        clear fx
        intro K hK
        have fx := And.intro h1 (And.intro h3 (And.intro h5 h28))
        refine kx_call (hB := .cons (.refl _) (.cons (bw_tab (n := .s 3) (by simp [t21]; first | done | rfl) (fun j r hj => by simp [t22 j r hj]) (by simp [ownersOf])) (.cons (.refl _) (.cons (.refl _) .nil)))) (hF := hid) (h := ?_)
        clear fx
        have fx := And.intro h1 <| And.intro hp1 <| And.intro h3 <| And.intro h5 <| And.intro h28 <| And.intro h27 <| hil
        refine k_run ?_
        clear fx
        exact ⟨k.body.length - (i + 1), by omega, i + 1, T, rfl, by omega, hT.skip hix, by simp [h1], by simp [hp1], by simp [h3], ⟨by simp [t21], fun j r hj => by simp [t22 j r hj]⟩, by simp [h4], ⟨by simp [n1], fun j r hj h0 => by simp [n2 j r hj h0]⟩, by simp [h18], by simp [h19], by simp [h20], by simp [h5], by simp [h27], by simp; exact wrp (by omega) (by omega)⟩
      · rw [hix] at hid
        have hTk := hT.keep hbl hix
        obtain ⟨hTbl, hTE⟩ := gS hTb
        generalize hL : idleTo p b i = L at *
        have fx := And.intro h1 <| And.intro hp1 <| And.intro h3 <| And.intro h5 <| And.intro h28 <| And.intro h27 <| hil
        refine k_run ?_
        clear fx
        intro K hK
        have fx := And.intro h1 (And.intro h3 (And.intro h5 h28))
        refine kx_call (hB := .cons (.refl _) (.cons (bw_tab (n := .s 3) (by simp [t21]; first | done | rfl) (fun j r hj => by simp [t22 j r hj]) (by simp [ownersOf])) (.cons (.refl _) (.cons (.refl _) .nil)))) (hF := hid) (h := ?_)
        clear fx
        by_cases h0 : L.length = 0
        · have hc := cellN_nil (n := .s 4) (j := b) h0
          have fx := And.intro h1 <| And.intro hp1 <| And.intro h3 <| And.intro h4 <| And.intro n1 <| And.intro h5 <| And.intro h28 <| And.intro h27 <| And.intro hil <| And.intro hbl <| And.intro hTb <| And.intro hTE <| And.intro hTbl <| hc
          refine k_run ?_
          clear fx
          obtain rfl : L = [] := List.length_eq_zero_iff.1 h0
          have hput := ntRows_put (n := .s 4) (m := .s 44) (T := T) (b := b) (L := [(i : Int)]) (f := mv (.s 44) (.c (.s 4) b 0)) hTbl (by simp) (fun j hj => by simp [hj]) (by simp)
          simp only [List.length_singleton] at hput
          refine ⟨k.body.length - (i + 1), by omega, i + 1, T.set b ([(i : Int)]), rfl, by omega, hTk, by simp [h1], by simp [hp1], by simp [h3], ⟨by simp [t21], fun j r hj => by simp [t22 j r hj]⟩, by simp [h4], ⟨?_, fun j r hj hr0 => ?_⟩, by simp [h18], by simp [h19], by simp [h20], by simp [h5], by simp [h27], by simp; exact wrp (by omega) (by omega)⟩
          · simp [hput]
          · rw [List.getElem?_set] at hj
            split at hj
            · rename_i e
              subst e
              obtain rfl := Option.some.inj hj
              simp [irows]
            · rename_i e
              simp [n2 j r hj hr0, e, show ¬ j = b from fun e' => e e'.symm]
        · have hc := cellN_some (n := .s 4) (j := b) (show 0 < L.length by omega)
          have hrow := n2 b L hTb (by omega)
          have fx := And.intro h1 <| And.intro hp1 <| And.intro h3 <| And.intro h4 <| And.intro n1 <| And.intro h5 <| And.intro h28 <| And.intro h27 <| And.intro hil <| And.intro hbl <| And.intro hTb <| And.intro hTE <| And.intro hTbl <| And.intro hc <| hrow
          refine k_run ?_
          clear fx
          have hput := ntRows_put (n := .s 4) (m := .s 44) (T := T) (b := b) (L := L ++ [(i : Int)]) (f := mv (.s 44) (.c (.s 4) b 0)) hTbl (by simp) (fun j hj => by simp [hj]) (by simp)
          simp only [List.length_append, List.length_singleton] at hput
          refine ⟨k.body.length - (i + 1), by omega, i + 1, T.set b (L ++ [(i : Int)]), rfl, by omega, hTk, by simp [h1], by simp [hp1], by simp [h3], ⟨by simp [t21], fun j r hj => by simp [t22 j r hj]⟩, by simp [h4], ⟨?_, fun j r hj hr0 => ?_⟩, by simp [h18], by simp [h19], by simp [h20], by simp [h5], by simp [h27], by simp; exact wrp (by omega) (by omega)⟩
          · simp [hput]
          · rw [List.getElem?_set] at hj
            split at hj
            · rename_i e
              subst e
              obtain rfl := Option.some.inj hj
              simp
            · rename_i e
              simp [n2 j r hj hr0, e, show ¬ j = b from fun e' => e e'.symm]
    · obtain rfl : i = k.body.length := by omega
      have fx := And.intro h18 <| And.intro h19 <| And.intro h20 <| And.intro h27 <| And.intro h28 <| hil
      refine k_run ?_
      clear fx
      exact ⟨p.length - (b + 1), by omega, b + 1, T, rfl, by omega, hT.next hk, by simp [h1], by simp [hp1], by simp [h3], ⟨by simp [t21], fun j r hj => by simp [t22 j r hj]⟩, by simp [h4], ⟨by simp [n1], fun j r hj h0 => by simp [n2 j r hj h0]⟩, by simp [h18], by simp [h19], by simp; exact wrp (by omega) (by omega)⟩
  · obtain rfl : b = p.length := by omega
    obtain rfl := hT.done
    have fx := And.intro h4 <| And.intro n1 <| And.intro h19 <| And.intro h20 <| hbl
    refine k_run ?_
    clear fx
    refine e_ret [(.s 2, root)] (.one rfl) (by simp; rfl) ⟨by simp, ⟨?_, fun j r hj h0 => by simp [n2 j r hj h0]⟩⟩
    simp [n1, -List.map_map]
    rw [ntRows_fix (n := .s 4) (m := .s 2) (by simp), ntRows_fix (n := .s 2) (m := root) (by simp)]
end Go.Proofs.YtcbkblboonkfhaaGreat
end
