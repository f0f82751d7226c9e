/-
  Own texts, joined by mkclaim.py: Lc, Ld, Wi, Wj, Lr, Jz.
-/
import Derived.Test.YtcbkblboonkfhaaGreatW28
import Derived.Test.YtcbkblboonkfhaaGreatW11
import Derived.Test.YtcbkblboonkfhaaGreatW15
import Derived.Test.YtcbkblboonkfhaaGreatW21
import Derived.Test.YtcbkblboonkfhaaGreatW27
import Derived.Test.YtcbkblboonkfhaaGreatW17
import Derived.WalkKit
import Derived.ProofKit
import Derived.OpenShut
import Derived.Test.YtcbkblboonkfhaaGreatProg
import Derived.Test.YtcbkblboonkfhaaGreatChecked
import Derived.KernelRfl
set_option linter.unusedSimpArgs false
set_option linter.unusedVariables false
set_option maxRecDepth 100000
set_option maxHeartbeats 4000000

section
namespace Go.Proofs.YtcbkblboonkfhaaGreat
open Go Go.Hm Go.Proofs
theorem markIntS_fn (gl) (H : Nm → Option AO) (xs : List Int) (c : Int) (hH : H (.u 1 0 0) = some (.row 1 (irows xs))) (hc : 0 ≤ c ∧ c ≤ 1152921504606846976) (hx : xs.length ≤ 1048576) :
    FnE Tryz.prog gl 94 (Nm.under (.u 1 0 0)) [.hs (.u 1 0 0) 1 0 xs.length, iv c] H (fun _ y H' => y = iv (c + xs.length) ∧ H' (.u 1 0 0) = some (.row 1 (irows (markI xs.length c)))) noE := by
  refine FnE.of_sem Tryz.func94 rfl (by kernel_rfl) (rs := [.tmp 4]) rfl Tryz.ntmps94 (Nat.le_of_ble_eq_true rfl) (fun _ => under_usroot rfl) fun C w g root hroot => ?_
  all_goals have fx := fx0
  repeat' (first
   | refine w_seq ?_ | refine w_block ?_ | refine w_reg fun K hK => ?_
   | ((with_reducible refine s_end hK ?_); clear hK K)
   | (with_reducible first | refine s_none ?_ | refine x_assign (h := ?_))
   | fail)
  all_goals try clear fx
  refine w_loop (fun n st => ∃ i : Nat, n = xs.length - i ∧ i ≤ xs.length ∧ st.tm 0 = .hs (.u 1 0 0) 1 0 xs.length ∧ st.tm 1 = iv (c + i) ∧ st.hp (.u 1 0 0) = some (.row 1 (irows (markI i c ++ xs.drop i))) ∧ st.tm 5 = iv i) xs.length ?_ ?_
  · exact ⟨0, by simp, by simp, by simp, by simp, by simp [hH, markI], by simp⟩
  rintro n st - - ⟨i, rfl, hi, h0, h1, hp0, h5⟩
  all_goals have fx := And.intro h0 <| h5
  repeat' (first
   | refine w_seq ?_ | refine w_reg fun K hK => ?_
   | ((with_reducible refine s_end hK ?_); clear hK K)
   | (with_reducible first | refine then_normal ?_)
   | (with_reducible first | refine s_none ?_)
   | (with_reducible refine x_q (h := ?_))
   | fail)
  all_goals try clear fx
  refine w_if (by simp []; first | done | rfl | exact (Bool.not_not _).symm) (fun ht => ?_) (fun hf => ?_)
  · have hlt : i < xs.length := by simpa using ht
    have hset := markI_set (c := c) hlt
    have hll : (markI i c ++ xs.drop i).length = xs.length := by simp; omega
    clear ht
    all_goals have fx := And.intro h0 <| And.intro h1 <| And.intro hp0 <| And.intro h5 <| And.intro hlt <| hll
    repeat' (first
     | refine w_seq ?_ | refine w_block ?_ | refine w_skip ?_ | refine w_reg fun K hK => ?_
     | ((with_reducible refine s_end hK ?_); clear hK K)
     | (with_reducible first | refine then_normal ?_)
     | (with_reducible first | refine s_none ?_ | refine x_assign (h := ?_) | refine x_store0 (h := ?_))
     | (with_reducible refine x_q (h := ?_))
     | fail)
    all_goals try clear fx
    refine ⟨xs.length - (i + 1), by omega, i + 1, rfl, by omega, by simp [h0], ?_, by simp [← hset], by simp; exact wrp (by omega) (by omega)⟩
    simp
    rw [wrp (by omega) (by omega)]
    omega
  · have hge : i = xs.length := by
      have : ¬ i < xs.length := by simpa using hf
      omega
    subst hge
    rw [List.drop_length, List.append_nil] at hp0
    all_goals have fx :=  h1
    repeat' (first
     | refine w_seq ?_ | refine w_reg fun K hK => ?_
     | ((with_reducible refine s_end hK ?_); clear hK K)
     | (with_reducible first | refine then_normal ?_)
     | refine w_exit ?_
     | refine w_ret ?_
     | (with_reducible first | refine s_none ?_ | refine x_assign (h := ?_))
     | (with_reducible refine x_q (h := ?_))
     | fail)
    all_goals try clear fx
    refine e_ret [] .nil (by simp; rfl) ⟨by simp, by simp [hp0]⟩
theorem markStmtS_fn (gl) (H : Nm → Option AO) (xs : List Stm) (c : Int) (hH : H (.u 1 0 0) = some (.row 4 (srows xs))) (hc : 0 ≤ c ∧ c ≤ 1152921504606846976) (hx : xs.length ≤ 1048576) :
    FnE Tryz.prog gl 142 (Nm.under (.u 1 0 0)) [.hs (.u 1 0 0) 4 0 xs.length, iv c] H (fun _ y H' => y = iv (c + 4 * xs.length) ∧ H' (.u 1 0 0) = some (.row 4 (srows (markS xs.length c)))) noE := by
  refine FnE.of_sem Tryz.func142 rfl (by kernel_rfl) (rs := [.tmp 4]) rfl Tryz.ntmps142 (Nat.le_of_ble_eq_true rfl) (fun _ => under_usroot rfl) fun C w g root hroot => ?_
  all_goals have fx := fx0
  repeat' (first
   | refine w_seq ?_ | refine w_block ?_ | refine w_reg fun K hK => ?_
   | ((with_reducible refine s_end hK ?_); clear hK K)
   | (with_reducible first | refine s_none ?_ | refine x_assign (h := ?_))
   | fail)
  all_goals try clear fx
  refine w_loop (fun n st => ∃ i : Nat, n = xs.length - i ∧ i ≤ xs.length ∧ st.tm 0 = .hs (.u 1 0 0) 4 0 xs.length ∧ st.tm 1 = iv (c + 4 * i) ∧ st.hp (.u 1 0 0) = some (.row 4 (srows (markS i c ++ xs.drop i))) ∧ st.tm 5 = iv i) xs.length ?_ ?_
  · exact ⟨0, by simp, by simp, by simp, by simp, by simp [hH, markS], by simp⟩
  rintro n st - - ⟨i, rfl, hi, h0, h1, hp0, h5⟩
  all_goals have fx := And.intro h0 <| h5
  repeat' (first
   | refine w_seq ?_ | refine w_reg fun K hK => ?_
   | ((with_reducible refine s_end hK ?_); clear hK K)
   | (with_reducible first | refine then_normal ?_)
   | (with_reducible first | refine s_none ?_)
   | (with_reducible refine x_q (h := ?_))
   | fail)
  all_goals try clear fx
  refine w_if (by simp []; first | done | rfl | exact (Bool.not_not _).symm) (fun ht => ?_) (fun hf => ?_)
  · have hlt : i < xs.length := by simpa using ht
    have hset := markS_set (c := c) hlt
    have hll : (markS i c ++ xs.drop i).length = xs.length := by simp; omega
    have hs4 := srows_set4 (L := markS i c ++ xs.drop i) (i := i) (a := c + 4 * i) (b := c + 4 * i + 1) (d := c + 4 * i + 2) (e := c + 4 * i + 3) (by omega)
    rw [hset] at hs4
    obtain ⟨v0, hv0⟩ : ∃ v, v = c + 4 * (i : Int) := ⟨_, rfl⟩
    rw [← hv0] at h1 hs4
    obtain ⟨v1, hv1⟩ : ∃ v, v = v0 + 1 := ⟨_, rfl⟩
    obtain ⟨v2, hv2⟩ : ∃ v, v = v1 + 1 := ⟨_, rfl⟩
    obtain ⟨v3, hv3⟩ : ∃ v, v = v2 + 1 := ⟨_, rfl⟩
    have hw1 : IntKind.i64.wrap (v0 + 1) = v1 := by rw [hv1]; exact wrp (by omega) (by omega)
    have hw2 : IntKind.i64.wrap (v1 + 1) = v2 := by rw [hv2]; exact wrp (by omega) (by omega)
    have hw3 : IntKind.i64.wrap (v2 + 1) = v3 := by rw [hv3]; exact wrp (by omega) (by omega)
    have hw4 : IntKind.i64.wrap (v3 + 1) = v3 + 1 := wrp (by omega) (by omega)
    rw [← hv1, show v0 + 2 = v2 by omega, show v0 + 3 = v3 by omega] at hs4
    generalize markS i c ++ xs.drop i = L at hp0 hll hs4
    clear ht hset
    all_goals have fx := And.intro h0 <| And.intro h1 <| And.intro hp0 <| And.intro h5 <| And.intro hlt <| And.intro hll <| And.intro hw1 <| And.intro hw2 <| hw3
    repeat' (first
     | refine w_seq ?_ | refine w_block ?_ | refine w_skip ?_ | refine w_reg fun K hK => ?_
     | ((with_reducible refine s_end hK ?_); clear hK K)
     | (with_reducible first | refine then_normal ?_)
     | (with_reducible first | refine s_none ?_ | refine x_assign (h := ?_) | refine x_store0 (h := ?_))
     | (with_reducible refine x_q (h := ?_))
     | fail)
    all_goals try clear fx
    refine ⟨xs.length - (i + 1), by omega, i + 1, rfl, by omega, by simp [h0], ?_, by simp [hw1, hw2, hw3, hs4], by simp; exact wrp (by omega) (by omega)⟩
    simp [hw1, hw2, hw3, hw4]
    omega
  · have hge : i = xs.length := by
      have : ¬ i < xs.length := by simpa using hf
      omega
    subst hge
    rw [List.drop_length, List.append_nil] at hp0
    all_goals have fx :=  h1
    repeat' (first
     | refine w_seq ?_ | refine w_reg fun K hK => ?_
     | ((with_reducible refine s_end hK ?_); clear hK K)
     | (with_reducible first | refine then_normal ?_)
     | refine w_exit ?_
     | refine w_ret ?_
     | (with_reducible first | refine s_none ?_ | refine x_assign (h := ?_))
     | (with_reducible refine x_q (h := ?_))
     | fail)
    all_goals try clear fx
    refine e_ret [] .nil (by simp; rfl) ⟨by simp, by simp [hp0]⟩
theorem markBlockS_fn (gl) (H : Nm → Option AO) (p : Prg) (c : Int) (hs : Sml p) (hO : OwnP H (.u 0 0 0) p) (hV : H (.u 1 0 0) = none) (hc : 0 ≤ c ∧ c ≤ 1024) :
    FnE Tryz.prog gl 93 (Nm.under (.u 0 0 0)) [.hs (.u 0 0 0) 4 0 p.length, iv c] H (fun _ y H' => y = iv (c + cnt p) ∧ OwnP H' (.u 0 0 0) (markP p c)) noE := by
  have hpl := hs.len
  obtain ⟨ha1, ha2, ha3⟩ := hO
  refine FnE.of_sem Tryz.func93 rfl (by kernel_rfl) (rs := [.tmp 4]) rfl Tryz.ntmps93 (Nat.le_of_ble_eq_true rfl) (fun _ => under_usroot rfl) fun C w g root hroot => ?_
  all_goals have fx := fx0
  repeat' (first
   | refine w_seq ?_ | refine w_block ?_ | refine w_reg fun K hK => ?_
   | ((with_reducible refine s_end hK ?_); clear hK K)
   | (with_reducible first | refine s_none ?_ | refine x_assign (h := ?_))
   | fail)
  all_goals try clear fx
  refine w_loop (fun n st => ∃ i : Nat, n = p.length - i ∧ i ≤ p.length ∧ st.tm 0 = .hs (.u 0 0 0) 4 0 p.length ∧ st.tm 1 = iv (c + cntTo p i) ∧ OwnP st.hp (.u 0 0 0) (markTo p c i) ∧ st.tm 5 = iv i) p.length ?_ ?_
  · refine ⟨0, by simp, by simp, by simp, by simp [cntTo], ?_, by simp⟩
    rw [markTo_zero]
    exact ⟨by simp [ha1], fun j k hk => by simp [ha2 j k hk], fun j k hk => by simp [ha3 j k hk]⟩
  rintro n st - - ⟨i, rfl, hi, h0, h1, ⟨ho1, ho2, ho3⟩, h5⟩
  all_goals have fx := And.intro h0 <| h5
  repeat' (first
   | refine w_seq ?_ | refine w_reg fun K hK => ?_
   | ((with_reducible refine s_end hK ?_); clear hK K)
   | (with_reducible first | refine then_normal ?_)
   | (with_reducible first | refine s_none ?_)
   | (with_reducible refine x_q (h := ?_))
   | fail)
  all_goals try clear fx
  refine w_if (by simp []; first | done | rfl | exact (Bool.not_not _).symm) (fun ht => ?_) (fun hf => ?_)
  · have hlt : i < p.length := by simpa using ht
    obtain ⟨k, hk⟩ : ∃ k, p[i]? = some k := ⟨_, gE hlt⟩
    obtain ⟨hkp, hkb⟩ := hs.bsm hk
    have hcl := cntTo_le hs i
    have hcg := cntTo_get hk
    have hmg := markTo_get (c := c) (i := i) hk
    rw [if_neg (Nat.lt_irrefl i)] at hmg
    have hp2 := ho2 i k hmg
    have hp3 := ho3 i k hmg
    have hKP := pRows_setKP (n := .u 0 0 0) (q := markTo p c i) (i := i) (a := c + cntTo p i) (b := c + cntTo p i + 1)
    have hmk := pRows_mark (n := .u 0 0 0) (c := c) hk
    rw [hmk] at hKP
    have hng := markTo_get (c := c) (i := i + 1) hk
    rw [if_pos (Nat.lt_succ_self i)] at hng
    obtain ⟨_, hnge⟩ := gS hng
    obtain ⟨v0, hv0⟩ : ∃ v, v = c + (cntTo p i : Int) := ⟨_, rfl⟩
    rw [← hv0] at h1 hKP
    obtain ⟨v1, hv1⟩ : ∃ v, v = v0 + 1 := ⟨_, rfl⟩
    obtain ⟨v2, hv2⟩ : ∃ v, v = v1 + 1 := ⟨_, rfl⟩
    rw [← hv1] at hKP
    have hw1 : IntKind.i64.wrap (v0 + 1) = v1 := by rw [hv1]; exact wrp (by omega) (by omega)
    have hw2 : IntKind.i64.wrap (v1 + 1) = v2 := by rw [hv2]; exact wrp (by omega) (by omega)
    have hml : (markTo p c i).length = p.length := by simp
    have hml' : (markTo p c (i + 1)).length = p.length := by simp
    have hmp : (markBlk k (c + cntTo p i)).params.length = k.params.length := by simp [markBlk]
    have hmb : (markBlk k (c + cntTo p i)).body.length = k.body.length := by simp [markBlk]
    clear ht
    all_goals have fx := And.intro h0 <| And.intro h1 <| And.intro ho1 <| And.intro h5 <| And.intro hlt <| And.intro hw1 <| And.intro hw2 <| And.intro hKP <| And.intro hml <| And.intro hml' <| And.intro hng <| And.intro hnge <| And.intro hmp <| hmb
    repeat' (first
     | refine w_seq ?_ | refine w_block ?_ | refine w_skip ?_ | refine w_reg fun K hK => ?_
     | ((with_reducible refine s_end hK ?_); clear hK K)
     | (with_reducible first | refine s_none ?_ | refine x_assign (h := ?_) | refine x_store0 (h := ?_))
     | (with_reducible refine x_q (h := ?_))
     | fail)
    all_goals try clear fx
    have hx1 : (ctx0 Tryz.prog C w g H Tryz.f93.ntmps gl).ext (.u 1 0 0) = false := by simp [ctx0, hV]
    have fx := And.intro h0 <| And.intro h1 <| And.intro h5 <| And.intro hw2 hmp
    refine x_mutc (.c (.u 0 0 0) i 2) (.u 1 0 0) (hext := hx1) (hs := by simp [hp2]) (hF := markIntS_fn _ _ k.params v2 (by simp [hp2]) (by omega) hkp) (h := ?_)
    rintro y H1 ⟨rfl, hy1⟩
    clear fx
    all_goals have fx := And.intro h0 <| And.intro h1 <| And.intro ho1 <| And.intro h5 <| And.intro hlt <| And.intro hw1 <| And.intro hw2 <| And.intro hKP <| And.intro hml <| And.intro hml' <| And.intro hng <| And.intro hnge <| And.intro hmp <| hmb
    repeat' (first
     | refine w_reg fun K hK => ?_
     | ((with_reducible refine s_end hK ?_); clear hK K)
     | (with_reducible first | refine s_none ?_ | refine x_assign (h := ?_))
     | (with_reducible refine x_q (h := ?_))
     | fail)
    all_goals try clear fx
    have fx := And.intro h0 <| And.intro h1 <| And.intro h5 <| And.intro hw2 <| And.intro hmp hmb
    refine x_mutc (.c (.u 0 0 0) i 3) (.u 1 0 0) (hext := hx1) (hs := by simp [hp3]) (hF := markStmtS_fn _ _ k.body (v2 + k.params.length) (by simp [hp3]) (by omega) hkb) (h := ?_)
    rintro y H2 ⟨rfl, hy2⟩
    clear fx
    all_goals have fx := And.intro h0 <| And.intro h1 <| h5
    repeat' (first
     | refine w_reg fun K hK => ?_
     | ((with_reducible refine s_end hK ?_); clear hK K)
     | (with_reducible first | refine then_normal ?_)
     | (with_reducible first | refine s_none ?_ | refine x_assign (h := ?_))
     | (with_reducible refine x_q (h := ?_))
     | fail)
    all_goals try clear fx
    have hcb : (cntB k : Int) = 2 + k.params.length + 4 * k.body.length := by simp only [cntB]; omega
    refine ⟨p.length - (i + 1), by omega, i + 1, rfl, by omega, by simp [h0], ?_, ⟨?_, fun j r hj => ?_, fun j r hj => ?_⟩, by simp [h5]; exact wrp (by omega) (by omega)⟩
    · simp
      rw [hcg]
      omega
    · simp [ho1, hw1, hw2, hKP]
    · obtain ⟨q, hq, rfl⟩ := markTo_params hj
      by_cases hji : j = i
      · subst hji
        rw [hk] at hq
        obtain rfl := Option.some.inj hq
        rw [if_pos (Nat.lt_succ_self j)]
        have : v2 = c + cntTo p j + 2 := by omega
        simp [markBlk, hy1, this]
      · have hjo := ho2 j _ (markTo_get (c := c) (i := i) hq)
        by_cases hlj : j < i
        · rw [if_pos hlj] at hjo
          rw [if_pos (by omega)]
          simp [hjo, hji]
        · rw [if_neg hlj] at hjo
          rw [if_neg (by omega)]
          simp [hjo, hji]
    · obtain ⟨q, hq, rfl⟩ := markTo_params hj
      by_cases hji : j = i
      · subst hji
        rw [hk] at hq
        obtain rfl := Option.some.inj hq
        rw [if_pos (Nat.lt_succ_self j)]
        have : v2 = c + cntTo p j + 2 := by omega
        simp [markBlk, hy2, this]
      · have hjo := ho3 j _ (markTo_get (c := c) (i := i) hq)
        by_cases hlj : j < i
        · rw [if_pos hlj] at hjo
          rw [if_pos (by omega)]
          simp [hjo, hji]
        · rw [if_neg hlj] at hjo
          rw [if_neg (by omega)]
          simp [hjo, hji]
  · have hge : i = p.length := by
      have : ¬ i < p.length := by simpa using hf
      omega
    subst hge
    all_goals have fx :=  h1
    repeat' (first
     | refine w_seq ?_ | refine w_reg fun K hK => ?_
     | ((with_reducible refine s_end hK ?_); clear hK K)
     | (with_reducible first | refine then_normal ?_)
     | refine w_exit ?_
     | refine w_ret ?_
     | (with_reducible first | refine s_none ?_ | refine x_assign (h := ?_))
     | (with_reducible refine x_q (h := ?_))
     | fail)
    all_goals try clear fx
    refine e_ret [] .nil (by simp; rfl) ⟨by simp [cnt], ⟨?_, fun j r hj => ?_, fun j r hj => ?_⟩⟩
    · simp [ho1, markP, pRows_tr (n := .u 0 0 0) (m := .u 0 0 0) (f := finf (Nm.under (.u 0 0 0)) []) (p := markTo p c p.length) (by simp)]
    · have := ho2 j r hj
      simp [this]
    · have := ho3 j r hj
      simp [this]
theorem markProgram_fn (gl) (H : Nm → Option AO) (p : Prg) (c : Int) (hs : Sml p) (hO : OwnP H (.u 0 0 0) p) (hV : H (.u 1 0 0) = none) (hc : 0 ≤ c ∧ c ≤ 1024) :
    FnE Tryz.prog gl 38 (Nm.under (.u 0 0 0)) [.agg [.hs (.u 0 0 0) 4 0 p.length], iv c] H (fun _ y H' => y = iv (c + cnt p) ∧ OwnP H' (.u 0 0 0) (markP p c)) noE := by
  obtain ⟨ha1, ha2, ha3⟩ := hO
  refine FnE.of_sem Tryz.func38 rfl (by kernel_rfl) (rs := [.tmp 4]) rfl Tryz.ntmps38 (Nat.le_of_ble_eq_true rfl) (fun _ => under_usroot rfl) fun C w g root hroot => ?_
  all_goals have fx := fx0
  repeat' (first
   | refine w_seq ?_ | refine w_reg fun K hK => ?_
   | ((with_reducible refine s_end hK ?_); clear hK K)
   | (with_reducible first | refine s_none ?_ | refine x_assign (h := ?_) | refine x_box (h := ?_))
   | (with_reducible refine x_q (h := ?_))
   | fail)
  all_goals try clear fx
  have fx := fx0
  refine x_mut (.u 0 0 0) rfl (fun _ => by simp [ha1]) (hF := markBlockS_fn _ _ p c hs ⟨by simp [ha1], fun j r hj => by simp [ha2 j r hj], fun j r hj => by simp [ha3 j r hj]⟩ (by simp) hc) (h := ?_)
  rintro y H' ⟨rfl, ⟨ho1, ho2, ho3⟩⟩
  clear fx
  all_goals have fx := fx0
  repeat' (first
   | refine w_seq ?_ | refine w_reg fun K hK => ?_
   | ((with_reducible refine s_end hK ?_); clear hK K)
   | (with_reducible first | refine then_normal ?_)
   | refine w_ret ?_
   | (with_reducible first | refine s_none ?_ | refine x_assign (h := ?_))
   | (with_reducible refine x_q (h := ?_))
   | fail)
  all_goals try clear fx
  refine e_ret [] .nil (by simp; rfl) ⟨by simp, ⟨?_, fun j r hj => ?_, fun j r hj => ?_⟩⟩
  · simp [ho1, pRows_tr (n := .u 0 0 0) (m := .u 0 0 0) (f := finf (Nm.under (.u 0 0 0)) []) (p := markP p c) (by simp)]
  · simp [ho2 j r hj]
  · simp [ho3 j r hj]
theorem heldIntS_fn (gl) (m : Nat) (c : Int) (hc : 0 ≤ c ∧ c ≤ 1152921504606846976) (hm : m ≤ 1048576) : FnOk Tryz.prog gl 95 [isl (markI m c), iv c] (fun _ y _ => y = iv (c + m)) := by
  have hml : (markI m c).length = m := markI_len
  refine FnOk.of_sem Tryz.func95 rfl (by kernel_rfl) (rs := [.tmp 4]) rfl Tryz.ntmps95 (Nat.le_of_ble_eq_true rfl) fun C w g root => ?_
  all_goals have fx := fx0
  repeat' (first
   | refine w_seq ?_ | refine w_block ?_ | refine w_reg fun K hK => ?_
   | ((with_reducible refine s_end hK ?_); clear hK K)
   | (with_reducible first | refine s_none ?_ | refine x_assign (h := ?_))
   | fail)
  all_goals try clear fx
  refine w_loop (fun n st => ∃ i : Nat, n = m - i ∧ i ≤ m ∧ st.tm 0 = isl (markI m c) ∧ st.tm 1 = iv (c + i) ∧ st.tm 5 = iv i) m ⟨0, by simp⟩ ?_
  rintro n st - - ⟨i, rfl, hi, h0, h1, h5⟩
  all_goals have fx := And.intro h0 <| h5
  repeat' (first
   | refine w_seq ?_ | refine w_reg fun K hK => ?_
   | ((with_reducible refine s_end hK ?_); clear hK K)
   | (with_reducible first | refine then_normal ?_)
   | (with_reducible first | refine s_none ?_)
   | (with_reducible refine x_q (h := ?_))
   | fail)
  all_goals try clear fx
  refine w_if (by simp []; first | done | rfl | exact (Bool.not_not _).symm) (fun ht => ?_) (fun hf => ?_)
  · have hlt : i < m := by simpa using ht
    have hg : (markI m c)[i]? = some (c + i) := by simp [markI, hlt]
    clear ht
    all_goals have fx := And.intro h0 <| And.intro h1 <| And.intro h5 <| And.intro hg <| @bne_def
    repeat' (first
     | refine w_seq ?_ | refine w_block ?_ | refine w_skip ?_ | refine w_reg fun K hK => ?_
     | ((with_reducible refine s_end hK ?_); clear hK K)
     | (with_reducible first | refine then_normal ?_)
     | (with_reducible first | refine s_none ?_ | refine x_assign (h := ?_))
     | (with_reducible refine x_q (h := ?_))
     | refine x_condf (h1 := ?_)
     | fail)
    all_goals try clear fx
    refine ⟨m - (i + 1), by omega, i + 1, rfl, by omega, by simp [h0], ?_, by simp; exact wrp (by omega) (by omega)⟩
    simp
    rw [wrp (by omega) (by omega)]
    omega
  · have hge : i = m := by
      have : ¬ i < m := by simpa using hf
      omega
    subst hge
    all_goals have fx :=  h1
    repeat' (first
     | refine w_seq ?_ | refine w_reg fun K hK => ?_
     | ((with_reducible refine s_end hK ?_); clear hK K)
     | (with_reducible first | refine then_normal ?_)
     | refine w_exit ?_
     | refine w_ret ?_
     | (with_reducible first | refine s_none ?_ | refine x_assign (h := ?_))
     | (with_reducible refine x_q (h := ?_))
     | fail)
    all_goals try clear fx
    refine e_ret [] .nil (by simp; rfl) (by simp)
end Go.Proofs.YtcbkblboonkfhaaGreat
end
section
namespace Go.Proofs.YtcbkblboonkfhaaGreat
open Go Go.Hm Go.Proofs
abbrev qsWi0 : Sch := .q 0 <| .q 1 <| .q 2 <| .q 3 <| .q 4 <| .q 5 <| .q 6 <| .q 7 <| .l 8 [6, 5, 4, 2, 1, 0] <| .q 9 <| .done
structure VwsSm (vs : List Vw) : Prop where
  len : vs.length ≤ 1000
  each : ∀ v ∈ vs, v.names.length ≤ 8 ∧ v.vals.length ≤ 8
theorem VwsSm.cnt {vs : List Vw} (h : VwsSm vs) (i : Nat) : cntV (vs.take i) ≤ 17000 := by
  have h1 := cntV_le (l := vs.take i) (a := 17) fun v hv => by
    have := h.each v (List.mem_of_mem_take hv)
    simp only [Vw.cnt]
    omega
  have h2 : (vs.take i).length ≤ 1000 := by have := h.len; simp; omega
  have := Nat.mul_le_mul_right 17 h2
  omega
theorem eqView_fn (gl) (v : Vw) (h1 : v.names.length ≤ 1048576) (h2 : v.vals.length ≤ 1048576) : FnOk Tryz.prog gl 92 [.agg v.row, .agg v.row] (fun _ z _ => z = bv true) := by
  rw [Vw.row_eq]
  refine FnOk.of_sem Tryz.func92 rfl (by kernel_rfl) (rs := [.tmp 4]) rfl Tryz.ntmps92 (Nat.le_of_ble_eq_true rfl) fun C w g root => ?_
  have fx :=  @bne_def
  have c1 := eqIntS_fn gl v.names v.names h1 h1
  have c2 := eqIntS_fn gl v.vals v.vals h2 h2
  refine k_run ?_
  clear fx c1 c2
  refine e_ret [] .nil (by simp; rfl) (by simp)
theorem eqViewS_fn (gl) (vs : List Vw) (hs : VwsSm vs) : FnOk Tryz.prog gl 37 [vsl vs, vsl vs] (fun _ z _ => z = bv true) := by
  have hlen := hs.len
  refine FnOk.of_sem Tryz.func37 rfl (by kernel_rfl) (rs := [.tmp 4]) rfl Tryz.ntmps37 (Nat.le_of_ble_eq_true rfl) fun C w g root => ?_
  have fx :=  @bne_def
  refine k_run ?_
  repeat ((first | refine wSc (id := 6) qsWi0 mixed ?_); refine k_rund ?_; refine k_run ?_)
  clear fx
  refine w_loop (fun n st => ∃ i : Nat, n = vs.length - i ∧ i ≤ vs.length ∧ st.tm 0 = vsl vs ∧ st.tm 1 = vsl vs ∧ st.tm 5 = iv i) vs.length ⟨0, by simp⟩ ?_
  rintro n st - - ⟨i, rfl, hi, h0, h1, h5⟩
  by_cases hil : i < vs.length
  · obtain ⟨v, hv⟩ : ∃ v, vs[i]? = some v := ⟨_, gE hil⟩
    obtain ⟨_, hvE⟩ := gS hv
    have hvm := hs.each v (List.mem_of_getElem? hv)
    have hc := eqView_fn gl v (by omega) (by omega)
    rw [Vw.row_eq] at hc
    have fx := And.intro h0 <| And.intro h1 <| And.intro h5 <| And.intro hil <| And.intro hv <| hvE
    have c1 := hc
    refine k_run ?_
    repeat ((first | refine wSc (id := 6) qsWi0 mixed ?_); refine k_rund ?_; refine k_run ?_)
    clear fx c1
    exact ⟨vs.length - (i + 1), by omega, i + 1, rfl, by omega, by simp [h0], by simp [h1], by simp; exact wrp (by omega) (by omega)⟩
  · skip
    have fx := And.intro h0 <| And.intro h1 <| And.intro h5 <| hil
    refine k_run ?_
    repeat ((first | refine wSc (id := 6) qsWi0 mixed ?_); refine k_rund ?_; refine k_run ?_)
    clear fx
    refine e_ret [] .nil (by simp; rfl) (by simp)
theorem heldViewS_fn (gl) (vs : List Vw) (c : Int) (hs : VwsSm vs) (hc : 0 ≤ c ∧ c ≤ 1024) : FnOk Tryz.prog gl 40 [vsl (markV vs c), iv c] (fun _ z _ => z = iv (c + cntV vs)) := by
  have hlen := hs.len
  have hml : (markV vs c).length = vs.length := markV_len
  refine FnOk.of_sem Tryz.func40 rfl (by kernel_rfl) (rs := [.tmp 4]) rfl Tryz.ntmps40 (Nat.le_of_ble_eq_true rfl) fun C w g root => ?_
  have fx := fx0
  refine k_run ?_
  clear fx
  refine w_loop (fun n st => ∃ i : Nat, n = vs.length - i ∧ i ≤ vs.length ∧ st.tm 0 = vsl (markV vs c) ∧ st.tm 1 = iv (c + cntV (vs.take i)) ∧ st.tm 5 = iv i) vs.length ⟨0, by omega, by omega, by simp, by simp [cntV], by simp⟩ ?_
  rintro n st - - ⟨i, rfl, hi, h0, h1, h5⟩
  by_cases hil : i < vs.length
  · obtain ⟨v, hv⟩ : ∃ v, vs[i]? = some v := ⟨_, gE hil⟩
    have hvm := hs.each v (List.mem_of_getElem? hv)
    have hg := markV_at (c := c) hv
    have hcl := hs.cnt i
    have hst := cntV_step hv
    have hcv : v.cnt = 1 + v.names.length + v.vals.length := rfl
    simp only [Vw.mark] at hg
    obtain ⟨v0, hv0⟩ : ∃ v, v = c + (cntV (vs.take i) : Int) := ⟨_, rfl⟩
    obtain ⟨v1, hv1⟩ : ∃ v, v = v0 + 1 := ⟨_, rfl⟩
    obtain ⟨v2, hv2⟩ : ∃ u, u = v1 + (v.names.length : Int) := ⟨_, rfl⟩
    have hw1 : IntKind.i64.wrap (v0 + 1) = v1 := by rw [hv1]; exact wrp (by omega) (by omega)
    rw [← hv0] at h1 hg
    rw [← hv1, ← hv2] at hg
    obtain ⟨_, hgE⟩ := gS hg
    have hn1 : ¬ v2 < 0 := by omega
    have hn2 : ¬ v2 + (v.vals.length : Int) < 0 := by omega
    have q1 := heldIntS_fn gl v.names.length v1 (by omega) (by omega)
    rw [← hv2] at q1
    have q2 := heldIntS_fn gl v.vals.length v2 (by omega) (by omega)
    have fx := And.intro h0 <| And.intro h1 <| And.intro h5 <| And.intro hil <| And.intro hml <| And.intro hg <| And.intro hgE <| And.intro hw1 <| And.intro hn1 <| And.intro hn2 <| @bne_def
    have c1 := q1
    have c2 := q2
    refine k_run ?_
    clear fx c1 c2
    refine ⟨vs.length - (i + 1), by omega, i + 1, rfl, by omega, by simp [h0], ?_, by simp [h5]; exact wrp (by omega) (by omega)⟩
    simp
    omega
  · obtain rfl : i = vs.length := by omega
    rw [List.take_length] at h1
    have fx := And.intro h0 <| And.intro h1 <| And.intro h5 <| And.intro hil <| hml
    refine k_run ?_
    clear fx
    refine e_ret [] .nil (by simp; rfl) (by simp)
theorem markViewS_fn (gl) (H : Nm → Option AO) (vs : List Vw) (c : Int) (hs : VwsSm vs) (hO : OwnVs H (.u 0 0 0) vs) (hV : H (.u 1 0 0) = none) (hc : 0 ≤ c ∧ c ≤ 1024) :
    FnE Tryz.prog gl 39 (Nm.under (.u 0 0 0)) [.hs (.u 0 0 0) 3 0 vs.length, iv c] H (fun _ y H' => y = iv (c + cntV vs) ∧ OwnVs H' (.u 0 0 0) (markV vs c)) noE := by
  have hlen := hs.len
  obtain ⟨ha1, ha2⟩ := hO
  refine FnE.of_sem Tryz.func39 rfl (by kernel_rfl) (rs := [.tmp 4]) rfl Tryz.ntmps39 (Nat.le_of_ble_eq_true rfl) (fun _ => under_usroot rfl) fun C w g root hroot => ?_
  have fx := fx0
  refine k_run ?_
  clear fx
  refine w_loop (fun n st => ∃ i : Nat, n = vs.length - i ∧ i ≤ vs.length ∧ st.tm 0 = .hs (.u 0 0 0) 3 0 vs.length ∧ st.tm 1 = iv (c + cntV (vs.take i)) ∧ OwnVs st.hp (.u 0 0 0) (markVTo vs c i) ∧ st.tm 5 = iv i) vs.length ?_ ?_
  · refine ⟨0, by simp, by simp, by simp, by simp [cntV], ?_, by simp⟩
    rw [markVTo_zero]
    exact ⟨by simp [ha1], fun j k hk => ⟨by simp [(ha2 j k hk).names], by simp [(ha2 j k hk).vals]⟩⟩
  rintro n st - - ⟨i, rfl, hi, h0, h1, ⟨ho1, ho2⟩, h5⟩
  by_cases hil : i < vs.length
  · obtain ⟨v, hv⟩ : ∃ v, vs[i]? = some v := ⟨_, gE hil⟩
    have hvm := hs.each v (List.mem_of_getElem? hv)
    have hcl := hs.cnt i
    have hst := cntV_step hv
    have hcv : v.cnt = 1 + v.names.length + v.vals.length := rfl
    have hat := markVTo_at (c := c) hv
    have hnx := markVTo_next (c := c) hv
    have hset := vwRows_set (n := .u 0 0 0) (w := v.mark (c + cntV (vs.take i))) (b := c + cntV (vs.take i)) hat (by simp) (by simp) (by simp)
    rw [markVTo_step hv] at hset
    obtain ⟨p1, p2⟩ := ho2 i v hat
    obtain ⟨v0, hv0⟩ : ∃ v, v = c + (cntV (vs.take i) : Int) := ⟨_, rfl⟩
    rw [← hv0] at h1 hset hnx
    obtain ⟨v1, hv1⟩ : ∃ v, v = v0 + 1 := ⟨_, rfl⟩
    have hw1 : IntKind.i64.wrap (v0 + 1) = v1 := by rw [hv1]; exact wrp (by omega) (by omega)
    have hml : (markVTo vs c i).length = vs.length := markVTo_len (by omega)
    have hml' : (markVTo vs c (i + 1)).length = vs.length := markVTo_len (by omega)
    obtain ⟨_, hnxE⟩ := gS hnx
    obtain ⟨_, hatE⟩ := gS hat
    have hm1 : (v.mark v0).names.length = v.names.length := by simp
    have hm2 : (v.mark v0).vals.length = v.vals.length := by simp
    have fx := And.intro h0 <| And.intro h1 <| And.intro ho1 <| And.intro h5 <| And.intro hil <| And.intro hw1 <| And.intro hset <| And.intro hml <| And.intro hml' <| And.intro hat <| And.intro hatE <| And.intro hnx <| And.intro hnxE <| And.intro hm1 <| hm2
    refine k_run ?_
    clear fx
    have hx1 : (ctx0 Tryz.prog C w g H Tryz.f39.ntmps gl).ext (.u 1 0 0) = false := by simp [ctx0, hV]
    intro K hK
    have fx := And.intro h0 <| And.intro h1 <| And.intro h5 <| And.intro hw1 hm1
    refine x_mutc (.c (.u 0 0 0) i 1) (.u 1 0 0) (hext := hx1) (hs := by simp [p1]) (hF := markIntS_fn _ _ v.names v1 (by simp [p1]) (by omega) (by omega)) (h := ?_)
    rintro y H1 ⟨rfl, hy1⟩
    clear fx
    have fx := And.intro h0 <| And.intro h1 <| And.intro ho1 <| And.intro h5 <| And.intro hil <| And.intro hw1 <| And.intro hset <| And.intro hml <| And.intro hml' <| And.intro hat <| And.intro hatE <| And.intro hnx <| And.intro hnxE <| And.intro hm1 <| hm2
    refine k_run ?_
    clear fx
    intro K hK
    have fx := And.intro h0 <| And.intro h1 <| And.intro h5 <| And.intro hw1 <| And.intro hm1 hm2
    refine x_mutc (.c (.u 0 0 0) i 2) (.u 1 0 0) (hext := hx1) (hs := by simp [p2]) (hF := markIntS_fn _ _ v.vals (v1 + v.names.length) (by simp [p2]) (by omega) (by omega)) (h := ?_)
    rintro y H2 ⟨rfl, hy2⟩
    clear fx
    have fx := And.intro h0 <| And.intro h1 <| h5
    refine k_run ?_
    clear fx
    refine ⟨vs.length - (i + 1), by omega, i + 1, rfl, by omega, by simp [h0], ?_, ⟨?_, fun j r hj => ?_⟩, by simp [h5]; exact wrp (by omega) (by omega)⟩
    · simp
      omega
    · simp [ho1, hw1, hset, -List.map_map]
    · by_cases hji : j = i
      · subst hji
        rw [hnx] at hj
        obtain rfl := Option.some.inj hj
        exact ⟨by simp [Vw.mark, hy1, hv1], by simp [Vw.mark, hy2, hv1]⟩
      · rw [markVTo_other hji hv] at hj
        obtain ⟨e1, e2⟩ := ho2 j r hj
        exact ⟨by simp [e1, hji], by simp [e2, hji]⟩
  · obtain rfl : i = vs.length := by omega
    rw [List.take_length] at h1
    rw [markVTo_all] at ho1 ho2
    have hml : (markV vs c).length = vs.length := markV_len
    have fx := And.intro h0 <| And.intro h1 <| And.intro h5 <| hil
    refine k_run ?_
    clear fx
    refine e_ret [] .nil (by simp; rfl) ⟨by simp, ⟨?_, fun j r hj => ?_⟩⟩
    · simp [ho1, vwRows_tr (n := .u 0 0 0) (m := .u 0 0 0) (f := finf (Nm.under (.u 0 0 0)) []) (cs := markV vs c) (by simp)]
    · obtain ⟨e1, e2⟩ := ho2 j r hj
      exact ⟨by simp [e1], by simp [e2]⟩
abbrev qsWj0 : Sch := .q 0 <| .q 1 <| .l 2 [0] <| .l 3 [] <| .q 4 <| .done
theorem viewsG_sm {p : Prg} {f : Int} (hs : Sml p) : VwsSm (viewsG p f) := by
  unfold viewsG
  split
  · rename_i h
    obtain ⟨hpo, n, rfl, hn⟩ := fuelOk_of h
    have hm := meantOk (ValP.of hs hpo).sh hn
    have h1 := hm.ok.nstk
    simp only [Int.toNat_natCast]
    refine ⟨by simp only [viewsV, List.length_map]; omega, fun v hv => ?_⟩
    obtain ⟨a, _, rfl⟩ := List.mem_map.1 hv
    have h8 := seenL_len (p := p) (b := (meantW p n).blk a)
    have h2 := vnames_len (l := (seenL p ((meantW p n).blk a)).map fun x => (x, slotV p (meantW p n) a x))
    have h3 := vvals_len (l := (seenL p ((meantW p n).blk a)).map fun x => (x, slotV p (meantW p n) a x))
    simp only [List.length_map] at h2 h3
    exact ⟨Nat.le_trans h2 h8, Nat.le_trans h3 h8⟩
  · exact ⟨by simp, by simp⟩
theorem FnExactViewsByMeaning_fn (gl : Nat → Option (List AV)) (p : Prg) (b : Int) (hb : Big p) : FnOk Tryz.prog gl 8 [pav p, iv b] (fun _ y _ => y = bv true) := by
  refine FnOk.of_sem Tryz.func8 rfl (by kernel_rfl) (rs := [.tmp 4]) rfl Tryz.ntmps8 (Nat.le_of_ble_eq_true rfl) fun C w g root => ?_
  by_cases ht : tot p ≤ 1048576
  case neg =>
    have fx :=  ht
    have c1 := szProgram_fn gl p hb
    refine k_run ?_
    repeat ((first | refine wSc (id := 10) qsWj0 mixed ?_); refine k_rund ?_; refine k_run ?_)
    clear fx c1
    refine e_ret [] .nil (by simp; rfl) (by simp)
  have hs := tot_sml ht
  have hgt : ¬ 1048576 - (tot p : Int) < 0 := by omega
  have hsa := spec_ViewsByMeaning_fn gl p b hs
  have hia := impl_ViewsByMeaning_fn gl p b hs
  have hvs := viewsG_sm (f := b) hs
  generalize viewsG p b = R at hsa hia hvs
  have hRl := hvs.len
  have heq := eqViewS_fn gl R hvs
  have hcR := hvs.cnt R.length
  rw [List.take_length] at hcR
  have hcp := cntTo_le hs p.length
  have hpl := hs.len
  have fx := And.intro ht <| hgt
  have c1 := szProgram_fn gl p hb
  have e1 := toProgram_fn gl p hs
  refine k_run ?_
  repeat ((first | refine wSc (id := 10) qsWj0 mixed ?_); refine k_rund ?_; refine k_run ?_)
  clear fx c1 e1
  rintro K hK y H1 ⟨rfl, hO⟩
  obtain ⟨ho1, ho2, ho3⟩ := hO.hcln
  refine ⟨by simp, ?_⟩
  have fx := And.intro ht <| hgt
  have e1 := hsa
  refine k_run ?_
  repeat ((first | refine wSc (id := 10) qsWj0 mixed ?_); refine k_rund ?_; refine k_run ?_)
  clear fx e1
  rintro y H2 ⟨rfl, hR⟩
  obtain ⟨r1, r2⟩ := hR.hcln
  refine ⟨by simp, ?_⟩
  have fx := And.intro ht <| And.intro hgt <| r1
  refine k_run ?_
  repeat ((first | refine wSc (id := 10) qsWj0 mixed ?_); refine k_rund ?_; refine k_run ?_)
  clear fx
  intro K hK
  refine o_abs (fun st => st.tm 2 = .pt (.s 2) 0 ∧ st.hp (.s 2) = some (.row 1 [[ksl p]]) ∧ st.tm 6 = .hs (.s 6) 3 0 R.length ∧ OwnVs st.hp (.s 6) R ∧ st.tm 1 = iv b ∧ st.tm 22 = pav p) ⟨by simp, by simp, by simp, ⟨by simp [r1], fun q v hq => ⟨by simp [(r2 q v hq).names], by simp [(r2 q v hq).vals]⟩⟩, by simp, by simp⟩ ?_
  clear hO ho1 ho2 ho3 hR r1 r2
  rintro st ⟨h2, hp2, h6, ⟨r1, r2⟩, h1, h22⟩
  have fx := And.intro h2 <| And.intro hp2 <| And.intro h6 <| And.intro h1 <| h22
  have e1 := toProgram_fn gl p hs
  refine k_run ?_
  repeat ((first | refine wSc (id := 10) qsWj0 mixed ?_); refine k_rund ?_; refine k_run ?_)
  clear fx e1
  rintro y H2 ⟨rfl, hO⟩
  obtain ⟨b1, b2, b3⟩ := hO.hcln
  refine ⟨by simp, ?_⟩
  have fx := And.intro h2 <| And.intro hp2 <| And.intro h6 <| And.intro h1 <| b1
  have e1 := hia
  refine k_run ?_
  repeat ((first | refine wSc (id := 10) qsWj0 mixed ?_); refine k_rund ?_; refine k_run ?_)
  clear fx e1
  rintro K hK y H3 ⟨rfl, hR3⟩
  obtain ⟨s1, s2⟩ := hR3.hcln
  refine ⟨by simp, ?_⟩
  have fx := And.intro h2 <| And.intro hp2 <| And.intro h6 <| And.intro h1 <| And.intro b1 <| And.intro r1 <| s1
  refine k_run ?_
  repeat ((first | refine wSc (id := 10) qsWj0 mixed ?_); refine k_rund ?_; refine k_run ?_)
  clear fx
  intro K hK
  refine o_abs (fun st => st.tm 2 = .pt (.s 2) 0 ∧ st.hp (.s 2) = some (.row 1 [[ksl p]]) ∧ st.tm 6 = .hs (.s 6) 3 0 R.length ∧ OwnVs st.hp (.s 6) R ∧ st.tm 1 = iv b ∧ st.tm 7 = .pt (.s 7) 0 ∧ st.hp (.s 7) = some (.row 1 [[.hs (.c (.s 7) 0 0) 4 0 p.length]]) ∧ OwnP st.hp (.c (.s 7) 0 0) p ∧ st.tm 8 = .hs (.s 8) 3 0 R.length ∧ OwnVs st.hp (.s 8) R ∧ st.tm 27 = .hs (.s 8) 3 0 R.length ∧ st.tm 28 = .hs (.s 6) 3 0 R.length)
    ⟨by simp [h2], by simp [hp2], by simp [h6], ⟨by simp [r1], fun q v hq => ⟨by simp [(r2 q v hq).names], by simp [(r2 q v hq).vals]⟩⟩, by simp [h1], by simp, by simp, ⟨by simp [b1, -List.map_map], fun j r hj => by simp [b2 j r hj], fun j r hj => by simp [b3 j r hj]⟩, by simp, ⟨by simp [s1], fun q v hq => ⟨by simp [(s2 q v hq).names], by simp [(s2 q v hq).vals]⟩⟩, by simp, by simp [h6]⟩ ?_
  clear h2 hp2 h6 h1 h22 r1 r2 s1 s2 hO b1 b2 b3 hR3
  rintro st ⟨h2, hp2, h6, ⟨r1, r2⟩, h1, h7, hp7, ⟨b1, b2, b3⟩, h8, ⟨s1, s2⟩, h27, h28⟩
  all_goals have fx := And.intro h2 <| And.intro hp2 <| And.intro h6 <| And.intro h1 <| And.intro h7 <| And.intro hp7 <| And.intro h8 <| And.intro r1 <| And.intro s1 <| And.intro h27 <| h28
  repeat' (first
   | refine w_seq ?_ | refine w_skip ?_
   | ((with_reducible refine s_end hK ?_); clear hK K)
   | (with_reducible first | refine then_normal ?_)
   | (with_reducible refine s_none ?_)
   | ((with_reducible refine o_id 37 rfl ?_); refine x_call (hB := (by first | ((repeat' (first | exact .nil | refine .cons ?_ ?_ | exact .refl _ | exact bw_ints (by simp [fx]; first | done | rfl) (by first | (simp [fx]; done) | (simp [fx]; omega) | omega) | exact bw_list (by simp [fx]; first | done | rfl) (by first | (simp [fx]; done) | (simp [fx]; omega) | omega) (by first | (simp; done) | fail) | exact bw_views (n := .s 8) (vs := R) ⟨by simp [s1], fun q v hq => ⟨by simp [(s2 q v hq).names], by simp [(s2 q v hq).vals]⟩⟩ rfl | exact bw_views (n := .s 6) (vs := R) ⟨by simp [r1], fun q v hq => ⟨by simp [(r2 q v hq).names], by simp [(r2 q v hq).vals]⟩⟩ rfl)); done) | fail)) (hF := heq) (h := ?_))
   | ((with_reducible refine o_id 12 rfl ?_); refine x_callg (hB := (by first | ((repeat' (first | exact .nil | refine .cons ?_ ?_ | exact .refl _ | exact bw_ints (by simp [fx]; first | done | rfl) (by first | (simp [fx]; done) | (simp [fx]; omega) | omega) | exact bw_list (by simp [fx]; first | done | rfl) (by first | (simp [fx]; done) | (simp [fx]; omega) | omega) (by first | (simp; done) | fail) | exact bw_views (n := .s 8) (vs := R) ⟨by simp [s1], fun q v hq => ⟨by simp [(s2 q v hq).names], by simp [(s2 q v hq).vals]⟩⟩ rfl | exact bw_views (n := .s 6) (vs := R) ⟨by simp [r1], fun q v hq => ⟨by simp [(r2 q v hq).names], by simp [(r2 q v hq).vals]⟩⟩ rfl)); done) | fail)) (hF := toProgram_fn gl p hs) (h := ?_))
   | (with_reducible refine x_q (h := ?_))
   | refine x_condf (h1 := ?_)
   | (refine wSc (id := 10) qsWj0 mixed fun K hK => ?_)
   | ((with_reducible refine a_id ?_); first | refine xa_q (h := ?_))
   | refine a_l rfl ?_
   | fail)
  all_goals try clear fx
  rintro y H3 ⟨rfl, hO3⟩
  obtain ⟨ho1, ho2, ho3⟩ := hO3.hcln
  refine ⟨by simp, ?_⟩
  have fx := And.intro h2 <| And.intro hp2 <| And.intro h6 <| And.intro h7 <| And.intro hp7 <| And.intro h8 <| And.intro b1 <| ho1
  have c1 := eqProgram_fn gl p p hs hs
  refine k_run ?_
  repeat ((first | refine wSc (id := 10) qsWj0 mixed ?_); refine k_rund ?_; refine k_run ?_)
  clear fx c1
  intro K hK
  refine o_abs (fun st => st.tm 2 = .pt (.s 2) 0 ∧ st.hp (.s 2) = some (.row 1 [[ksl p]]) ∧ st.tm 6 = .hs (.s 6) 3 0 R.length ∧ OwnVs st.hp (.s 6) R ∧ st.tm 1 = iv b ∧ OwnP st.hp (.c (.s 7) 0 0) p ∧ st.tm 8 = .hs (.s 8) 3 0 R.length ∧ OwnVs st.hp (.s 8) R ∧ st.tm 36 = .agg [.hs (.c (.s 7) 0 0) 4 0 p.length] ∧ st.tm 37 = iv 1)
    ⟨by simp [h2], by simp [hp2], by simp [h6], ⟨by simp [r1], fun q v hq => ⟨by simp [(r2 q v hq).names], by simp [(r2 q v hq).vals]⟩⟩, by simp [h1], ⟨by simp [b1], fun j r hj => by simp [b2 j r hj], fun j r hj => by simp [b3 j r hj]⟩, by simp [h8], ⟨by simp [s1], fun q v hq => ⟨by simp [(s2 q v hq).names], by simp [(s2 q v hq).vals]⟩⟩, by simp, by simp⟩ ?_
  clear h2 hp2 h6 r1 r2 h1 h7 hp7 b1 b2 b3 h8 s1 s2 h27 h28 ho1 ho2 ho3 hO3
  rintro st ⟨h2, hp2, h6, ⟨r1, r2⟩, h1, ⟨b1, b2, b3⟩, h8, ⟨s1, s2⟩, h36, h37⟩
  have fx := And.intro h36 h37
  refine x_mutc (.c (.s 7) 0 0) (.u 0 0 0) (hext := rfl) (hs := by simp [b1]) (hF := markProgram_fn _ _ p 1 hs ⟨by simp [b1], fun j r hj => by simp [b2 j r hj], fun j r hj => by simp [b3 j r hj]⟩ (by simp) (by decide)) (h := ?_)
  rintro y H6 ⟨rfl, ⟨d1, d2, d3⟩⟩
  clear fx
  refine s_abs (fun st => st.tm 2 = .pt (.s 2) 0 ∧ st.hp (.s 2) = some (.row 1 [[ksl p]]) ∧ st.tm 6 = .hs (.s 6) 3 0 R.length ∧ OwnVs st.hp (.s 6) R ∧ st.tm 1 = iv b ∧ st.tm 8 = .hs (.s 8) 3 0 R.length ∧ OwnVs st.hp (.s 8) R ∧ st.tm 38 = iv (1 + cnt p))
    ⟨by simp [h2], by simp [hp2], by simp [h6], ⟨by simp [r1], fun q v hq => ⟨by simp [(r2 q v hq).names], by simp [(r2 q v hq).vals]⟩⟩, by simp [h1], by simp [h8], ⟨by simp [s1], fun q v hq => ⟨by simp [(s2 q v hq).names], by simp [(s2 q v hq).vals]⟩⟩, by simp⟩ ?_
  clear h2 hp2 h6 r1 r2 h1 b1 b2 b3 h8 s1 s2 h36 h37 d1 d2 d3
  rintro st ⟨h2, hp2, h6, ⟨r1, r2⟩, h1, h8, ⟨s1, s2⟩, h38⟩
  have hk1 : ¬ 1 + (cnt p : Int) < 0 := by omega
  all_goals have fx := And.intro h2 <| And.intro hp2 <| And.intro h6 <| And.intro h1 <| And.intro h8 <| And.intro r1 <| And.intro s1 <| And.intro h38 <| hk1
  repeat' (first
   | refine w_seq ?_ | refine w_skip ?_ | refine w_reg fun K hK => ?_
   | ((with_reducible refine s_end hK ?_); clear hK K)
   | (with_reducible first | refine then_normal ?_)
   | (with_reducible refine s_none ?_)
   | ((with_reducible refine g_id ?_); refine x_guard (h := ?_))
   | (with_reducible first | refine gx_ff ?_ | refine x_assign (h := ?_))
   | ((with_reducible refine o_id 37 rfl ?_); refine x_call (hB := (by first | ((repeat' (first | exact .nil | refine .cons ?_ ?_ | exact .refl _ | exact bw_ints (by simp [fx]; first | done | rfl) (by first | (simp [fx]; done) | (simp [fx]; omega) | omega) | exact bw_list (by simp [fx]; first | done | rfl) (by first | (simp [fx]; done) | (simp [fx]; omega) | omega) (by first | (simp; done) | fail) | exact bw_views (n := .s 8) (vs := R) ⟨by simp [s1], fun q v hq => ⟨by simp [(s2 q v hq).names], by simp [(s2 q v hq).vals]⟩⟩ rfl | exact bw_views (n := .s 6) (vs := R) ⟨by simp [r1], fun q v hq => ⟨by simp [(r2 q v hq).names], by simp [(r2 q v hq).vals]⟩⟩ rfl)); done) | fail)) (hF := heq) (h := ?_))
   | (with_reducible refine x_q (h := ?_))
   | refine x_condf (h1 := ?_)
   | fail)
  all_goals try clear fx
  refine o_abs (fun st => st.tm 2 = .pt (.s 2) 0 ∧ st.hp (.s 2) = some (.row 1 [[ksl p]]) ∧ st.tm 6 = .hs (.s 6) 3 0 R.length ∧ OwnVs st.hp (.s 6) R ∧ st.tm 1 = iv b ∧ st.tm 8 = .hs (.s 8) 3 0 R.length ∧ OwnVs st.hp (.s 8) R ∧ st.tm 47 = .hs (.s 8) 3 0 R.length ∧ st.tm 48 = iv 1)
    ⟨by simp [h2], by simp [hp2], by simp [h6], ⟨by simp [r1], fun q v hq => ⟨by simp [(r2 q v hq).names], by simp [(r2 q v hq).vals]⟩⟩, by simp [h1], by simp [h8], ⟨by simp [s1], fun q v hq => ⟨by simp [(s2 q v hq).names], by simp [(s2 q v hq).vals]⟩⟩, by simp [h8], by simp⟩ ?_
  clear h2 hp2 h6 r1 r2 h1 h8 s1 s2 h38
  rintro st ⟨h2, hp2, h6, ⟨r1, r2⟩, h1, h8, ⟨s1, s2⟩, h47, h48⟩
  have fx := And.intro h47 h48
  refine x_mutc (.s 8) (.u 0 0 0) (hext := rfl) (hs := by simp [s1]) (hF := markViewS_fn _ _ R 1 hvs ⟨by simp [s1], fun q v hq => ⟨by simp [(s2 q v hq).names], by simp [(s2 q v hq).vals]⟩⟩ (by simp) (by decide)) (h := ?_)
  rintro y H7 ⟨rfl, ⟨m1, m2⟩⟩
  clear fx
  have hml : (markV R 1).length = R.length := markV_len
  refine s_abs (fun st => st.tm 2 = .pt (.s 2) 0 ∧ st.hp (.s 2) = some (.row 1 [[ksl p]]) ∧ st.tm 6 = .hs (.s 6) 3 0 R.length ∧ OwnVs st.hp (.s 6) R ∧ st.tm 1 = iv b ∧ st.tm 8 = .hs (.s 8) 3 0 R.length ∧ OwnVs st.hp (.s 8) (markV R 1) ∧ st.tm 49 = iv (1 + cntV R))
    ⟨by simp [h2], by simp [hp2], by simp [h6], ⟨by simp [r1], fun q v hq => ⟨by simp [(r2 q v hq).names], by simp [(r2 q v hq).vals]⟩⟩, by simp [h1], by simp [h8], ⟨by simp [m1], fun q v hq => ⟨by simp [(m2 q v hq).names], by simp [(m2 q v hq).vals]⟩⟩, by simp⟩ ?_
  clear h2 hp2 h6 r1 r2 h1 h8 s1 s2 h47 h48 m1 m2
  rintro st ⟨h2, hp2, h6, ⟨r1, r2⟩, h1, h8, ⟨s1, s2⟩, h49⟩
  have hhe := heldViewS_fn gl R 1 hvs (by decide)
  have hk2 : ¬ 1 + (cntV R : Int) < 0 := by omega
  all_goals have fx := And.intro h2 <| And.intro hp2 <| And.intro h6 <| And.intro h1 <| And.intro h8 <| And.intro r1 <| And.intro s1 <| And.intro h49 <| And.intro hk2 <| @bne_def
  repeat' (first
   | refine w_seq ?_ | refine w_skip ?_ | refine w_reg fun K hK => ?_
   | ((with_reducible refine s_end hK ?_); clear hK K)
   | (with_reducible first | refine then_normal ?_)
   | (with_reducible refine s_none ?_)
   | (with_reducible first | refine x_assign (h := ?_))
   | ((with_reducible refine o_id 40 rfl ?_); refine x_call (hB := (by first | ((repeat' (first | exact .nil | refine .cons ?_ ?_ | exact .refl _ | exact bw_ints (by simp [fx]; first | done | rfl) (by first | (simp [fx]; done) | (simp [fx]; omega) | omega) | exact bw_list (by simp [fx]; first | done | rfl) (by first | (simp [fx]; done) | (simp [fx]; omega) | omega) (by first | (simp; done) | fail) | exact bw_views (n := .s 8) (vs := markV R 1) ⟨by simp [s1], fun q v hq => ⟨by simp [(s2 q v hq).names], by simp [(s2 q v hq).vals]⟩⟩ hml.symm)); done) | fail)) (hF := hhe) (h := ?_))
   | ((with_reducible refine o_id 12 rfl ?_); refine x_callg (hB := (by first | ((repeat' (first | exact .nil | refine .cons ?_ ?_ | exact .refl _ | exact bw_ints (by simp [fx]; first | done | rfl) (by first | (simp [fx]; done) | (simp [fx]; omega) | omega) | exact bw_list (by simp [fx]; first | done | rfl) (by first | (simp [fx]; done) | (simp [fx]; omega) | omega) (by first | (simp; done) | fail) | exact bw_views (n := .s 8) (vs := markV R 1) ⟨by simp [s1], fun q v hq => ⟨by simp [(s2 q v hq).names], by simp [(s2 q v hq).vals]⟩⟩ hml.symm)); done) | fail)) (hF := toProgram_fn gl p hs) (h := ?_))
   | (with_reducible refine x_q (h := ?_))
   | refine x_condf (h1 := ?_)
   | fail)
  all_goals try clear fx
  rintro y H8 ⟨rfl, hO⟩
  obtain ⟨ho1, ho2, ho3⟩ := hO.hcln
  refine ⟨by simp, ?_⟩
  have fx := And.intro h2 <| And.intro hp2 <| And.intro h6 <| And.intro h1 <| And.intro h8 <| ho1
  have e1 := hia
  refine k_run ?_
  repeat ((first | refine wSc (id := 10) qsWj0 mixed ?_); refine k_rund ?_; refine k_run ?_)
  clear fx e1
  rintro y H9 ⟨rfl, hR9⟩
  obtain ⟨t1, t2⟩ := hR9.hcln
  refine ⟨by simp, ?_⟩
  all_goals have fx := And.intro h2 <| And.intro hp2 <| And.intro h6 <| And.intro h1 <| And.intro h8 <| And.intro ho1 <| And.intro r1 <| And.intro s1 <| And.intro t1 <| And.intro hk2 <| @bne_def
  repeat' (first
   | refine w_seq ?_ | refine w_skip ?_ | refine w_reg fun K hK => ?_
   | ((with_reducible refine s_end hK ?_); clear hK K)
   | (with_reducible first | refine then_normal ?_)
   | refine w_ret ?_
   | (with_reducible refine s_none ?_)
   | (with_reducible first | refine x_assign (h := ?_))
   | ((with_reducible refine o_id 37 rfl ?_); refine x_call (hB := (by first | ((repeat' (first | exact .nil | refine .cons ?_ ?_ | exact .refl _ | exact bw_ints (by simp [fx]; first | done | rfl) (by first | (simp [fx]; done) | (simp [fx]; omega) | omega) | exact bw_list (by simp [fx]; first | done | rfl) (by first | (simp [fx]; done) | (simp [fx]; omega) | omega) (by first | (simp; done) | fail) | exact bw_views (n := .s 12) (vs := R) ⟨by simp [t1], fun q v hq => ⟨by simp [(t2 q v hq).names], by simp [(t2 q v hq).vals]⟩⟩ rfl | exact bw_views (n := .s 6) (vs := R) ⟨by simp [r1], fun q v hq => ⟨by simp [(r2 q v hq).names], by simp [(r2 q v hq).vals]⟩⟩ rfl | exact bw_views (n := .s 8) (vs := markV R 1) ⟨by simp [s1], fun q v hq => ⟨by simp [(s2 q v hq).names], by simp [(s2 q v hq).vals]⟩⟩ hml.symm)); done) | fail)) (hF := heq) (h := ?_))
   | ((with_reducible refine o_id 40 rfl ?_); refine x_call (hB := (by first | ((repeat' (first | exact .nil | refine .cons ?_ ?_ | exact .refl _ | exact bw_ints (by simp [fx]; first | done | rfl) (by first | (simp [fx]; done) | (simp [fx]; omega) | omega) | exact bw_list (by simp [fx]; first | done | rfl) (by first | (simp [fx]; done) | (simp [fx]; omega) | omega) (by first | (simp; done) | fail) | exact bw_views (n := .s 12) (vs := R) ⟨by simp [t1], fun q v hq => ⟨by simp [(t2 q v hq).names], by simp [(t2 q v hq).vals]⟩⟩ rfl | exact bw_views (n := .s 6) (vs := R) ⟨by simp [r1], fun q v hq => ⟨by simp [(r2 q v hq).names], by simp [(r2 q v hq).vals]⟩⟩ rfl | exact bw_views (n := .s 8) (vs := markV R 1) ⟨by simp [s1], fun q v hq => ⟨by simp [(s2 q v hq).names], by simp [(s2 q v hq).vals]⟩⟩ hml.symm)); done) | fail)) (hF := hhe) (h := ?_))
   | (with_reducible refine x_q (h := ?_))
   | refine x_condf (h1 := ?_)
   | fail)
  all_goals try clear fx
  refine e_ret [] .nil (by simp; rfl) (by simp)
end Go.Proofs.YtcbkblboonkfhaaGreat
end
section
namespace Go.Proofs.YtcbkblboonkfhaaGreat
open Go.ChangeShapes Go.WideShapes Go.ChangeAt Go.RowKit Go.Deep Go.Hm
theorem law_u3 : Tryz.prog.underlying 3 = some (.int .i64) := by kernel_rfl
theorem law_c3 : Tryz.prog.cellsOf 3 = 1 := by kernel_rfl
theorem law_b3 : Tryz.prog.bytesOf 3 = 8 := by kernel_rfl
theorem law_u145 : Tryz.prog.underlying 214 = some (.struct #[{ name := "Kind", type := 3, offset := 0, embedded := false, tag := "", pkgPath := "", byteOffset := 0 }, { name := "To", type := 3, offset := 1, embedded := false, tag := "", pkgPath := "", byteOffset := 8 }, { name := "A", type := 3, offset := 2, embedded := false, tag := "", pkgPath := "", byteOffset := 16 }, { name := "B", type := 3, offset := 3, embedded := false, tag := "", pkgPath := "", byteOffset := 24 }]) := by kernel_rfl
theorem law_o145 : oneCellFields Tryz.prog #[{ name := "Kind", type := 3, offset := 0, embedded := false, tag := "", pkgPath := "", byteOffset := 0 }, { name := "To", type := 3, offset := 1, embedded := false, tag := "", pkgPath := "", byteOffset := 8 }, { name := "A", type := 3, offset := 2, embedded := false, tag := "", pkgPath := "", byteOffset := 16 }, { name := "B", type := 3, offset := 3, embedded := false, tag := "", pkgPath := "", byteOffset := 24 }] = true := by kernel_rfl
theorem law_c145 : Tryz.prog.cellsOf 214 = 4 := by kernel_rfl
theorem law_b145 : Tryz.prog.bytesOf 214 = 32 := by kernel_rfl
theorem law_u90 : Tryz.prog.underlying 131 = some (.struct #[{ name := "Kind", type := 3, offset := 0, embedded := false, tag := "", pkgPath := "", byteOffset := 0 }, { name := "Parent", type := 3, offset := 1, embedded := false, tag := "", pkgPath := "", byteOffset := 8 }, { name := "Params", type := 41, offset := 2, embedded := false, tag := "", pkgPath := "", byteOffset := 16 }, { name := "Body", type := 129, offset := 3, embedded := false, tag := "", pkgPath := "", byteOffset := 40 }]) := by kernel_rfl
theorem law_o90 : oneCellFields Tryz.prog #[{ name := "Kind", type := 3, offset := 0, embedded := false, tag := "", pkgPath := "", byteOffset := 0 }, { name := "Parent", type := 3, offset := 1, embedded := false, tag := "", pkgPath := "", byteOffset := 8 }, { name := "Params", type := 41, offset := 2, embedded := false, tag := "", pkgPath := "", byteOffset := 16 }, { name := "Body", type := 129, offset := 3, embedded := false, tag := "", pkgPath := "", byteOffset := 40 }] = true := by kernel_rfl
theorem law_c90 : Tryz.prog.cellsOf 131 = 4 := by kernel_rfl
theorem law_b90 : Tryz.prog.bytesOf 131 = 64 := by kernel_rfl
theorem law_u24 : Tryz.prog.underlying 24 = some (.struct #[{ name := "Blocks", type := 22, offset := 0, embedded := false, tag := "", pkgPath := "", byteOffset := 0 }]) := by kernel_rfl
theorem law_o24 : oneCellFields Tryz.prog #[{ name := "Blocks", type := 22, offset := 0, embedded := false, tag := "", pkgPath := "", byteOffset := 0 }] = true := by kernel_rfl
theorem law_c24 : Tryz.prog.cellsOf 24 = 1 := by kernel_rfl
theorem law_u41 : Tryz.prog.underlying 41 = some (.slice 3) := by kernel_rfl
theorem law_u88 : Tryz.prog.underlying 129 = some (.slice 214) := by kernel_rfl
theorem law_u22 : Tryz.prog.underlying 22 = some (.slice 131) := by kernel_rfl
set_option maxRecDepth 100000 in
theorem rd_program {H : Type} {enc : TypeId × Value → H} {w : World} {r : Reach} {b0 : Nat} {v : Value} {d : DataW H} {p : List MemPlace} (hv : Value.okWide Tryz.prog w r b0 24 v) (h : DataW.Trod enc Tryz.prog w 0 (fun _ => true) true 24 v d p)
    (hw : ∀ m ∈ d.weights Tryz.prog 24, m ≤ reachBytes) : ∃ x : Prg, Big x ∧ RV (g0 w) w v (pav x) := by
  refine rd_prog (P := Tryz.prog) (w := w) (tp := (24 : TypeId)) (v := v) (d := d) (p := p) (r := r) (q0 := b0) (enc := enc) law_u3 law_c3 (by rw [law_b3]; decide) law_u145 law_o145 law_c145 (by rw [law_b145]; decide) rfl rfl rfl rfl law_u41 law_u88 law_u90 law_o90 law_c90 (by rw [law_b90]; decide) rfl rfl rfl rfl law_u22 law_u24 law_o24 law_c24 rfl ?_ ?_ ?_
  · assumption
  · assumption
  · assumption
theorem law_own : ownKnob Tryz.prog.godebug = none := by kernel_rfl
theorem law_laid : laidOutB Tryz.prog = true := by kernel_rfl
theorem law_bool : Tryz.prog.underlying 4 = some .bool := by kernel_rfl
end Go.Proofs.YtcbkblboonkfhaaGreat
end
section
namespace Go.Proofs.YtcbkblboonkfhaaGreat
open Go Go.Hm Go.Proofs
theorem pf_laid : laidOutB Tryz.prog = true := by kernel_rfl
theorem pf_maps : mapsRowed Tryz.prog = true := by kernel_rfl
theorem pf_stops : (Tryz.prog.stops == []) = true := by kernel_rfl
theorem pf_knobs : (Tryz.prog.stopKnobs == []) = true := by kernel_rfl
theorem pf_keys : Tryz.prog.plainKeys = true := by kernel_rfl
theorem pf_heard : Tryz.prog.stopsHeard = true := by kernel_rfl
theorem pf_may : Tryz.prog.mayEnter = true := by kernel_rfl
theorem pf_lifts : Tryz.prog.liftsFinal = false := by kernel_rfl
theorem pf_make : (Tryz.prog.make == some .cut) = true := by kernel_rfl
theorem progFacts : ProgFacts Tryz.prog := ⟨pf_laid, pf_maps, pf_stops, pf_knobs, pf_keys, pf_heard, pf_may, pf_lifts, pf_make⟩
end Go.Proofs.YtcbkblboonkfhaaGreat
end
