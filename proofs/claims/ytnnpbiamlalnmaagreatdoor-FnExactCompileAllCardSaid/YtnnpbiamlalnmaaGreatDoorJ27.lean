/-
  Own texts, joined by mkclaim.py: Jk, Jj.
-/
import Derived.Test.YtnnpbiamlalnmaaGreatDoorJ24
import Derived.Test.YtnnpbiamlalnmaaGreatDoorJ12
import Derived.Test.YtnnpbiamlalnmaaGreatDoorJ17
import Derived.Test.YtnnpbiamlalnmaaGreatDoorJ21
set_option linter.unusedSimpArgs false
set_option linter.unusedVariables false
set_option maxRecDepth 100000
set_option maxHeartbeats 4000000

section
namespace Go.Proofs.YtnnpbiamlalnmaaGreatDoor
open Go Go.Hm Go.Proofs
abbrev qsJk0 : Sch := .q 0 <| .q 1 <| .q 2 <| .q 3 <| .q 4 <| .q 5 <| .q 6 <| .q 7 <| .l 8 [6, 5, 4, 2, 1, 0] <| .q 9 <| .done
theorem eqCodeS_fn (gl) (vs : List Cod) (hs : CodsT vs) : FnOk Tryz.prog gl 16 [csl vs, csl vs] (fun _ z _ => z = bv true) := by
  have hlen := hs.len
  refine FnOk.of_sem Tryz.func16 rfl (by kernel_rfl) (rs := [.tmp 4]) rfl Tryz.ntmps16 (Nat.le_of_ble_eq_true rfl) fun C w g root => ?_
  have fx :=  @bne_def
  refine k_run ?_
  repeat ((first | refine wSc (id := 6) qsJk0 mixed ?_); refine k_rund ?_; refine k_run ?_)
  clear fx
  refine w_loop (fun n st => ∃ i : Nat, n = vs.length - i ∧ i ≤ vs.length ∧ st.tm 0 = csl vs ∧ st.tm 1 = csl vs ∧ st.tm 5 = iv i) vs.length ⟨0, by simp⟩ ?_
  rintro n st - - ⟨i, rfl, hi, h0, h1, h5⟩
  by_cases hil : i < vs.length
  · obtain ⟨v, hv⟩ : ∃ v, vs[i]? = some v := ⟨_, gE hil⟩
    obtain ⟨_, hvE⟩ := gS hv
    have hc := eqCode_fn gl v (hs.each v (List.mem_of_getElem? hv)).sm
    have fx := And.intro h0 <| And.intro h1 <| And.intro h5 <| And.intro hil <| And.intro hv <| hvE
    have c1 := hc
    refine k_run ?_
    repeat ((first | refine wSc (id := 6) qsJk0 mixed ?_); refine k_rund ?_; refine k_run ?_)
    clear fx c1
    exact ⟨vs.length - (i + 1), by omega, i + 1, rfl, by omega, by simp [h0], by simp [h1], by simp; exact wrp (by omega) (by omega)⟩
  · skip
    have fx := And.intro h0 <| And.intro h1 <| And.intro h5 <| hil
    refine k_run ?_
    repeat ((first | refine wSc (id := 6) qsJk0 mixed ?_); refine k_rund ?_; refine k_run ?_)
    clear fx
    refine e_ret [] .nil (by simp; rfl) (by simp)
theorem heldCodeS_fn (gl) (vs : List Cod) (c : Int) (hs : CodsT vs) (hc : 0 ≤ c ∧ c ≤ 1024) : FnOk Tryz.prog gl 18 [csl (markC vs c), iv c] (fun _ z _ => z = iv (c + cntC vs)) := by
  have hlen := hs.len
  have hml : (markC vs c).length = vs.length := markC_len
  refine FnOk.of_sem Tryz.func18 rfl (by kernel_rfl) (rs := [.tmp 4]) rfl Tryz.ntmps18 (Nat.le_of_ble_eq_true rfl) fun C w g root => ?_
  have fx := fx0
  refine k_run ?_
  clear fx
  refine w_loop (fun n st => ∃ i : Nat, n = vs.length - i ∧ i ≤ vs.length ∧ st.tm 0 = csl (markC vs c) ∧ st.tm 1 = iv (c + cntC (vs.take i)) ∧ st.tm 5 = iv i) vs.length ⟨0, by omega, by omega, by simp, by simp [cntC], by simp⟩ ?_
  rintro n st - - ⟨i, rfl, hi, h0, h1, h5⟩
  by_cases hil : i < vs.length
  · obtain ⟨k, hv⟩ : ∃ v, vs[i]? = some v := ⟨_, gE hil⟩
    obtain ⟨e1, e2, e3, e4, e5⟩ := hs.each k (List.mem_of_getElem? hv)
    have hg := markC_at (c := c) hv
    have hcl := hs.cnt i
    have hst := cntC_step hv
    have hcv : k.cnt = k.params.length + k.fasts.length + k.cells.length + k.frees.length + 2 * k.ops.length := rfl
    simp only [Cod.markK, Cod.mark] at hg
    obtain ⟨v0, hv0⟩ : ∃ v, v = c + (cntC (vs.take i) : Int) := ⟨_, rfl⟩
    obtain ⟨v1, hv1⟩ : ∃ v, v = v0 + 1 := ⟨_, rfl⟩
    obtain ⟨v2, hv2⟩ : ∃ u, u = v1 + (k.params.length : Int) := ⟨_, rfl⟩
    obtain ⟨v3, hv3⟩ : ∃ u, u = v2 + (k.fasts.length : Int) := ⟨_, rfl⟩
    obtain ⟨v4, hv4⟩ : ∃ u, u = v3 + (k.cells.length : Int) := ⟨_, rfl⟩
    obtain ⟨v5, hv5⟩ : ∃ u, u = v4 + (k.frees.length : Int) := ⟨_, rfl⟩
    have hw1 : IntKind.i64.wrap (v0 + 1) = v1 := by rw [hv1]; exact wrp (by omega) (by omega)
    rw [← hv0] at h1 hg
    rw [← hv1, ← hv2, ← hv3, ← hv4, ← hv5] at hg
    obtain ⟨_, hgE⟩ := gS hg
    have n2 : ¬ v2 < 0 := by omega
    have n3 : ¬ v3 < 0 := by omega
    have n4 : ¬ v4 < 0 := by omega
    have n5 : ¬ v5 < 0 := by omega
    have n6 : ¬ v5 + 2 * (k.ops.length : Int) < 0 := by omega
    have q1 := heldIntS_fn gl k.params.length v1 (by omega) (by omega)
    have q2 := heldIntS_fn gl k.fasts.length v2 (by omega) (by omega)
    have q3 := heldIntS_fn gl k.cells.length v3 (by omega) (by omega)
    have q4 := heldIntS_fn gl k.frees.length v4 (by omega) (by omega)
    have q5 := heldOpS_fn gl k.ops.length v5 (by omega) (by omega)
    rw [← hv2] at q1
    rw [← hv3] at q2
    rw [← hv4] at q3
    rw [← hv5] at q4
    have fx := And.intro h0 <| And.intro h1 <| And.intro h5 <| And.intro hil <| And.intro hml <| And.intro hg <| And.intro hgE <| And.intro hw1 <| And.intro n2 <| And.intro n3 <| And.intro n4 <| And.intro n5 <| And.intro n6 <| @bne_def
    have c1 := q1
    have c2 := q2
    have c3 := q3
    have c4 := q4
    have c5 := q5
    refine k_run ?_
    clear fx c1 c2 c3 c4 c5
    refine ⟨vs.length - (i + 1), by omega, i + 1, rfl, by omega, by simp [h0], ?_, by simp [h5]; exact wrp (by omega) (by omega)⟩
    simp
    omega
  · obtain rfl : i = vs.length := by omega
    rw [List.take_length] at h1
    have fx := And.intro h0 <| And.intro h1 <| And.intro h5 <| And.intro hil <| hml
    refine k_run ?_
    clear fx
    refine e_ret [] .nil (by simp; rfl) (by simp)
theorem markCodeS_fn (gl) (H : Nm → Option AO) (vs : List Cod) (c : Int) (hs : CodsT vs) (hO : OwnC H (.u 0 0 0) vs) (hV : H (.u 1 0 0) = none) (hc : 0 ≤ c ∧ c ≤ 1024) :
    FnE Tryz.prog gl 17 (Nm.under (.u 0 0 0)) [.hs (.u 0 0 0) 6 0 vs.length, iv c] H (fun _ y H' => y = iv (c + cntC vs) ∧ OwnC H' (.u 0 0 0) (markC vs c)) noE := by
  have hlen := hs.len
  obtain ⟨ha1, ha2⟩ := hO
  refine FnE.of_sem Tryz.func17 rfl (by kernel_rfl) (rs := [.tmp 4]) rfl Tryz.ntmps17 (Nat.le_of_ble_eq_true rfl) (fun _ => under_usroot rfl) fun C w g root hroot => ?_
  have fx := fx0
  refine k_run ?_
  clear fx
  refine w_loop (fun n st => ∃ i : Nat, n = vs.length - i ∧ i ≤ vs.length ∧ st.tm 0 = .hs (.u 0 0 0) 6 0 vs.length ∧ st.tm 1 = iv (c + cntC (vs.take i)) ∧ OwnC st.hp (.u 0 0 0) (markCTo vs c i) ∧ st.tm 5 = iv i) vs.length ?_ ?_
  · refine ⟨0, by simp, by simp, by simp, by simp [cntC], ?_, by simp⟩
    rw [markCTo_zero]
    exact ⟨by simp [ha1], fun j k hk => ⟨by simp [(ha2 j k hk).params], by simp [(ha2 j k hk).fasts], by simp [(ha2 j k hk).cells], by simp [(ha2 j k hk).frees], by simp [(ha2 j k hk).ops]⟩⟩
  rintro n st - - ⟨i, rfl, hi, h0, h1, ⟨ho1, ho2⟩, h5⟩
  by_cases hil : i < vs.length
  · obtain ⟨k, hv⟩ : ∃ v, vs[i]? = some v := ⟨_, gE hil⟩
    obtain ⟨e1, e2, e3, e4, e5⟩ := hs.each k (List.mem_of_getElem? hv)
    have hcl := hs.cnt i
    have hst := cntC_step hv
    have hcv : k.cnt = k.params.length + k.fasts.length + k.cells.length + k.frees.length + 2 * k.ops.length := rfl
    have hat := markCTo_at (c := c) hv
    have hnx := markCTo_next (c := c) hv
    have hset := kdRows_set (n := .u 0 0 0) (w := k.markK (c + cntC (vs.take i))) (b := c + cntC (vs.take i)) hat (by simp) (by simp) (by simp) (by simp) (by simp) (by simp)
    rw [markCTo_step hv] at hset
    obtain ⟨p1, p2, p3, p4, p5⟩ := ho2 i k hat
    obtain ⟨v0, hv0⟩ : ∃ v, v = c + (cntC (vs.take i) : Int) := ⟨_, rfl⟩
    rw [← hv0] at h1 hset hnx
    obtain ⟨v1, hv1⟩ : ∃ v, v = v0 + 1 := ⟨_, rfl⟩
    obtain ⟨v2, hv2⟩ : ∃ u, u = v1 + (k.params.length : Int) := ⟨_, rfl⟩
    obtain ⟨v3, hv3⟩ : ∃ u, u = v2 + (k.fasts.length : Int) := ⟨_, rfl⟩
    obtain ⟨v4, hv4⟩ : ∃ u, u = v3 + (k.cells.length : Int) := ⟨_, rfl⟩
    obtain ⟨v5, hv5⟩ : ∃ u, u = v4 + (k.frees.length : Int) := ⟨_, rfl⟩
    have hw1 : IntKind.i64.wrap (v0 + 1) = v1 := by rw [hv1]; exact wrp (by omega) (by omega)
    have hml : (markCTo vs c i).length = vs.length := markCTo_len (by omega)
    have hml' : (markCTo vs c (i + 1)).length = vs.length := markCTo_len (by omega)
    obtain ⟨_, hnxE⟩ := gS hnx
    obtain ⟨_, hatE⟩ := gS hat
    have hm1 : (k.markK v0).params.length = k.params.length := by simp
    have hm2 : (k.markK v0).fasts.length = k.fasts.length := by simp
    have hm3 : (k.markK v0).cells.length = k.cells.length := by simp
    have hm4 : (k.markK v0).frees.length = k.frees.length := by simp
    have hm5 : (k.markK v0).ops.length = k.ops.length := by simp
    have m1 := fun H hH => markIntS_fn gl H k.params v1 hH (by omega) (by omega)
    have m2 := fun H hH => markIntS_fn gl H k.fasts v2 hH (by omega) (by omega)
    have m3 := fun H hH => markIntS_fn gl H k.cells v3 hH (by omega) (by omega)
    have m4 := fun H hH => markIntS_fn gl H k.frees v4 hH (by omega) (by omega)
    have m5 := fun H hH => markOpS_fn gl H k.ops v5 hH (by omega) (by omega)
    rw [← hv2] at m1
    rw [← hv3] at m2
    rw [← hv4] at m3
    rw [← hv5] at m4
    have hx1 : (ctx0 Tryz.prog C w g H Tryz.f17.ntmps gl).ext (.u 1 0 0) = false := by simp [ctx0, hV]
    have fx := And.intro h0 <| And.intro h1 <| And.intro ho1 <| And.intro h5 <| And.intro hil <| And.intro hw1 <| And.intro hset <| And.intro hml <| And.intro hml' <| And.intro hat <| And.intro hatE <| And.intro hnx <| And.intro hnxE <| And.intro hm1 <| And.intro hm2 <| And.intro hm3 <| And.intro hm4 <| hm5
    refine k_run ?_
    clear fx
    intro K hK
    have fx := And.intro h0 <| And.intro h1 <| And.intro h5 <| And.intro hw1 hm1
    refine x_mutc (.c (.u 0 0 0) i 1) (.u 1 0 0) (hext := hx1) (hs := by simp [p1]) (hF := m1 _ (by simp [p1])) (h := ?_)
    rintro y H1 ⟨rfl, hy1⟩
    clear fx
    have fx := And.intro h0 <| And.intro h1 <| And.intro ho1 <| And.intro h5 <| And.intro hil <| And.intro hw1 <| And.intro hset <| And.intro hml <| And.intro hml' <| And.intro hat <| And.intro hatE <| And.intro hnx <| And.intro hnxE <| And.intro hm1 <| And.intro hm2 <| And.intro hm3 <| And.intro hm4 <| hm5
    refine k_run ?_
    clear fx
    intro K hK
    have fx := And.intro h0 <| And.intro h1 <| And.intro h5 <| And.intro hw1 <| And.intro hm1 hm2
    refine x_mutc (.c (.u 0 0 0) i 2) (.u 1 0 0) (hext := hx1) (hs := by simp [p2]) (hF := m2 _ (by simp [p2])) (h := ?_)
    rintro y H2 ⟨rfl, hy2⟩
    clear fx
    have fx := And.intro h0 <| And.intro h1 <| And.intro ho1 <| And.intro h5 <| And.intro hil <| And.intro hw1 <| And.intro hset <| And.intro hml <| And.intro hml' <| And.intro hat <| And.intro hatE <| And.intro hnx <| And.intro hnxE <| And.intro hm1 <| And.intro hm2 <| And.intro hm3 <| And.intro hm4 <| hm5
    refine k_run ?_
    clear fx
    intro K hK
    have fx := And.intro h0 <| And.intro h1 <| And.intro h5 <| And.intro hw1 <| And.intro hm1 <| And.intro hm2 hm3
    refine x_mutc (.c (.u 0 0 0) i 3) (.u 1 0 0) (hext := hx1) (hs := by simp [p3]) (hF := m3 _ (by simp [p3])) (h := ?_)
    rintro y H3 ⟨rfl, hy3⟩
    clear fx
    have fx := And.intro h0 <| And.intro h1 <| And.intro ho1 <| And.intro h5 <| And.intro hil <| And.intro hw1 <| And.intro hset <| And.intro hml <| And.intro hml' <| And.intro hat <| And.intro hatE <| And.intro hnx <| And.intro hnxE <| And.intro hm1 <| And.intro hm2 <| And.intro hm3 <| And.intro hm4 <| hm5
    refine k_run ?_
    clear fx
    intro K hK
    have fx := And.intro h0 <| And.intro h1 <| And.intro h5 <| And.intro hw1 <| And.intro hm1 <| And.intro hm2 <| And.intro hm3 hm4
    refine x_mutc (.c (.u 0 0 0) i 4) (.u 1 0 0) (hext := hx1) (hs := by simp [p4]) (hF := m4 _ (by simp [p4])) (h := ?_)
    rintro y H4 ⟨rfl, hy4⟩
    clear fx
    have fx := And.intro h0 <| And.intro h1 <| And.intro ho1 <| And.intro h5 <| And.intro hil <| And.intro hw1 <| And.intro hset <| And.intro hml <| And.intro hml' <| And.intro hat <| And.intro hatE <| And.intro hnx <| And.intro hnxE <| And.intro hm1 <| And.intro hm2 <| And.intro hm3 <| And.intro hm4 <| hm5
    refine k_run ?_
    clear fx
    intro K hK
    have fx := And.intro h0 <| And.intro h1 <| And.intro h5 <| And.intro hw1 <| And.intro hm1 <| And.intro hm2 <| And.intro hm3 <| And.intro hm4 hm5
    refine x_mutc (.c (.u 0 0 0) i 5) (.u 1 0 0) (hext := hx1) (hs := by simp [p5]) (hF := m5 _ (by simp [p5])) (h := ?_)
    rintro y H5 ⟨rfl, hy5⟩
    clear fx
    have fx := And.intro h0 <| And.intro h1 <| h5
    refine k_run ?_
    clear fx
    refine ⟨vs.length - (i + 1), by omega, i + 1, rfl, by omega, by simp [h0], ?_, ⟨?_, fun j r hj => ?_⟩, by simp [h5]; exact wrp (by omega) (by omega)⟩
    · simp
      omega
    · simp [ho1, hw1, hset, -List.map_map]
    · by_cases hji : j = i
      · subst hji
        rw [hnx] at hj
        obtain rfl := Option.some.inj hj
        exact ⟨by simp [Cod.markK, Cod.mark, hy1, hv1], by simp [Cod.markK, Cod.mark, hy2, hv1, hv2], by simp [Cod.markK, Cod.mark, hy3, hv1, hv2, hv3], by simp [Cod.markK, Cod.mark, hy4, hv1, hv2, hv3, hv4], by simp [Cod.markK, Cod.mark, hy5, hv1, hv2, hv3, hv4, hv5]⟩
      · rw [markCTo_other hji hv] at hj
        obtain ⟨f1, f2, f3, f4, f5⟩ := ho2 j r hj
        exact ⟨by simp [f1, hji], by simp [f2, hji], by simp [f3, hji], by simp [f4, hji], by simp [f5, hji]⟩
  · obtain rfl : i = vs.length := by omega
    rw [List.take_length] at h1
    rw [markCTo_all] at ho1 ho2
    have hml : (markC vs c).length = vs.length := markC_len
    have fx := And.intro h0 <| And.intro h1 <| And.intro h5 <| hil
    refine k_run ?_
    clear fx
    refine e_ret [] .nil (by simp; rfl) ⟨by simp, ⟨?_, fun j r hj => ?_⟩⟩
    · simp [ho1, kdRows_tr (n := .u 0 0 0) (m := .u 0 0 0) (f := finf (Nm.under (.u 0 0 0)) []) (cs := markC vs c) (by simp)]
    · obtain ⟨f1, f2, f3, f4, f5⟩ := ho2 j r hj
      exact ⟨by simp [f1], by simp [f2], by simp [f3], by simp [f4], by simp [f5]⟩
abbrev qsJj0 : Sch := .q 0 <| .q 1 <| .l 2 [0] <| .l 3 [] <| .q 4 <| .done
theorem codesG_t {p : Prg} (hs : Sml p) : CodsT (codesG p) := by
  unfold codesG
  split
  · rename_i hv
    have hP := lookP_of hs hv
    refine ⟨by rw [codesTo_len]; exact hP.len, fun k hk => ?_⟩
    simp only [codesTo, List.mem_map] at hk
    obtain ⟨i, _, rfl⟩ := hk
    exact codeL_t hP.sh
  · exact ⟨by simp, by simp⟩
theorem FnExactCompileAll_fn (gl : Nat → Option (List AV)) (hgl : gl 0 = some codesL) (p : Prg) (hb : Big p) : FnOk Tryz.prog gl 4 [pav p] (fun _ y _ => y = bv true) := by
  refine FnOk.of_sem Tryz.func4 rfl (by kernel_rfl) (rs := [.tmp 2]) rfl Tryz.ntmps4 (Nat.le_of_ble_eq_true rfl) fun C w g root => ?_
  by_cases ht : tot p ≤ 1048576
  case neg =>
    have fx :=  ht
    have c1 := szProgram_fn gl p hb
    refine k_run ?_
    repeat ((first | refine wSc (id := 10) qsJj0 mixed ?_); refine k_rund ?_; refine k_run ?_)
    clear fx c1
    refine e_ret [] .nil (by simp; rfl) (by simp)
  have hs := tot_sml ht
  have hgt : ¬ 1048576 - (tot p : Int) < 0 := by omega
  have hsa := spec_CompileAll_fn gl p hs
  have hia := impl_CompileAll_fn gl hgl p hs
  have hvs := codesG_t hs
  generalize codesG p = R at hsa hia hvs
  have hRl := hvs.len
  have heq := eqCodeS_fn gl R hvs
  have hcR := hvs.cnt R.length
  rw [List.take_length] at hcR
  have hcp := cntTo_le hs p.length
  have hpl := hs.len
  have fx := And.intro ht <| hgt
  have c1 := szProgram_fn gl p hb
  have e1 := toProgram_fn gl p hs
  refine k_run ?_
  repeat ((first | refine wSc (id := 10) qsJj0 mixed ?_); refine k_rund ?_; refine k_run ?_)
  clear fx c1 e1
  rintro K hK y H1 ⟨rfl, hO⟩
  obtain ⟨ho1, ho2, ho3⟩ := hO.hcln
  refine ⟨by simp, ?_⟩
  have fx := And.intro ht <| hgt
  have e1 := hsa
  refine k_run ?_
  repeat ((first | refine wSc (id := 10) qsJj0 mixed ?_); refine k_rund ?_; refine k_run ?_)
  clear fx e1
  rintro y H2 ⟨rfl, hR⟩
  obtain ⟨r1, r2⟩ := hR.hcln
  refine ⟨by simp, ?_⟩
  have fx := And.intro ht <| And.intro hgt <| r1
  refine k_run ?_
  repeat ((first | refine wSc (id := 10) qsJj0 mixed ?_); refine k_rund ?_; refine k_run ?_)
  clear fx
  intro K hK
  refine o_abs (fun st => st.tm 1 = .pt (.s 1) 0 ∧ st.hp (.s 1) = some (.row 1 [[ksl p]]) ∧ st.tm 4 = .hs (.s 4) 6 0 R.length ∧ OwnC st.hp (.s 4) R ∧ st.tm 19 = pav p) ⟨by simp, by simp, by simp, ⟨by simp [r1], fun q v hq => ⟨by simp [(r2 q v hq).params], by simp [(r2 q v hq).fasts], by simp [(r2 q v hq).cells], by simp [(r2 q v hq).frees], by simp [(r2 q v hq).ops]⟩⟩, by simp⟩ ?_
  clear hO ho1 ho2 ho3 hR r1 r2
  rintro st ⟨h2, hp2, h6, ⟨r1, r2⟩, h22⟩
  have fx := And.intro h2 <| And.intro hp2 <| And.intro h6 <| h22
  have e1 := toProgram_fn gl p hs
  refine k_run ?_
  repeat ((first | refine wSc (id := 10) qsJj0 mixed ?_); refine k_rund ?_; refine k_run ?_)
  clear fx e1
  rintro y H2 ⟨rfl, hO⟩
  obtain ⟨b1, b2, b3⟩ := hO.hcln
  refine ⟨by simp, ?_⟩
  have fx := And.intro h2 <| And.intro hp2 <| And.intro h6 <| b1
  have e1 := hia
  refine k_run ?_
  repeat ((first | refine wSc (id := 10) qsJj0 mixed ?_); refine k_rund ?_; refine k_run ?_)
  clear fx e1
  rintro K hK y H3 ⟨rfl, hR3⟩
  obtain ⟨s1, s2⟩ := hR3.hcln
  refine ⟨by simp, ?_⟩
  have fx := And.intro h2 <| And.intro hp2 <| And.intro h6 <| And.intro b1 <| And.intro r1 <| s1
  refine k_run ?_
  repeat ((first | refine wSc (id := 10) qsJj0 mixed ?_); refine k_rund ?_; refine k_run ?_)
  clear fx
  intro K hK
  refine o_abs (fun st => st.tm 1 = .pt (.s 1) 0 ∧ st.hp (.s 1) = some (.row 1 [[ksl p]]) ∧ st.tm 4 = .hs (.s 4) 6 0 R.length ∧ OwnC st.hp (.s 4) R ∧ st.tm 5 = .pt (.s 5) 0 ∧ st.hp (.s 5) = some (.row 1 [[.hs (.c (.s 5) 0 0) 4 0 p.length]]) ∧ OwnP st.hp (.c (.s 5) 0 0) p ∧ st.tm 6 = .hs (.s 6) 6 0 R.length ∧ OwnC st.hp (.s 6) R ∧ st.tm 23 = .hs (.s 6) 6 0 R.length ∧ st.tm 24 = .hs (.s 4) 6 0 R.length)
    ⟨by simp [h2], by simp [hp2], by simp [h6], ⟨by simp [r1], fun q v hq => ⟨by simp [(r2 q v hq).params], by simp [(r2 q v hq).fasts], by simp [(r2 q v hq).cells], by simp [(r2 q v hq).frees], by simp [(r2 q v hq).ops]⟩⟩, by simp, by simp, ⟨by simp [b1, -List.map_map], fun j r hj => by simp [b2 j r hj], fun j r hj => by simp [b3 j r hj]⟩, by simp, ⟨by simp [s1], fun q v hq => ⟨by simp [(s2 q v hq).params], by simp [(s2 q v hq).fasts], by simp [(s2 q v hq).cells], by simp [(s2 q v hq).frees], by simp [(s2 q v hq).ops]⟩⟩, by simp, by simp [h6]⟩ ?_
  clear h2 hp2 h6 h22 r1 r2 s1 s2 hO b1 b2 b3 hR3
  rintro st ⟨h2, hp2, h6, ⟨r1, r2⟩, h7, hp7, ⟨b1, b2, b3⟩, h8, ⟨s1, s2⟩, h27, h28⟩
  all_goals have fx := And.intro h2 <| And.intro hp2 <| And.intro h6 <| And.intro h7 <| And.intro hp7 <| And.intro h8 <| And.intro r1 <| And.intro s1 <| And.intro h27 <| h28
  repeat' (first
   | refine w_seq ?_ | refine w_skip ?_ | refine w_reg fun K hK => ?_
   | ((with_reducible refine s_end hK ?_); clear hK K)
   | (with_reducible first | refine then_normal ?_ | refine then_ret ?_ | refine s_nil ?_)
   | refine w_ret ?_
   | (with_reducible refine s_none ?_)
   | ((with_reducible refine g_id ?_); refine x_guard (h := ?_))
   | (with_reducible first | refine gx_tt ?_ | refine gx_ff ?_ | refine x_tf (h := ?_) | refine x_ft (h := ?_) | refine x_u (h := ?_) | refine x_assign (h := ?_) | refine x_box (h := ?_) | refine x_alloc (h := ?_) | refine x_store0 (h := ?_) | refine x_store (h := ?_))
   | ((with_reducible refine o_id 16 rfl ?_); refine x_call (hB := (by first | ((repeat' (first | exact .nil | refine .cons ?_ ?_ | exact .refl _ | exact bw_ints (by simp [fx]; first | done | rfl) (by first | (simp [fx]; done) | (simp [fx]; omega) | omega) | exact bw_list (by simp [fx]; first | done | rfl) (by first | (simp [fx]; done) | (simp [fx]; omega) | omega) (by first | (simp; done) | fail) | exact bw_codes (n := .s 6) (cs := R) ⟨by simp [s1], fun q v hq => ⟨by simp [(s2 q v hq).params], by simp [(s2 q v hq).fasts], by simp [(s2 q v hq).cells], by simp [(s2 q v hq).frees], by simp [(s2 q v hq).ops]⟩⟩ rfl | exact bw_codes (n := .s 4) (cs := R) ⟨by simp [r1], fun q v hq => ⟨by simp [(r2 q v hq).params], by simp [(r2 q v hq).fasts], by simp [(r2 q v hq).cells], by simp [(r2 q v hq).frees], by simp [(r2 q v hq).ops]⟩⟩ rfl)); done) | fail)) (hF := heq) (h := ?_))
   | ((with_reducible refine o_id 7 rfl ?_); refine x_callg (hB := (by first | ((repeat' (first | exact .nil | refine .cons ?_ ?_ | exact .refl _ | exact bw_ints (by simp [fx]; first | done | rfl) (by first | (simp [fx]; done) | (simp [fx]; omega) | omega) | exact bw_list (by simp [fx]; first | done | rfl) (by first | (simp [fx]; done) | (simp [fx]; omega) | omega) (by first | (simp; done) | fail) | exact bw_codes (n := .s 6) (cs := R) ⟨by simp [s1], fun q v hq => ⟨by simp [(s2 q v hq).params], by simp [(s2 q v hq).fasts], by simp [(s2 q v hq).cells], by simp [(s2 q v hq).frees], by simp [(s2 q v hq).ops]⟩⟩ rfl | exact bw_codes (n := .s 4) (cs := R) ⟨by simp [r1], fun q v hq => ⟨by simp [(r2 q v hq).params], by simp [(r2 q v hq).fasts], by simp [(r2 q v hq).cells], by simp [(r2 q v hq).frees], by simp [(r2 q v hq).ops]⟩⟩ rfl)); done) | fail)) (hF := toProgram_fn gl p hs) (h := ?_))
   | (with_reducible refine x_q (h := ?_))
   | (with_reducible refine gx_s (fun ht => ?_) (fun ht => ?_))
   | refine x_condt (h1 := ?_) | refine x_condf (h1 := ?_)
   | (refine wSc (id := 10) qsJj0 mixed fun K hK => ?_)
   | ((with_reducible refine a_end hK ?_); clear hK K)
   | ((with_reducible refine a_id ?_); first | refine xa_q (h := ?_) | refine xa_qt (h := ?_) | refine xa_qf (h := ?_) | refine xa_qu (h := ?_))
   | ((with_reducible refine a_id ?_); refine xa_gq (h1 := fun ht => ?_) (h2 := fun ht => ?_))
   | refine a_l rfl ?_ | refine a_l2 ?_ ?_ | (with_reducible refine And.intro ?_ ?_) | exact st_nil | refine xa_st (h2 := ?_)
   | fail)
  all_goals try clear fx
  rintro y H3 ⟨rfl, hO3⟩
  obtain ⟨ho1, ho2, ho3⟩ := hO3.hcln
  refine ⟨by simp, ?_⟩
  have fx := And.intro h2 <| And.intro hp2 <| And.intro h6 <| And.intro h7 <| And.intro hp7 <| And.intro h8 <| And.intro b1 <| ho1
  have c1 := eqProgram_fn gl p p hs hs
  refine k_run ?_
  repeat ((first | refine wSc (id := 10) qsJj0 mixed ?_); refine k_rund ?_; refine k_run ?_)
  clear fx c1
  intro K hK
  refine o_abs (fun st => st.tm 1 = .pt (.s 1) 0 ∧ st.hp (.s 1) = some (.row 1 [[ksl p]]) ∧ st.tm 4 = .hs (.s 4) 6 0 R.length ∧ OwnC st.hp (.s 4) R ∧ OwnP st.hp (.c (.s 5) 0 0) p ∧ st.tm 6 = .hs (.s 6) 6 0 R.length ∧ OwnC st.hp (.s 6) R ∧ st.tm 32 = .agg [.hs (.c (.s 5) 0 0) 4 0 p.length] ∧ st.tm 33 = iv 1)
    ⟨by simp [h2], by simp [hp2], by simp [h6], ⟨by simp [r1], fun q v hq => ⟨by simp [(r2 q v hq).params], by simp [(r2 q v hq).fasts], by simp [(r2 q v hq).cells], by simp [(r2 q v hq).frees], by simp [(r2 q v hq).ops]⟩⟩, ⟨by simp [b1], fun j r hj => by simp [b2 j r hj], fun j r hj => by simp [b3 j r hj]⟩, by simp [h8], ⟨by simp [s1], fun q v hq => ⟨by simp [(s2 q v hq).params], by simp [(s2 q v hq).fasts], by simp [(s2 q v hq).cells], by simp [(s2 q v hq).frees], by simp [(s2 q v hq).ops]⟩⟩, by simp, by simp⟩ ?_
  clear h2 hp2 h6 r1 r2 h7 hp7 b1 b2 b3 h8 s1 s2 h27 h28 ho1 ho2 ho3 hO3
  rintro st ⟨h2, hp2, h6, ⟨r1, r2⟩, ⟨b1, b2, b3⟩, h8, ⟨s1, s2⟩, h36, h37⟩
  have fx := And.intro h36 h37
  refine x_mutc (.c (.s 5) 0 0) (.u 0 0 0) (hext := rfl) (hs := by simp [b1]) (hF := markProgram_fn _ _ p 1 hs ⟨by simp [b1], fun j r hj => by simp [b2 j r hj], fun j r hj => by simp [b3 j r hj]⟩ (by simp) (by decide)) (h := ?_)
  rintro y H6 ⟨rfl, ⟨d1, d2, d3⟩⟩
  clear fx
  refine s_abs (fun st => st.tm 1 = .pt (.s 1) 0 ∧ st.hp (.s 1) = some (.row 1 [[ksl p]]) ∧ st.tm 4 = .hs (.s 4) 6 0 R.length ∧ OwnC st.hp (.s 4) R ∧ st.tm 6 = .hs (.s 6) 6 0 R.length ∧ OwnC st.hp (.s 6) R ∧ st.tm 34 = iv (1 + cnt p))
    ⟨by simp [h2], by simp [hp2], by simp [h6], ⟨by simp [r1], fun q v hq => ⟨by simp [(r2 q v hq).params], by simp [(r2 q v hq).fasts], by simp [(r2 q v hq).cells], by simp [(r2 q v hq).frees], by simp [(r2 q v hq).ops]⟩⟩, by simp [h8], ⟨by simp [s1], fun q v hq => ⟨by simp [(s2 q v hq).params], by simp [(s2 q v hq).fasts], by simp [(s2 q v hq).cells], by simp [(s2 q v hq).frees], by simp [(s2 q v hq).ops]⟩⟩, by simp⟩ ?_
  clear h2 hp2 h6 r1 r2 b1 b2 b3 h8 s1 s2 h36 h37 d1 d2 d3
  rintro st ⟨h2, hp2, h6, ⟨r1, r2⟩, h8, ⟨s1, s2⟩, h38⟩
  have hk1 : ¬ 1 + (cnt p : Int) < 0 := by omega
  all_goals have fx := And.intro h2 <| And.intro hp2 <| And.intro h6 <| And.intro h8 <| And.intro r1 <| And.intro s1 <| And.intro h38 <| hk1
  repeat' (first
   | refine w_seq ?_ | refine w_skip ?_ | refine w_reg fun K hK => ?_
   | ((with_reducible refine s_end hK ?_); clear hK K)
   | (with_reducible first | refine then_normal ?_ | refine then_ret ?_ | refine s_nil ?_)
   | refine w_ret ?_
   | (with_reducible refine s_none ?_)
   | ((with_reducible refine g_id ?_); refine x_guard (h := ?_))
   | (with_reducible first | refine gx_tt ?_ | refine gx_ff ?_ | refine x_tf (h := ?_) | refine x_ft (h := ?_) | refine x_u (h := ?_) | refine x_assign (h := ?_) | refine x_box (h := ?_) | refine x_alloc (h := ?_) | refine x_store0 (h := ?_) | refine x_store (h := ?_))
   | ((with_reducible refine o_id 16 rfl ?_); refine x_call (hB := (by first | ((repeat' (first | exact .nil | refine .cons ?_ ?_ | exact .refl _ | exact bw_ints (by simp [fx]; first | done | rfl) (by first | (simp [fx]; done) | (simp [fx]; omega) | omega) | exact bw_list (by simp [fx]; first | done | rfl) (by first | (simp [fx]; done) | (simp [fx]; omega) | omega) (by first | (simp; done) | fail) | exact bw_codes (n := .s 6) (cs := R) ⟨by simp [s1], fun q v hq => ⟨by simp [(s2 q v hq).params], by simp [(s2 q v hq).fasts], by simp [(s2 q v hq).cells], by simp [(s2 q v hq).frees], by simp [(s2 q v hq).ops]⟩⟩ rfl | exact bw_codes (n := .s 4) (cs := R) ⟨by simp [r1], fun q v hq => ⟨by simp [(r2 q v hq).params], by simp [(r2 q v hq).fasts], by simp [(r2 q v hq).cells], by simp [(r2 q v hq).frees], by simp [(r2 q v hq).ops]⟩⟩ rfl)); done) | fail)) (hF := heq) (h := ?_))
   | (with_reducible refine x_q (h := ?_))
   | (with_reducible refine gx_s (fun ht => ?_) (fun ht => ?_))
   | refine x_condt (h1 := ?_) | refine x_condf (h1 := ?_)
   | (refine wSc (id := 10) qsJj0 mixed fun K hK => ?_)
   | ((with_reducible refine a_end hK ?_); clear hK K)
   | ((with_reducible refine a_id ?_); first | refine xa_q (h := ?_) | refine xa_qt (h := ?_) | refine xa_qf (h := ?_) | refine xa_qu (h := ?_))
   | ((with_reducible refine a_id ?_); refine xa_gq (h1 := fun ht => ?_) (h2 := fun ht => ?_))
   | refine a_l rfl ?_ | refine a_l2 ?_ ?_ | (with_reducible refine And.intro ?_ ?_) | exact st_nil | refine xa_st (h2 := ?_)
   | fail)
  all_goals try clear fx
  refine o_abs (fun st => st.tm 1 = .pt (.s 1) 0 ∧ st.hp (.s 1) = some (.row 1 [[ksl p]]) ∧ st.tm 4 = .hs (.s 4) 6 0 R.length ∧ OwnC st.hp (.s 4) R ∧ st.tm 6 = .hs (.s 6) 6 0 R.length ∧ OwnC st.hp (.s 6) R ∧ st.tm 43 = .hs (.s 6) 6 0 R.length ∧ st.tm 44 = iv 1)
    ⟨by simp [h2], by simp [hp2], by simp [h6], ⟨by simp [r1], fun q v hq => ⟨by simp [(r2 q v hq).params], by simp [(r2 q v hq).fasts], by simp [(r2 q v hq).cells], by simp [(r2 q v hq).frees], by simp [(r2 q v hq).ops]⟩⟩, by simp [h8], ⟨by simp [s1], fun q v hq => ⟨by simp [(s2 q v hq).params], by simp [(s2 q v hq).fasts], by simp [(s2 q v hq).cells], by simp [(s2 q v hq).frees], by simp [(s2 q v hq).ops]⟩⟩, by simp [h8], by simp⟩ ?_
  clear h2 hp2 h6 r1 r2 h8 s1 s2 h38
  rintro st ⟨h2, hp2, h6, ⟨r1, r2⟩, h8, ⟨s1, s2⟩, h47, h48⟩
  have fx := And.intro h47 h48
  refine x_mutc (.s 6) (.u 0 0 0) (hext := rfl) (hs := by simp [s1]) (hF := markCodeS_fn _ _ R 1 hvs ⟨by simp [s1], fun q v hq => ⟨by simp [(s2 q v hq).params], by simp [(s2 q v hq).fasts], by simp [(s2 q v hq).cells], by simp [(s2 q v hq).frees], by simp [(s2 q v hq).ops]⟩⟩ (by simp) (by decide)) (h := ?_)
  rintro y H7 ⟨rfl, ⟨m1, m2⟩⟩
  clear fx
  have hml : (markC R 1).length = R.length := markC_len
  refine s_abs (fun st => st.tm 1 = .pt (.s 1) 0 ∧ st.hp (.s 1) = some (.row 1 [[ksl p]]) ∧ st.tm 4 = .hs (.s 4) 6 0 R.length ∧ OwnC st.hp (.s 4) R ∧ st.tm 6 = .hs (.s 6) 6 0 R.length ∧ OwnC st.hp (.s 6) (markC R 1) ∧ st.tm 45 = iv (1 + cntC R))
    ⟨by simp [h2], by simp [hp2], by simp [h6], ⟨by simp [r1], fun q v hq => ⟨by simp [(r2 q v hq).params], by simp [(r2 q v hq).fasts], by simp [(r2 q v hq).cells], by simp [(r2 q v hq).frees], by simp [(r2 q v hq).ops]⟩⟩, by simp [h8], ⟨by simp [m1], fun q v hq => ⟨by simp [(m2 q v hq).params], by simp [(m2 q v hq).fasts], by simp [(m2 q v hq).cells], by simp [(m2 q v hq).frees], by simp [(m2 q v hq).ops]⟩⟩, by simp⟩ ?_
  clear h2 hp2 h6 r1 r2 h8 s1 s2 h47 h48 m1 m2
  rintro st ⟨h2, hp2, h6, ⟨r1, r2⟩, h8, ⟨s1, s2⟩, h49⟩
  have hhe := heldCodeS_fn gl R 1 hvs (by decide)
  have hk2 : ¬ 1 + (cntC R : Int) < 0 := by omega
  all_goals have fx := And.intro h2 <| And.intro hp2 <| And.intro h6 <| And.intro h8 <| And.intro r1 <| And.intro s1 <| And.intro h49 <| And.intro hk2 <| @bne_def
  repeat' (first
   | refine w_seq ?_ | refine w_skip ?_ | refine w_reg fun K hK => ?_
   | ((with_reducible refine s_end hK ?_); clear hK K)
   | (with_reducible first | refine then_normal ?_ | refine then_ret ?_ | refine s_nil ?_)
   | refine w_ret ?_
   | (with_reducible refine s_none ?_)
   | ((with_reducible refine g_id ?_); refine x_guard (h := ?_))
   | (with_reducible first | refine gx_tt ?_ | refine gx_ff ?_ | refine x_tf (h := ?_) | refine x_ft (h := ?_) | refine x_u (h := ?_) | refine x_assign (h := ?_) | refine x_box (h := ?_) | refine x_alloc (h := ?_) | refine x_store0 (h := ?_) | refine x_store (h := ?_))
   | ((with_reducible refine o_id 18 rfl ?_); refine x_call (hB := (by first | ((repeat' (first | exact .nil | refine .cons ?_ ?_ | exact .refl _ | exact bw_ints (by simp [fx]; first | done | rfl) (by first | (simp [fx]; done) | (simp [fx]; omega) | omega) | exact bw_list (by simp [fx]; first | done | rfl) (by first | (simp [fx]; done) | (simp [fx]; omega) | omega) (by first | (simp; done) | fail) | exact bw_codes (n := .s 6) (cs := markC R 1) ⟨by simp [s1], fun q v hq => ⟨by simp [(s2 q v hq).params], by simp [(s2 q v hq).fasts], by simp [(s2 q v hq).cells], by simp [(s2 q v hq).frees], by simp [(s2 q v hq).ops]⟩⟩ hml.symm)); done) | fail)) (hF := hhe) (h := ?_))
   | ((with_reducible refine o_id 7 rfl ?_); refine x_callg (hB := (by first | ((repeat' (first | exact .nil | refine .cons ?_ ?_ | exact .refl _ | exact bw_ints (by simp [fx]; first | done | rfl) (by first | (simp [fx]; done) | (simp [fx]; omega) | omega) | exact bw_list (by simp [fx]; first | done | rfl) (by first | (simp [fx]; done) | (simp [fx]; omega) | omega) (by first | (simp; done) | fail) | exact bw_codes (n := .s 6) (cs := markC R 1) ⟨by simp [s1], fun q v hq => ⟨by simp [(s2 q v hq).params], by simp [(s2 q v hq).fasts], by simp [(s2 q v hq).cells], by simp [(s2 q v hq).frees], by simp [(s2 q v hq).ops]⟩⟩ hml.symm)); done) | fail)) (hF := toProgram_fn gl p hs) (h := ?_))
   | (with_reducible refine x_q (h := ?_))
   | (with_reducible refine gx_s (fun ht => ?_) (fun ht => ?_))
   | refine x_condt (h1 := ?_) | refine x_condf (h1 := ?_)
   | (refine wSc (id := 10) qsJj0 mixed fun K hK => ?_)
   | ((with_reducible refine a_end hK ?_); clear hK K)
   | ((with_reducible refine a_id ?_); first | refine xa_q (h := ?_) | refine xa_qt (h := ?_) | refine xa_qf (h := ?_) | refine xa_qu (h := ?_))
   | ((with_reducible refine a_id ?_); refine xa_gq (h1 := fun ht => ?_) (h2 := fun ht => ?_))
   | refine a_l rfl ?_ | refine a_l2 ?_ ?_ | (with_reducible refine And.intro ?_ ?_) | exact st_nil | refine xa_st (h2 := ?_)
   | fail)
  all_goals try clear fx
  rintro y H8 ⟨rfl, hO⟩
  obtain ⟨ho1, ho2, ho3⟩ := hO.hcln
  refine ⟨by simp, ?_⟩
  have fx := And.intro h2 <| And.intro hp2 <| And.intro h6 <| And.intro h8 <| ho1
  have e1 := hia
  refine k_run ?_
  repeat ((first | refine wSc (id := 10) qsJj0 mixed ?_); refine k_rund ?_; refine k_run ?_)
  clear fx e1
  rintro y H9 ⟨rfl, hR9⟩
  obtain ⟨t1, t2⟩ := hR9.hcln
  refine ⟨by simp, ?_⟩
  all_goals have fx := And.intro h2 <| And.intro hp2 <| And.intro h6 <| And.intro h8 <| And.intro ho1 <| And.intro r1 <| And.intro s1 <| And.intro t1 <| And.intro hk2 <| @bne_def
  repeat' (first
   | refine w_seq ?_ | refine w_skip ?_ | refine w_reg fun K hK => ?_
   | ((with_reducible refine s_end hK ?_); clear hK K)
   | (with_reducible first | refine then_normal ?_ | refine then_ret ?_ | refine s_nil ?_)
   | refine w_ret ?_
   | (with_reducible refine s_none ?_)
   | ((with_reducible refine g_id ?_); refine x_guard (h := ?_))
   | (with_reducible first | refine gx_tt ?_ | refine gx_ff ?_ | refine x_tf (h := ?_) | refine x_ft (h := ?_) | refine x_u (h := ?_) | refine x_assign (h := ?_) | refine x_box (h := ?_) | refine x_alloc (h := ?_) | refine x_store0 (h := ?_) | refine x_store (h := ?_))
   | ((with_reducible refine o_id 16 rfl ?_); refine x_call (hB := (by first | ((repeat' (first | exact .nil | refine .cons ?_ ?_ | exact .refl _ | exact bw_ints (by simp [fx]; first | done | rfl) (by first | (simp [fx]; done) | (simp [fx]; omega) | omega) | exact bw_list (by simp [fx]; first | done | rfl) (by first | (simp [fx]; done) | (simp [fx]; omega) | omega) (by first | (simp; done) | fail) | exact bw_codes (n := .s 10) (cs := R) ⟨by simp [t1], fun q v hq => ⟨by simp [(t2 q v hq).params], by simp [(t2 q v hq).fasts], by simp [(t2 q v hq).cells], by simp [(t2 q v hq).frees], by simp [(t2 q v hq).ops]⟩⟩ rfl | exact bw_codes (n := .s 4) (cs := R) ⟨by simp [r1], fun q v hq => ⟨by simp [(r2 q v hq).params], by simp [(r2 q v hq).fasts], by simp [(r2 q v hq).cells], by simp [(r2 q v hq).frees], by simp [(r2 q v hq).ops]⟩⟩ rfl | exact bw_codes (n := .s 6) (cs := markC R 1) ⟨by simp [s1], fun q v hq => ⟨by simp [(s2 q v hq).params], by simp [(s2 q v hq).fasts], by simp [(s2 q v hq).cells], by simp [(s2 q v hq).frees], by simp [(s2 q v hq).ops]⟩⟩ hml.symm)); done) | fail)) (hF := heq) (h := ?_))
   | ((with_reducible refine o_id 18 rfl ?_); refine x_call (hB := (by first | ((repeat' (first | exact .nil | refine .cons ?_ ?_ | exact .refl _ | exact bw_ints (by simp [fx]; first | done | rfl) (by first | (simp [fx]; done) | (simp [fx]; omega) | omega) | exact bw_list (by simp [fx]; first | done | rfl) (by first | (simp [fx]; done) | (simp [fx]; omega) | omega) (by first | (simp; done) | fail) | exact bw_codes (n := .s 10) (cs := R) ⟨by simp [t1], fun q v hq => ⟨by simp [(t2 q v hq).params], by simp [(t2 q v hq).fasts], by simp [(t2 q v hq).cells], by simp [(t2 q v hq).frees], by simp [(t2 q v hq).ops]⟩⟩ rfl | exact bw_codes (n := .s 4) (cs := R) ⟨by simp [r1], fun q v hq => ⟨by simp [(r2 q v hq).params], by simp [(r2 q v hq).fasts], by simp [(r2 q v hq).cells], by simp [(r2 q v hq).frees], by simp [(r2 q v hq).ops]⟩⟩ rfl | exact bw_codes (n := .s 6) (cs := markC R 1) ⟨by simp [s1], fun q v hq => ⟨by simp [(s2 q v hq).params], by simp [(s2 q v hq).fasts], by simp [(s2 q v hq).cells], by simp [(s2 q v hq).frees], by simp [(s2 q v hq).ops]⟩⟩ hml.symm)); done) | fail)) (hF := hhe) (h := ?_))
   | (with_reducible refine x_q (h := ?_))
   | (with_reducible refine gx_s (fun ht => ?_) (fun ht => ?_))
   | refine x_condt (h1 := ?_) | refine x_condf (h1 := ?_)
   | (refine wSc (id := 10) qsJj0 mixed fun K hK => ?_)
   | ((with_reducible refine a_end hK ?_); clear hK K)
   | ((with_reducible refine a_id ?_); first | refine xa_q (h := ?_) | refine xa_qt (h := ?_) | refine xa_qf (h := ?_) | refine xa_qu (h := ?_))
   | ((with_reducible refine a_id ?_); refine xa_gq (h1 := fun ht => ?_) (h2 := fun ht => ?_))
   | refine a_l rfl ?_ | refine a_l2 ?_ ?_ | (with_reducible refine And.intro ?_ ?_) | exact st_nil | refine xa_st (h2 := ?_)
   | fail)
  all_goals try clear fx
  refine e_ret [] .nil (by simp; rfl) (by simp)
end Go.Proofs.YtnnpbiamlalnmaaGreatDoor
end
