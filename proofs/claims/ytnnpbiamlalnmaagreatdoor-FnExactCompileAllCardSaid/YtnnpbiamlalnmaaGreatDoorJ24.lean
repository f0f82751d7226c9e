/-
  Own texts, joined by mkclaim.py: Sc, Jh, Lr.
-/
import Derived.Test.YtnnpbiamlalnmaaGreatDoorJ23
import Derived.Test.YtnnpbiamlalnmaaGreatDoorJ11
import Derived.Test.YtnnpbiamlalnmaaGreatDoorJ12
import Derived.Test.YtnnpbiamlalnmaaGreatDoorJ13
import Derived.Test.YtnnpbiamlalnmaaGreatDoorJ10
import Derived.WalkKit
import Derived.ProofKit
import Derived.OpenShut
set_option linter.unusedSimpArgs false
set_option linter.unusedVariables false
set_option maxRecDepth 100000
set_option maxHeartbeats 4000000

section
namespace Go.Proofs.YtnnpbiamlalnmaaGreatDoor
open Go Go.Hm Go.Proofs
abbrev qsSc0 : Sch := .q 0 <| .q 1 <| .q 2 <| .q 3 <| .q 4 <| .q 5 <| .q 6 <| .q 7 <| .l 8 [6, 5, 4, 2, 1, 0] <| .q 9 <| .done
theorem eqOp_fn (gl) (a b c d : Int) : FnOk Tryz.prog gl 59 [.agg [iv a, iv b], .agg [iv c, iv d]] (fun _ z _ => z = bv (decide ((a, b) = (c, d)))) := by
  refine FnOk.of_sem Tryz.func59 rfl (by kernel_rfl) (rs := [.tmp 4]) rfl Tryz.ntmps59 (Nat.le_of_ble_eq_true rfl) fun C w g root => ?_
  by_cases h1 : a = c
  · subst h1
    by_cases h2 : b = d
    · subst h2
      have fx :=  @bne_def
      refine k_run ?_
      clear fx
      refine e_ret [] .nil (by simp; rfl) (by simp)
    · have e2 : (b == d) = false := by simpa using h2
      have fx := And.intro @bne_def <| e2
      refine k_run ?_
      clear fx
      refine e_ret [] .nil (by simp; rfl) (by simp [h2])
  · have e1 : (a == c) = false := by simpa using h1
    have fx := And.intro @bne_def <| e1
    refine k_run ?_
    clear fx
    refine e_ret [] .nil (by simp; rfl) (by simp [h1])
theorem eqOpS_fn (gl) (xs ys : List (Int × Int)) (hx : xs.length ≤ 1048576) (hy : ys.length ≤ 1048576) : FnOk Tryz.prog gl 29 [osl xs, osl ys] (fun _ z _ => z = bv (decide (xs = ys))) := by
  refine FnOk.of_sem Tryz.func29 rfl (by kernel_rfl) (rs := [.tmp 4]) rfl Tryz.ntmps29 (Nat.le_of_ble_eq_true rfl) fun C w g root => ?_
  by_cases hl : xs.length = ys.length
  case neg =>
    have h1 : ((xs.length : Int) == ys.length) = false := by simp; omega
    have fx := And.intro h1 <| @bne_def
    refine k_run ?_
    repeat ((first | refine wSc (id := 6) qsSc0 mixed ?_); refine k_rund ?_; refine k_run ?_)
    clear fx
    refine e_ret [] .nil (by simp; rfl) ?_
    have : ¬ xs = ys := fun e => hl (by rw [e])
    simp [this]
  have fx := And.intro hl <| @bne_def
  refine k_run ?_
  repeat ((first | refine wSc (id := 6) qsSc0 mixed ?_); refine k_rund ?_; refine k_run ?_)
  clear fx
  refine w_loop (fun n st => ∃ i : Nat, n = xs.length - i ∧ i ≤ xs.length ∧ st.tm 0 = osl xs ∧ st.tm 1 = osl ys ∧ st.tm 5 = iv i ∧ xs.take i = ys.take i) xs.length ⟨0, by simp⟩ ?_
  rintro n st - - ⟨i, rfl, hi, h0, h1, h5, heq⟩
  by_cases hil : i < xs.length
  · obtain ⟨x, hxi⟩ : ∃ x, xs[i]? = some x := ⟨_, gE (by omega)⟩
    obtain ⟨y, hyi⟩ : ∃ y, ys[i]? = some y := ⟨_, gE (by omega)⟩
    obtain ⟨hil2, hxE⟩ := gS hxi
    obtain ⟨hil3, hyE⟩ := gS hyi
    have hc := eqOp_fn gl x.1 x.2 y.1 y.2
    by_cases hxy : x = y
    · subst hxy
      simp only [decide_true] at hc
      have fx := And.intro h0 <| And.intro h1 <| And.intro h5 <| And.intro hil <| And.intro hil3 <| And.intro hxi <| And.intro hyi <| And.intro hxE <| hyE
      have c1 := hc
      refine k_run ?_
      repeat ((first | refine wSc (id := 6) qsSc0 mixed ?_); refine k_rund ?_; refine k_run ?_)
      clear fx c1
      refine ⟨xs.length - (i + 1), by omega, i + 1, rfl, by omega, by simp [h0], by simp [h1], by simp; exact wrp (by omega) (by omega), ?_⟩
      rw [List.take_add_one, List.take_add_one, heq, hxi, hyi]
    · have hd : decide ((x.1, x.2) = (y.1, y.2)) = false := decide_eq_false hxy
      rw [hd] at hc
      have hne : ¬ xs = ys := fun e => hxy (by rw [e, hyi] at hxi; exact (Option.some.inj hxi).symm)
      have fx := And.intro h0 <| And.intro h1 <| And.intro h5 <| And.intro hil <| And.intro hil3 <| And.intro hxi <| And.intro hyi <| And.intro hxE <| hyE
      have c1 := hc
      refine k_run ?_
      repeat ((first | refine wSc (id := 6) qsSc0 mixed ?_); refine k_rund ?_; refine k_run ?_)
      clear fx c1
      refine e_ret [] .nil (by simp; rfl) (by simp [hne])
  · have hge : i = xs.length := by omega
    have : xs = ys := by rw [hge, List.take_length, hl, List.take_length] at heq; exact heq
    have fx := And.intro h0 <| And.intro h1 <| And.intro h5 <| hil
    refine k_run ?_
    repeat ((first | refine wSc (id := 6) qsSc0 mixed ?_); refine k_rund ?_; refine k_run ?_)
    clear fx
    refine e_ret [] .nil (by simp; rfl) (by simp [this])
theorem markOpS_fn (gl) (H : Nm → Option AO) (xs : List (Int × Int)) (c : Int) (hH : H (.u 1 0 0) = some (.row 2 (orows xs))) (hc : 0 ≤ c ∧ c ≤ 1152921504606846976) (hx : xs.length ≤ 1048576) :
    FnE Tryz.prog gl 33 (Nm.under (.u 1 0 0)) [.hs (.u 1 0 0) 2 0 xs.length, iv c] H (fun _ y H' => y = iv (c + 2 * xs.length) ∧ H' (.u 1 0 0) = some (.row 2 (orows (markO xs.length c)))) noE := by
  refine FnE.of_sem Tryz.func33 rfl (by kernel_rfl) (rs := [.tmp 4]) rfl Tryz.ntmps33 (Nat.le_of_ble_eq_true rfl) (fun _ => under_usroot rfl) fun C w g root hroot => ?_
  have fx := fx0
  refine k_run ?_
  clear fx
  refine w_loop (fun n st => ∃ i : Nat, n = xs.length - i ∧ i ≤ xs.length ∧ st.tm 0 = .hs (.u 1 0 0) 2 0 xs.length ∧ st.tm 1 = iv (c + 2 * i) ∧ st.hp (.u 1 0 0) = some (.row 2 (orows (markO i c ++ xs.drop i))) ∧ st.tm 5 = iv i) xs.length ?_ ?_
  · exact ⟨0, by simp, by simp, by simp, by simp, by simp [hH, markO], by simp⟩
  rintro n st - - ⟨i, rfl, hi, h0, h1, hp0, h5⟩
  by_cases hil : i < xs.length
  · have hset := markO_set (c := c) hil
    have hll : (markO i c ++ xs.drop i).length = xs.length := by simp; omega
    have hs4 := orows_set2 (L := markO i c ++ xs.drop i) (i := i) (a := c + 2 * i) (b := c + 2 * i + 1) (by omega)
    rw [hset] at hs4
    obtain ⟨v0, hv0⟩ : ∃ v, v = c + 2 * (i : Int) := ⟨_, rfl⟩
    rw [← hv0] at h1 hs4
    obtain ⟨v1, hv1⟩ : ∃ v, v = v0 + 1 := ⟨_, rfl⟩
    have hw1 : IntKind.i64.wrap (v0 + 1) = v1 := by rw [hv1]; exact wrp (by omega) (by omega)
    have hw2 : IntKind.i64.wrap (v1 + 1) = v1 + 1 := wrp (by omega) (by omega)
    rw [← hv1] at hs4
    generalize markO i c ++ xs.drop i = L at hp0 hll hs4
    clear hset
    have fx := And.intro h0 <| And.intro h1 <| And.intro hp0 <| And.intro h5 <| And.intro hil <| And.intro hll <| hw1
    refine k_run ?_
    clear fx
    refine ⟨xs.length - (i + 1), by omega, i + 1, rfl, by omega, by simp [h0], ?_, by simp [hw1, hs4], by simp; exact wrp (by omega) (by omega)⟩
    simp [hw1, hw2]
    omega
  · have hge : i = xs.length := by omega
    subst hge
    rw [List.drop_length, List.append_nil] at hp0
    have fx := And.intro h0 <| And.intro h1 <| And.intro hp0 <| And.intro h5 <| hil
    refine k_run ?_
    clear fx
    refine e_ret [] .nil (by simp; rfl) ⟨by simp, by simp [hp0]⟩
theorem heldOpS_fn (gl) (m : Nat) (c : Int) (hc : 0 ≤ c ∧ c ≤ 1152921504606846976) (hm : m ≤ 1048576) : FnOk Tryz.prog gl 35 [osl (markO m c), iv c] (fun _ y _ => y = iv (c + 2 * m)) := by
  have hml : (markO m c).length = m := markO_len
  refine FnOk.of_sem Tryz.func35 rfl (by kernel_rfl) (rs := [.tmp 4]) rfl Tryz.ntmps35 (Nat.le_of_ble_eq_true rfl) fun C w g root => ?_
  have fx := fx0
  refine k_run ?_
  clear fx
  refine w_loop (fun n st => ∃ i : Nat, n = m - i ∧ i ≤ m ∧ st.tm 0 = osl (markO m c) ∧ st.tm 1 = iv (c + 2 * i) ∧ st.tm 5 = iv i) m ⟨0, by simp⟩ ?_
  rintro n st - - ⟨i, rfl, hi, h0, h1, h5⟩
  by_cases hil : i < m
  · have hg : (markO m c)[i]? = some (c + 2 * i, c + 2 * i + 1) := by simp [markO, hil]
    obtain ⟨v0, hv0⟩ : ∃ v, v = c + 2 * (i : Int) := ⟨_, rfl⟩
    obtain ⟨v1, hv1⟩ : ∃ v, v = v0 + 1 := ⟨_, rfl⟩
    have hw1 : IntKind.i64.wrap (v0 + 1) = v1 := by rw [hv1]; exact wrp (by omega) (by omega)
    have hw2 : IntKind.i64.wrap (v1 + 1) = v1 + 1 := wrp (by omega) (by omega)
    rw [← hv0] at h1 hg
    rw [← hv1] at hg
    obtain ⟨_, hgE⟩ := gS hg
    have fx := And.intro h0 <| And.intro h1 <| And.intro h5 <| And.intro hil <| And.intro hg <| And.intro hgE <| And.intro hw1 <| @bne_def
    refine k_run ?_
    clear fx
    refine ⟨m - (i + 1), by omega, i + 1, rfl, by omega, by simp [h0], ?_, by simp; exact wrp (by omega) (by omega)⟩
    simp [hw1, hw2]
    omega
  · have hge : i = m := by omega
    subst hge
    have fx := And.intro h0 <| And.intro h1 <| And.intro h5 <| hil
    refine k_run ?_
    clear fx
    refine e_ret [] .nil (by simp; rfl) (by simp)
theorem eqCode_fn (gl) (k : Cod) (h : CodSm k) : FnOk Tryz.prog gl 9 [k.av, k.av] (fun _ z _ => z = bv true) := by
  obtain ⟨h1, h2, h3, h4, h5⟩ := h
  have e1 := eqIntS_fn gl k.params k.params (by omega) (by omega)
  have e2 := eqIntS_fn gl k.fasts k.fasts (by omega) (by omega)
  have e3 := eqIntS_fn gl k.cells k.cells (by omega) (by omega)
  have e4 := eqIntS_fn gl k.frees k.frees (by omega) (by omega)
  have e5 := eqOpS_fn gl k.ops k.ops (by omega) (by omega)
  simp only [decide_true] at e1 e2 e3 e4 e5
  refine FnOk.of_sem Tryz.func9 rfl (by kernel_rfl) (rs := [.tmp 4]) rfl Tryz.ntmps9 (Nat.le_of_ble_eq_true rfl) fun C w g root => ?_
  have fx :=  @bne_def
  have c1 := e1
  have c2 := e2
  have c3 := e3
  have c4 := e4
  have c5 := e5
  refine k_run ?_
  clear fx c1 c2 c3 c4 c5
  refine e_ret [] .nil (by simp; rfl) (by simp)
theorem heldCode_fn (gl) (k : Cod) (c : Int) (hc : 0 ≤ c ∧ c ≤ 1024) (h : CodSm k) : FnOk Tryz.prog gl 13 [(k.mark c).av, iv c] (fun _ z _ => z = iv (c + k.cnt)) := by
  obtain ⟨h1, h2, h3, h4, h5⟩ := h
  obtain ⟨c1, hc1⟩ : ∃ v, v = c + (k.params.length : Int) := ⟨_, rfl⟩
  obtain ⟨c2, hc2⟩ : ∃ v, v = c1 + (k.fasts.length : Int) := ⟨_, rfl⟩
  obtain ⟨c3, hc3⟩ : ∃ v, v = c2 + (k.cells.length : Int) := ⟨_, rfl⟩
  obtain ⟨c4, hc4⟩ : ∃ v, v = c3 + (k.frees.length : Int) := ⟨_, rfl⟩
  have q1 := heldIntS_fn gl k.params.length c (by omega) (by omega)
  have q2 := heldIntS_fn gl k.fasts.length c1 (by omega) (by omega)
  have q3 := heldIntS_fn gl k.cells.length c2 (by omega) (by omega)
  have q4 := heldIntS_fn gl k.frees.length c3 (by omega) (by omega)
  have q5 := heldOpS_fn gl k.ops.length c4 (by omega) (by omega)
  rw [← hc1] at q1
  rw [← hc2] at q2
  rw [← hc3] at q3
  rw [← hc4] at q4
  have hk : c + (k.cnt : Int) = c4 + 2 * k.ops.length := by simp only [Cod.cnt]; omega
  rw [hk]
  have hm : k.mark c = ⟨k.kind, markI k.params.length c, markI k.fasts.length c1, markI k.cells.length c2, markI k.frees.length c3, markO k.ops.length c4⟩ := by simp only [Cod.mark, hc1, hc2, hc3, hc4]
  rw [hm]
  have n1 : ¬ c1 < 0 := by omega
  have n2 : ¬ c2 < 0 := by omega
  have n3 : ¬ c3 < 0 := by omega
  have n4 : ¬ c4 < 0 := by omega
  have n5 : ¬ c4 + 2 * (k.ops.length : Int) < 0 := by omega
  clear hc1 hc2 hc3 hc4 hk hm
  refine FnOk.of_sem Tryz.func13 rfl (by kernel_rfl) (rs := [.tmp 4]) rfl Tryz.ntmps13 (Nat.le_of_ble_eq_true rfl) fun C w g root => ?_
  have fx := And.intro n1 <| And.intro n2 <| And.intro n3 <| And.intro n4 <| n5
  have c1 := q1
  have c2 := q2
  have c3 := q3
  have c4 := q4
  have c5 := q5
  refine k_run ?_
  clear fx c1 c2 c3 c4 c5
  refine e_ret [] .nil (by simp; rfl) (by simp)
theorem markCode_fn (gl) (H : Nm → Option AO) (k : Cod) (c : Int) (hT : H (.u 0 0 0) = some (.row 6 [k.own (.u 0 0 0) 0])) (hO : OwnK H (.u 0 0 0) 0 k) (hV : H (.u 1 0 0) = none) (hc : 0 ≤ c ∧ c ≤ 1024) (h : CodSm k) :
    FnE Tryz.prog gl 12 (Nm.under (.u 0 0 0)) [.agg (k.own (.u 0 0 0) 0), iv c] H (fun _ y H' => y = iv (c + k.cnt) ∧ H' (.u 0 0 0) = some (.row 6 [k.own (.u 0 0 0) 0]) ∧ OwnK H' (.u 0 0 0) 0 (k.mark c)) noE := by
  obtain ⟨h1, h2, h3, h4, h5⟩ := h
  obtain ⟨a1, a2, a3, a4, a5⟩ := hO
  rw [Cod.own_eq] at hT ⊢
  obtain ⟨c1, hc1⟩ : ∃ v, v = c + (k.params.length : Int) := ⟨_, rfl⟩
  obtain ⟨c2, hc2⟩ : ∃ v, v = c1 + (k.fasts.length : Int) := ⟨_, rfl⟩
  obtain ⟨c3, hc3⟩ : ∃ v, v = c2 + (k.cells.length : Int) := ⟨_, rfl⟩
  obtain ⟨c4, hc4⟩ : ∃ v, v = c3 + (k.frees.length : Int) := ⟨_, rfl⟩
  have m1 := fun H hH => markIntS_fn gl H k.params c hH (by omega) (by omega)
  have m2 := fun H hH => markIntS_fn gl H k.fasts c1 hH (by omega) (by omega)
  have m3 := fun H hH => markIntS_fn gl H k.cells c2 hH (by omega) (by omega)
  have m4 := fun H hH => markIntS_fn gl H k.frees c3 hH (by omega) (by omega)
  have m5 := fun H hH => markOpS_fn gl H k.ops c4 hH (by omega) (by omega)
  rw [← hc1] at m1
  rw [← hc2] at m2
  rw [← hc3] at m3
  rw [← hc4] at m4
  have hk : c + (k.cnt : Int) = c4 + 2 * k.ops.length := by simp only [Cod.cnt]; omega
  rw [hk]
  have hm : k.mark c = ⟨k.kind, markI k.params.length c, markI k.fasts.length c1, markI k.cells.length c2, markI k.frees.length c3, markO k.ops.length c4⟩ := by simp only [Cod.mark, hc1, hc2, hc3, hc4]
  rw [hm]
  clear hc1 hc2 hc3 hc4 hk hm
  refine FnE.of_sem Tryz.func12 rfl (by kernel_rfl) (rs := [.tmp 4]) rfl Tryz.ntmps12 (Nat.le_of_ble_eq_true rfl) (fun _ => under_usroot rfl) fun C w g root hroot => ?_
  have hx1 : (ctx0 Tryz.prog C w g H Tryz.f12.ntmps gl).ext (.u 1 0 0) = false := by simp [ctx0, hV]
  have fx := And.intro hT <| And.intro a1 <| And.intro a2 <| And.intro a3 <| And.intro a4 <| a5
  refine k_run ?_
  clear fx
  intro K hK
  have fx := fx0
  refine x_mutc (.c (.u 0 0 0) 0 1) (.u 1 0 0) (hext := hx1) (hs := by simp [a1]) (hF := m1 _ (by simp [a1])) (h := ?_)
  rintro y H1 ⟨rfl, hy1⟩
  clear fx
  have fx := And.intro hT <| And.intro a1 <| And.intro a2 <| And.intro a3 <| And.intro a4 <| a5
  refine k_run ?_
  clear fx
  intro K hK
  have fx := fx0
  refine x_mutc (.c (.u 0 0 0) 0 2) (.u 1 0 0) (hext := hx1) (hs := by simp [a2]) (hF := m2 _ (by simp [a2])) (h := ?_)
  rintro y H2 ⟨rfl, hy2⟩
  clear fx
  have fx := And.intro hT <| And.intro a1 <| And.intro a2 <| And.intro a3 <| And.intro a4 <| a5
  refine k_run ?_
  clear fx
  intro K hK
  have fx := fx0
  refine x_mutc (.c (.u 0 0 0) 0 3) (.u 1 0 0) (hext := hx1) (hs := by simp [a3]) (hF := m3 _ (by simp [a3])) (h := ?_)
  rintro y H3 ⟨rfl, hy3⟩
  clear fx
  have fx := And.intro hT <| And.intro a1 <| And.intro a2 <| And.intro a3 <| And.intro a4 <| a5
  refine k_run ?_
  clear fx
  intro K hK
  have fx := fx0
  refine x_mutc (.c (.u 0 0 0) 0 4) (.u 1 0 0) (hext := hx1) (hs := by simp [a4]) (hF := m4 _ (by simp [a4])) (h := ?_)
  rintro y H4 ⟨rfl, hy4⟩
  clear fx
  have fx := And.intro hT <| And.intro a1 <| And.intro a2 <| And.intro a3 <| And.intro a4 <| a5
  refine k_run ?_
  clear fx
  intro K hK
  have fx := fx0
  refine x_mutc (.c (.u 0 0 0) 0 5) (.u 1 0 0) (hext := hx1) (hs := by simp [a5]) (hF := m5 _ (by simp [a5])) (h := ?_)
  rintro y H5 ⟨rfl, hy5⟩
  clear fx
  have fx := fx0
  refine k_run ?_
  clear fx
  refine e_ret [] .nil (by simp; rfl) ⟨by simp, by simp [hT], ⟨by simp [hy1], by simp [hy2], by simp [hy3], by simp [hy4], by simp [hy5]⟩⟩
end Go.Proofs.YtnnpbiamlalnmaaGreatDoor
end
section
namespace Go.Proofs.YtnnpbiamlalnmaaGreatDoor
open Go.ChangeShapes Go.WideShapes Go.ChangeAt Go.RowKit Go.Deep Go.Hm
theorem law_u3 : Tryz.prog.underlying 3 = some (.int .i64) := by kernel_rfl
theorem law_c3 : Tryz.prog.cellsOf 3 = 1 := by kernel_rfl
theorem law_b3 : Tryz.prog.bytesOf 3 = 8 := by kernel_rfl
theorem law_u145 : Tryz.prog.underlying 115 = some (.struct #[{ name := "Kind", type := 3, offset := 0, embedded := false, tag := "", pkgPath := "", byteOffset := 0 }, { name := "To", type := 3, offset := 1, embedded := false, tag := "", pkgPath := "", byteOffset := 8 }, { name := "A", type := 3, offset := 2, embedded := false, tag := "", pkgPath := "", byteOffset := 16 }, { name := "B", type := 3, offset := 3, embedded := false, tag := "", pkgPath := "", byteOffset := 24 }]) := by kernel_rfl
theorem law_o145 : oneCellFields Tryz.prog #[{ name := "Kind", type := 3, offset := 0, embedded := false, tag := "", pkgPath := "", byteOffset := 0 }, { name := "To", type := 3, offset := 1, embedded := false, tag := "", pkgPath := "", byteOffset := 8 }, { name := "A", type := 3, offset := 2, embedded := false, tag := "", pkgPath := "", byteOffset := 16 }, { name := "B", type := 3, offset := 3, embedded := false, tag := "", pkgPath := "", byteOffset := 24 }] = true := by kernel_rfl
theorem law_c145 : Tryz.prog.cellsOf 115 = 4 := by kernel_rfl
theorem law_b145 : Tryz.prog.bytesOf 115 = 32 := by kernel_rfl
theorem law_u90 : Tryz.prog.underlying 63 = some (.struct #[{ name := "Kind", type := 3, offset := 0, embedded := false, tag := "", pkgPath := "", byteOffset := 0 }, { name := "Parent", type := 3, offset := 1, embedded := false, tag := "", pkgPath := "", byteOffset := 8 }, { name := "Params", type := 26, offset := 2, embedded := false, tag := "", pkgPath := "", byteOffset := 16 }, { name := "Body", type := 61, offset := 3, embedded := false, tag := "", pkgPath := "", byteOffset := 40 }]) := by kernel_rfl
theorem law_o90 : oneCellFields Tryz.prog #[{ name := "Kind", type := 3, offset := 0, embedded := false, tag := "", pkgPath := "", byteOffset := 0 }, { name := "Parent", type := 3, offset := 1, embedded := false, tag := "", pkgPath := "", byteOffset := 8 }, { name := "Params", type := 26, offset := 2, embedded := false, tag := "", pkgPath := "", byteOffset := 16 }, { name := "Body", type := 61, offset := 3, embedded := false, tag := "", pkgPath := "", byteOffset := 40 }] = true := by kernel_rfl
theorem law_c90 : Tryz.prog.cellsOf 63 = 4 := by kernel_rfl
theorem law_b90 : Tryz.prog.bytesOf 63 = 64 := by kernel_rfl
theorem law_u24 : Tryz.prog.underlying 24 = some (.struct #[{ name := "Blocks", type := 22, offset := 0, embedded := false, tag := "", pkgPath := "", byteOffset := 0 }]) := by kernel_rfl
theorem law_o24 : oneCellFields Tryz.prog #[{ name := "Blocks", type := 22, offset := 0, embedded := false, tag := "", pkgPath := "", byteOffset := 0 }] = true := by kernel_rfl
theorem law_c24 : Tryz.prog.cellsOf 24 = 1 := by kernel_rfl
theorem law_u41 : Tryz.prog.underlying 26 = some (.slice 3) := by kernel_rfl
theorem law_u88 : Tryz.prog.underlying 61 = some (.slice 115) := by kernel_rfl
theorem law_u22 : Tryz.prog.underlying 22 = some (.slice 63) := by kernel_rfl
set_option maxRecDepth 100000 in
theorem rd_program {H : Type} {enc : TypeId × Value → H} {w : World} {r : Reach} {b0 : Nat} {v : Value} {d : DataW H} {p : List MemPlace} (hv : Value.okWide Tryz.prog w r b0 24 v) (h : DataW.Trod enc Tryz.prog w 0 (fun _ => true) true 24 v d p)
    (hw : ∀ m ∈ d.weights Tryz.prog 24, m ≤ reachBytes) : ∃ x : Prg, Big x ∧ RV (g0 w) w v (pav x) := by
  refine rd_prog (P := Tryz.prog) (w := w) (tp := (24 : TypeId)) (v := v) (d := d) (p := p) (r := r) (q0 := b0) (enc := enc) law_u3 law_c3 (by rw [law_b3]; decide) law_u145 law_o145 law_c145 (by rw [law_b145]; decide) rfl rfl rfl rfl law_u41 law_u88 law_u90 law_o90 law_c90 (by rw [law_b90]; decide) rfl rfl rfl rfl law_u22 law_u24 law_o24 law_c24 rfl ?_ ?_ ?_
  · assumption
  · assumption
  · assumption
theorem law_own : ownKnob Tryz.prog.godebug = none := by kernel_rfl
theorem law_laid : laidOutB Tryz.prog = true := by kernel_rfl
theorem law_bool : Tryz.prog.underlying 4 = some .bool := by kernel_rfl
end Go.Proofs.YtnnpbiamlalnmaaGreatDoor
end
