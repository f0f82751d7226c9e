/-
  Own texts, joined by mkclaim.py: Gt, Xc, Gn, Ka, Kb, Kj, Kl, Kn, Ko, Uh, Uia, Up, Uq, Gu, Gv, Gw.
-/
import Derived.Test.YtmaoicgfcngciaaGreatDoorP18
import Derived.Test.YtmaoicgfcngciaaGreatDoorP10
import Derived.Test.YtmaoicgfcngciaaGreatDoorP11
import Derived.Test.YtmaoicgfcngciaaGreatDoorP16
import Derived.Test.YtmaoicgfcngciaaGreatDoorP15
import Derived.Test.YtmaoicgfcngciaaGreatDoorP21
import Derived.Test.YtmaoicgfcngciaaGreatDoorP19
set_option linter.unusedSimpArgs false
set_option linter.unusedVariables false
set_option maxRecDepth 100000
set_option maxHeartbeats 4000000

section
namespace Go.Proofs.YtmaoicgfcngciaaGreatDoor
open Go Go.Hm Go.Proofs
abbrev qsGt0 : Sch := .q 0 <| .q 1 <| .q 2 <| .q 3 <| .q 4 <| .q 5 <| .q 6 <| .q 7 <| .q 8 <| .q 9 <| .q 10 <| .q 11 <| .q 12 <| .q 13 <| .q 14 <| .q 15 <| .q 16 <| .q 17 <| .q 18 <| .q 19 <| .q 20 <| .q 21 <| .q 22 <| .q 23 <| .q 24 <| .q 25 <| .q 26 <| .q 27 <| .q 28 <| .q 29 <| .q 30 <| .q 31 <| .q 32 <| .q 33 <| .q 34 <| .q 35 <| .q 36 <| .q 37 <| .q 38 <| .q 39 <| .q 40 <| .q 41 <| .q 42 <| .q 43 <| .q 44 <| .l 45 [] <| .done
theorem tmod_nat {v : Int} {n : Nat} (hv : 0 ≤ v) (hn : 0 < n) : ∃ k : Nat, v.tmod n = k ∧ k < n := by
  have h1 := Int.tmod_nonneg n hv
  have h2 := Int.tmod_lt_of_pos v (show (0 : Int) < n by omega)
  exact ⟨(v.tmod n).toNat, by omega, by omega⟩
theorem xor_nat {x y : Int} (hx : 0 ≤ x ∧ x ≤ 1000000000000) (hy : 0 ≤ y ∧ y ≤ 1000000000000) : ∃ r : Nat, IntKind.i64.wrap (((x % 2 ^ IntKind.i64.bits).toNat ^^^ (y % 2 ^ IntKind.i64.bits).toNat : Nat) : Int) = r := by
  have e : ∀ z : Int, 0 ≤ z ∧ z ≤ 1000000000000 → (z % 2 ^ IntKind.i64.bits).toNat < 2 ^ 40 := by
    intro z hz
    simp only [show IntKind.i64.bits = 64 from rfl]
    omega
  have h := Nat.xor_lt_two_pow (e x hx) (e y hy)
  exact ⟨_, wrp (by omega) (by omega)⟩
@[simp] theorem int_xorv {k : IntKind} {x y : Int} : intAV k .xor x y = some (.sc (.int k (k.wrap ((BitVec.ofInt k.bits x ^^^ BitVec.ofInt k.bits y).toNat : Int)))) := rfl
theorem pick_fn (gl) (H : Nm → Option AO) (bs : List Int) (pos n : Nat) (hb : BytesOk bs) (hpos : pos ≤ 1000000) (hn : n ≤ 1000000) (hH : H (.u 1 0 0) = some (rdO bs pos)) :
    FnE Tryz.prog gl 98 (Nm.under (.u 1 0 0)) [.pt (.u 1 0 0) 0, iv n] H (fun _ z H' => ∃ k : Nat, z = iv k ∧ (k = 0 ∨ k < n) ∧ H' (.u 1 0 0) = some (rdO bs (pos + 1))) noE := by
  have w1 : IntKind.i64.wrap ((pos : Int) + 1) = pos + 1 := wrp (by omega) (by omega)
  have w0 : IntKind.i64.wrap (pos : Int) = pos := wrp (by omega) (by omega)
  have hbl := hb.len
  refine FnE.of_sem Tryz.func98 rfl (by kernel_rfl) (rs := [.tmp 4]) rfl Tryz.ntmps98 (Nat.le_of_ble_eq_true rfl) (fun _ => under_usroot rfl) fun C w g root hroot => ?_
  rcases Nat.eq_zero_or_pos n with rfl | hn0
  · skip
    have fx := And.intro hH <| w1
    refine k_run ?_
    repeat ((first | refine wSc (id := 7) qsGt0 mixed ?_); refine k_rund ?_; refine k_run ?_)
    clear fx
    refine e_ret [] .nil (by simp; rfl) ⟨0, by simp, .inl rfl, by simp [hH]⟩
  have hn1 : ¬ (n : Int) < 1 := by omega
  rcases Nat.eq_zero_or_pos bs.length with hl0 | hl
  · skip
    have fx := And.intro hH <| And.intro w1 <| And.intro hn1 <| hl0
    refine k_run ?_
    repeat ((first | refine wSc (id := 7) qsGt0 mixed ?_); refine k_rund ?_; refine k_run ?_)
    clear fx
    refine e_ret [] .nil (by simp; rfl) ⟨0, by simp, .inl rfl, by simp [hH]⟩
  have hl1 : ((bs.length : Int) == 0) = false := by rw [beq_eq_false_iff_ne]; omega
  have hn2 : ¬ n = 0 := by omega
  by_cases hpl : pos < bs.length
  · obtain ⟨v, hv⟩ : ∃ v, bs[pos]? = some v := ⟨_, gE hpl⟩
    obtain ⟨_, hvE⟩ := gS hv
    have hvr := hb.rng v (List.mem_of_getElem? hv)
    obtain ⟨k, hk, hkn⟩ := tmod_nat hvr.1 hn0
    have wv : IntKind.i64.wrap v = v := wrp (by omega) (by omega)
    have fx := And.intro hH <| And.intro w1 <| And.intro w0 <| And.intro hn1 <| And.intro hl1 <| And.intro hpl <| And.intro hv <| And.intro hvE <| And.intro hn2 <| And.intro hk <| wv
    refine k_run ?_
    repeat ((first | refine wSc (id := 7) qsGt0 mixed ?_); refine k_rund ?_; refine k_run ?_)
    clear fx
    refine e_ret [] .nil (by simp; rfl) ⟨k, by simp, .inr hkn, by simp [hH]⟩
  have hbl0 : ¬ bs.length = 0 := by omega
  obtain ⟨i1, hi1, hi1l⟩ := tmod_nat (v := (pos : Int)) (by omega) hl
  obtain ⟨i2, hi2, hi2l⟩ := tmod_nat (v := (pos : Int) * 7 + 3) (by omega) hl
  obtain ⟨b1, hb1⟩ : ∃ v, bs[i1]? = some v := ⟨_, gE hi1l⟩
  obtain ⟨b2, hb2⟩ : ∃ v, bs[i2]? = some v := ⟨_, gE hi2l⟩
  obtain ⟨_, hb1E⟩ := gS hb1
  obtain ⟨_, hb2E⟩ := gS hb2
  have hr1 := hb.rng b1 (List.mem_of_getElem? hb1)
  have hr2 := hb.rng b2 (List.mem_of_getElem? hb2)
  have wb1 : IntKind.i64.wrap b1 = b1 := wrp (by omega) (by omega)
  have wb2 : IntKind.i64.wrap b2 = b2 := wrp (by omega) (by omega)
  have w7 : IntKind.i64.wrap ((pos : Int) * 7) = pos * 7 := wrp (by omega) (by omega)
  have w73 : IntKind.i64.wrap ((pos : Int) * 7 + 3) = pos * 7 + 3 := wrp (by omega) (by omega)
  obtain ⟨q, hq, hql⟩ : ∃ q : Nat, (pos : Int) / (bs.length : Int) = q ∧ q ≤ pos := ⟨pos / bs.length, by simp, Nat.div_le_self _ _⟩
  have wq : IntKind.i64.wrap (q : Int) = q := wrp (by omega) (by omega)
  have w131 : IntKind.i64.wrap (b1 * 131) = b1 * 131 := wrp (by omega) (by omega)
  have w1117 : IntKind.i64.wrap (b2 * 1117) = b2 * 1117 := wrp (by omega) (by omega)
  have wa : IntKind.i64.wrap (b1 * 131 + b2 * 1117) = b1 * 131 + b2 * 1117 := wrp (by omega) (by omega)
  have w29 : IntKind.i64.wrap ((pos : Int) * 29) = pos * 29 := wrp (by omega) (by omega)
  have wb : IntKind.i64.wrap (b1 * 131 + b2 * 1117 + pos * 29) = b1 * 131 + b2 * 1117 + pos * 29 := wrp (by omega) (by omega)
  have w53 : IntKind.i64.wrap ((q : Int) * 53) = q * 53 := wrp (by omega) (by omega)
  obtain ⟨X, hX⟩ : ∃ X, X = b1 * 131 + b2 * 1117 + pos * 29 + q * 53 := ⟨_, rfl⟩
  have wX : IntKind.i64.wrap (b1 * 131 + b2 * 1117 + pos * 29 + q * 53) = X := by rw [hX]; exact wrp (by omega) (by omega)
  obtain ⟨Y, hY, hYr⟩ : ∃ Y, X.tdiv 64 = Y ∧ 0 ≤ Y ∧ Y ≤ X := by
    refine ⟨_, rfl, Int.tdiv_nonneg (by omega) (by decide), ?_⟩
    exact Int.tdiv_le_self _ (by omega)
  have wY : IntKind.i64.wrap Y = Y := wrp (by omega) (by omega)
  obtain ⟨r, hr⟩ := xor_nat (x := X) (y := Y) (by omega) (by omega)
  obtain ⟨k, hk, hkn⟩ := tmod_nat (v := (r : Int)) (by omega) hn0
  have fx := And.intro hH <| And.intro w1 <| And.intro w0 <| And.intro hn1 <| And.intro hl1 <| And.intro hpl <| And.intro hi1 <| And.intro hi2 <| And.intro hi1l <| And.intro hi2l <| And.intro hb1 <| And.intro hb2 <| And.intro hb1E <| And.intro hb2E <| And.intro wb1 <| And.intro wb2 <| And.intro w7 <| And.intro w73 <| And.intro hbl0 <| And.intro hq <| And.intro wq <| And.intro w131 <| And.intro w1117 <| And.intro wa <| And.intro w29 <| And.intro wb <| And.intro w53 <| And.intro wX <| And.intro hY <| And.intro wY <| And.intro hr <| And.intro hn2 <| hk
  refine k_run ?_
  repeat ((first | refine wSc (id := 7) qsGt0 mixed ?_); refine k_rund ?_; refine k_run ?_)
  clear fx
  refine e_ret [] .nil (by simp; rfl) ⟨k, by simp, .inr hkn, by simp [hH]⟩
theorem one_fn (gl) (H : Nm → Option AO) (bs : List Int) (pos : Nat) (xs : List Int) (hb : BytesOk bs) (hpos : pos ≤ 1000000) (hx : 0 < xs.length ∧ xs.length ≤ 1000) (hH : H (.u 1 0 0) = some (rdO bs pos)) (hL : H (.u 2 0 0) = some (.row 1 (irows xs))) :
    FnE Tryz.prog gl 100 D12 [.pt (.u 1 0 0) 0, .hs (.u 2 0 0) 1 0 xs.length] H (fun _ z H' => ∃ v, z = iv v ∧ v ∈ xs ∧ H' (.u 1 0 0) = some (rdO bs (pos + 1))) noE := by
  have hxl := hx.2
  refine FnE.of_sem Tryz.func100 rfl (by kernel_rfl) (rs := [.tmp 4]) rfl Tryz.ntmps100 (Nat.le_of_ble_eq_true rfl) (fun _ => D12_root) fun C w g root hroot => ?_
  all_goals have fx := fx0
  repeat' (first
   | refine w_seq ?_ | refine w_reg fun K hK => ?_
   | ((with_reducible refine s_end hK ?_); clear hK K)
   | (with_reducible first | refine then_normal ?_ | refine then_ret ?_)
   | refine w_ret ?_
   | (with_reducible first | refine s_none ?_ | refine x_assign (h := ?_))
   | (with_reducible refine x_q (h := ?_))
   | fail)
  all_goals try clear fx
  have fx := hxl
  refine x_mut (.u 1 0 0) rfl (by simp [hH]) (hF := pick_fn _ _ bs pos xs.length hb hpos (by omega) (by simp [hH])) (h := ?_)
  rintro z H1 ⟨k, rfl, hk, hk1⟩
  have hkl : k < xs.length := by omega
  obtain ⟨v, hv⟩ : ∃ v, xs[k]? = some v := ⟨_, gE hkl⟩
  obtain ⟨_, hvE⟩ := gS hv
  clear fx
  have fx := And.intro hL <| And.intro hkl <| And.intro hv <| hvE
  refine k_run ?_
  clear fx
  refine e_ret [] .nil (by simp; rfl) ⟨v, by simp, List.mem_of_getElem? hv, by simp [hk1]⟩
theorem oneOk (gl) : OneOk Tryz.prog gl 100 := fun H bs pos xs hb hp hx hH hL => one_fn gl H bs pos xs hb hp hx hH hL
theorem aName_fn (gl) (H : Nm → Option AO) (bs : List Int) (pos : Nat) (hb : BytesOk bs) (hpos : pos ≤ 1000000) (hH : H (.u 1 0 0) = some (rdO bs pos)) (hV : H (.u 2 0 0) = none) :
    FnE Tryz.prog gl 181 (Nm.under (.u 1 0 0)) [.pt (.u 1 0 0) 0] H (fun _ z H' => ∃ v, z = iv v ∧ (0 ≤ v ∧ v ≤ 7) ∧ H' (.u 1 0 0) = some (rdO bs (pos + 1))) noE := by
  refine FnE.of_sem Tryz.func181 rfl (by kernel_rfl) (rs := [.tmp 2]) rfl Tryz.ntmps181 (Nat.le_of_ble_eq_true rfl) (fun _ => under_usroot rfl) fun C w g root hroot => ?_
  have fx := fx0
  refine k_run ?_
  clear fx
  first | show SemOp _ _ _ _ _ | intro K hK
  refine x_one (oneOk _) 4 [0, 1, 2, 0, 1, 3, 7] hb hpos (hV := hV) (h0 := by simp) (h1 := by simp) (hH := by simp [hH]) (hL := by simp [irows]) (h := ?_)
  intro v hv
  have hvR : 0 ≤ v ∧ v ≤ 7 := by simp at hv; omega
  have fx := fx0
  refine k_run ?_
  clear fx
  refine e_ret [] .nil (by simp; rfl) ⟨v, by simp, hvR, by simp⟩
theorem pick_rd (gl) (H : Nm → Option AO) (bs : List Int) (pos n : Nat) (hb : BytesOk bs) (hpos : pos ≤ 1000000) (hn : n ≤ 1000000) (hH : H (.u 1 0 0) = some (rdO bs pos)) :
    FnE Tryz.prog gl 98 (Nm.under (.u 1 0 0)) [.pt (.u 1 0 0) 0, iv n] H (RdPost bs (fun k : Nat => iv k) (fun k pos' => (k = 0 ∨ k < n) ∧ pos' = pos + 1)) noE :=
  FnE.mono (pick_fn gl H bs pos n hb hpos hn hH) (fun _ _ _ ⟨k, h1, h2, h3⟩ => ⟨k, pos + 1, h1, ⟨h2, rfl⟩, h3⟩) (fun _ _ _ h => h)
theorem aName_rd (gl) (H : Nm → Option AO) (bs : List Int) (pos : Nat) (hb : BytesOk bs) (hpos : pos ≤ 1000000) (hH : H (.u 1 0 0) = some (rdO bs pos)) (hV : H (.u 2 0 0) = none) :
    FnE Tryz.prog gl 181 (Nm.under (.u 1 0 0)) [.pt (.u 1 0 0) 0] H (RdPost bs (fun v : Int => iv v) (fun v pos' => (0 ≤ v ∧ v ≤ 7) ∧ pos' = pos + 1)) noE :=
  FnE.mono (aName_fn gl H bs pos hb hpos hH hV) (fun _ _ _ ⟨v, h1, h2, h3⟩ => ⟨v, pos + 1, h1, ⟨h2, rfl⟩, h3⟩) (fun _ _ _ h => h)
end Go.Proofs.YtmaoicgfcngciaaGreatDoor
end
section
namespace Go.Proofs.YtmaoicgfcngciaaGreatDoor
open Go Go.Hm Go.Proofs
abbrev qsXc0 : Sch := .q 0 <| .q 1 <| .q 2 <| .q 3 <| .q 7 <| .q 8 <| .q 9 <| .q 10 <| .l 4 [10, 9, 8, 7, 3, 2, 1, 0] <| .l 5 [10, 9, 8, 7, 2, 1, 0] <| .q 6 <| .q 11 <| .l 12 [] <| .done
attribute [local simp] slcAV
theorem of_fn (gl) (H : Nm → Option AO) (bs : List Int) (pos : Nat) (xs : List Txt) (hb : BytesOk bs) (hpos : pos ≤ 1000000) (hx : 0 < xs.length ∧ xs.length ≤ 1000) (hH : H (.u 1 0 0) = some (rdO bs pos)) (hL : H (.u 2 0 0) = some (.row 1 (xrows xs))) :
    FnE Tryz.prog gl 157 D12 [.pt (.u 1 0 0) 0, .hs (.u 2 0 0) 1 0 xs.length] H (fun _ z H' => ∃ v, z = tx v ∧ v ∈ xs ∧ H' (.u 1 0 0) = some (rdO bs (pos + 1))) noE := by
  have hxl := hx.2
  refine FnE.of_sem Tryz.func157 rfl (by kernel_rfl) (rs := [.tmp 4]) rfl Tryz.ntmps157 (Nat.le_of_ble_eq_true rfl) (fun _ => D12_root) fun C w g root hroot => ?_
  have fx := fx0
  refine k_run ?_
  clear fx
  first | show SemOp _ _ _ _ _ | intro K hK
  have fx := hxl
  refine x_mut (.u 1 0 0) rfl (by simp [hH]) (hF := pick_fn _ _ bs pos xs.length hb hpos (by omega) (by simp [hH])) (h := ?_)
  rintro z H1 ⟨k, rfl, hk, hk1⟩
  have hkl : k < xs.length := by omega
  obtain ⟨v, hv⟩ : ∃ v, xs[k]? = some v := ⟨_, gE hkl⟩
  obtain ⟨_, hvE⟩ := gS hv
  clear fx
  have fx := And.intro hL <| And.intro hkl <| And.intro hv <| hvE
  refine k_run ?_
  clear fx
  refine e_ret [] .nil (by simp; rfl) ⟨v, by simp, List.mem_of_getElem? hv, by simp [hk1]⟩
theorem ofOk (gl) : OfOk Tryz.prog gl 157 := fun H bs pos xs hb hp hx hH hL => of_fn gl H bs pos xs hb hp hx hH hL
theorem mutate_fn (gl) (H : Nm → Option AO) (bs : List Int) (pos : Nat) (v : Txt) (hv : v.length ≤ 900000) (hb : BytesOk bs) (hpos : pos ≤ 900000) (hH : H (.u 1 0 0) = some (rdO bs pos)) (hV : H (.u 2 0 0) = none) :
    FnE Tryz.prog gl 111 (Nm.under (.u 1 0 0)) [.pt (.u 1 0 0) 0, tx v] H (RdPost bs (fun u : Txt => tx u) (fun u pos' => u.length ≤ v.length + 1 ∧ pos' ≤ pos + 3)) noE := by
  have hwl : IntKind.i64.wrap ((v.length : Int) + 1) = ((v.length + 1 : Nat) : Int) := by rw [wrp (by omega) (by omega)]; omega
  refine FnE.of_sem Tryz.func111 rfl (by kernel_rfl) (rs := [.tmp 4]) rfl Tryz.ntmps111 (Nat.le_of_ble_eq_true rfl) (fun _ => under_usroot rfl) fun C w g root hroot => ?_
  have fx :=  hwl
  refine k_run ?_
  repeat ((first | refine wSc (id := 6) qsXc0 mixed ?_); refine k_rund ?_; refine k_run ?_)
  clear fx
  first | show SemOp _ _ _ _ _ | intro K hK
  refine x_rd (hs := by simp [hH]) (ha := by first | (simp; done) | (simp; rfl)) (hF := pick_rd _ _ bs pos (v.length + 1) hb (by omega) (by omega) (by simp [hH])) (h := ?_)
  rintro k pk ⟨hk, rfl⟩
  have hkl : k ≤ v.length := by omega
  clear hk
  have fx := fx0
  refine k_run ?_
  repeat ((first | refine wSc (id := 6) qsXc0 mixed ?_); refine k_rund ?_; refine k_run ?_)
  clear fx
  intro K hK
  refine x_rd (hs := by simp) (ha := by first | (simp; done) | (simp; rfl)) (hF := pick_rd _ _ bs (pos + 1) 5 hb (by omega) (by omega) (by simp)) (h := ?_)
  rintro c pc ⟨hc, rfl⟩
  have hcc : c = 0 ∨ c = 1 ∨ c = 2 ∨ c = 3 ∨ c = 4 := by omega
  clear hc
  rcases hcc with rfl | rfl | rfl | rfl | rfl
  · by_cases hkv : k < v.length
    · have hkv2 : (k : Int) < (v.length : Int) := by omega
      have hwk : IntKind.i64.wrap ((k : Int) + 1) = (k : Int) + 1 := wrp (by omega) (by omega)
      have hle1 : (k : Int) + 1 ≤ (v.length : Int) := by omega
      have hk0 : (0 : Int) ≤ (k : Int) + 1 := by omega
      have htn : ((k : Int) + 1).toNat = k + 1 := by omega
      have htk : (v.drop (k + 1)).take (v.length - (k + 1)) = v.drop (k + 1) := List.take_of_length_le (by simp)
      have fx := And.intro hkl <| And.intro hkv <| And.intro hkv2 <| And.intro hwk <| And.intro hle1 <| And.intro hk0 <| And.intro htn <| htk
      refine k_run ?_
      repeat ((first | refine wSc (id := 6) qsXc0 mixed ?_); refine k_rund ?_; refine k_run ?_)
      clear fx
      first | show SemOp _ _ _ _ _ | intro K hK
      refine x_of (ofOk _) 24 [[48], [49], [32], [45], [112], [10], [57]] (bs := bs) (pos := pos + 1 + 1) hb (by omega) (hV := hV) (h0 := by simp) (h1 := by simp) (hH := by simp) (hL := by simp [xrows]) (h := ?_)
      intro u hu
      have hul : u.length = 1 := by
        simp only [List.mem_cons, List.not_mem_nil, or_false] at hu
        rcases hu with rfl | rfl | rfl | rfl | rfl | rfl | rfl <;> rfl
      have hmn : min k v.length = k := by omega
      have hl1 : ∀ c, 2000000000 ≤ c → k + u.length ≤ c := fun c hc => by omega
      have hl2 : ∀ c, 2000000000 ≤ c → k + u.length + (v.length - (k + 1)) ≤ c := fun c hc => by omega
      have hl3 : ∀ c, 2000000000 ≤ c → k + (u.length + (v.length - (k + 1))) ≤ c := fun c hc => by omega
      have fx := And.intro hkl <| And.intro hkv <| And.intro hkv2 <| And.intro hwk <| And.intro hle1 <| And.intro hk0 <| And.intro htn <| And.intro htk <| And.intro hmn <| And.intro hl1 <| And.intro hl2 <| hl3
      refine k_run ?_
      repeat ((first | refine wSc (id := 6) qsXc0 mixed ?_); refine k_rund ?_; refine k_run ?_)
      clear fx
      exact e_ret [] .nil (by simp; rfl) ⟨v.take k ++ u ++ v.drop (k + 1), pos + 1 + 1 + 1, by simp, ⟨by simp; omega, by omega⟩, by simp⟩
    · have hkv2 : ¬ (k : Int) < (v.length : Int) := by omega
      have fx := And.intro hkv <| hkv2
      refine k_run ?_
      repeat ((first | refine wSc (id := 6) qsXc0 mixed ?_); refine k_rund ?_; refine k_run ?_)
      clear fx
      exact e_ret [] .nil (by simp; rfl) ⟨v, pos + 1 + 1, by simp, ⟨by omega, by omega⟩, by simp⟩
  · by_cases hkv : k < v.length
    · have hkv2 : (k : Int) < (v.length : Int) := by omega
      have hwk : IntKind.i64.wrap ((k : Int) + 1) = (k : Int) + 1 := wrp (by omega) (by omega)
      have hle1 : (k : Int) + 1 ≤ (v.length : Int) := by omega
      have hk0 : (0 : Int) ≤ (k : Int) + 1 := by omega
      have htn : ((k : Int) + 1).toNat = k + 1 := by omega
      have htk : (v.drop (k + 1)).take (v.length - (k + 1)) = v.drop (k + 1) := List.take_of_length_le (by simp)
      have fx := And.intro hkl <| And.intro hkv <| And.intro hkv2 <| And.intro hwk <| And.intro hle1 <| And.intro hk0 <| And.intro htn <| htk
      refine k_run ?_
      repeat ((first | refine wSc (id := 6) qsXc0 mixed ?_); refine k_rund ?_; refine k_run ?_)
      clear fx
      first | show SemOp _ _ _ _ _ | intro K hK
      refine x_of (ofOk _) 24 [[48], [49], [32], [45], [112], [10], [57]] (bs := bs) (pos := pos + 1 + 1) hb (by omega) (hV := hV) (h0 := by simp) (h1 := by simp) (hH := by simp) (hL := by simp [xrows]) (h := ?_)
      intro u hu
      have hul : u.length = 1 := by
        simp only [List.mem_cons, List.not_mem_nil, or_false] at hu
        rcases hu with rfl | rfl | rfl | rfl | rfl | rfl | rfl <;> rfl
      have hmn : min k v.length = k := by omega
      have hl1 : ∀ c, 2000000000 ≤ c → k + u.length ≤ c := fun c hc => by omega
      have hl2 : ∀ c, 2000000000 ≤ c → k + u.length + (v.length - (k + 1)) ≤ c := fun c hc => by omega
      have hl3 : ∀ c, 2000000000 ≤ c → k + (u.length + (v.length - (k + 1))) ≤ c := fun c hc => by omega
      have fx := And.intro hkl <| And.intro hkv <| And.intro hkv2 <| And.intro hwk <| And.intro hle1 <| And.intro hk0 <| And.intro htn <| And.intro htk <| And.intro hmn <| And.intro hl1 <| And.intro hl2 <| hl3
      refine k_run ?_
      repeat ((first | refine wSc (id := 6) qsXc0 mixed ?_); refine k_rund ?_; refine k_run ?_)
      clear fx
      exact e_ret [] .nil (by simp; rfl) ⟨v.take k ++ u ++ v.drop (k + 1), pos + 1 + 1 + 1, by simp, ⟨by simp; omega, by omega⟩, by simp⟩
    · have hkv2 : ¬ (k : Int) < (v.length : Int) := by omega
      have fx := And.intro hkv <| hkv2
      refine k_run ?_
      repeat ((first | refine wSc (id := 6) qsXc0 mixed ?_); refine k_rund ?_; refine k_run ?_)
      clear fx
      exact e_ret [] .nil (by simp; rfl) ⟨v, pos + 1 + 1, by simp, ⟨by omega, by omega⟩, by simp⟩
  · have hkv2 : (k : Int) ≤ (v.length : Int) := by omega
    have fx := And.intro hkl <| hkv2
    refine k_run ?_
    repeat ((first | refine wSc (id := 6) qsXc0 mixed ?_); refine k_rund ?_; refine k_run ?_)
    clear fx
    exact e_ret [] .nil (by simp; rfl) ⟨v.take k, pos + 1 + 1, by simp, ⟨by simp; omega, by omega⟩, by simp⟩
  · skip
    have fx := fx0
    refine k_run ?_
    repeat ((first | refine wSc (id := 6) qsXc0 mixed ?_); refine k_rund ?_; refine k_run ?_)
    clear fx
    first | show SemOp _ _ _ _ _ | intro K hK
    refine x_of (ofOk _) 41 [[48], [32], [10], [120]] (bs := bs) (pos := pos + 1 + 1) hb (by omega) (hV := hV) (h0 := by simp) (h1 := by simp) (hH := by simp) (hL := by simp [xrows]) (h := ?_)
    intro u hu
    have hul : u.length = 1 := by
      simp only [List.mem_cons, List.not_mem_nil, or_false] at hu
      rcases hu with rfl | rfl | rfl | rfl <;> rfl
    have hl1 : ∀ c, 2000000000 ≤ c → v.length + u.length ≤ c := fun c hc => by omega
    have fx :=  hl1
    refine k_run ?_
    repeat ((first | refine wSc (id := 6) qsXc0 mixed ?_); refine k_rund ?_; refine k_run ?_)
    clear fx
    exact e_ret [] .nil (by simp; rfl) ⟨v ++ u, pos + 1 + 1 + 1, by simp, ⟨by simp; omega, by omega⟩, by simp⟩
  · skip
    have fx := fx0
    refine k_run ?_
    repeat ((first | refine wSc (id := 6) qsXc0 mixed ?_); refine k_rund ?_; refine k_run ?_)
    clear fx
    exact e_ret [] .nil (by simp; rfl) ⟨v, pos + 1 + 1, by simp, ⟨by omega, by omega⟩, by simp⟩
end Go.Proofs.YtmaoicgfcngciaaGreatDoor
end
section
namespace Go.Proofs.YtmaoicgfcngciaaGreatDoor
open Go Go.Hm Go.Proofs
end Go.Proofs.YtmaoicgfcngciaaGreatDoor
end
section
namespace Go.Proofs.YtmaoicgfcngciaaGreatDoor
open Go Go.Hm Go.Proofs
end Go.Proofs.YtmaoicgfcngciaaGreatDoor
end
section
namespace Go.Proofs.YtmaoicgfcngciaaGreatDoor
open Go Go.Hm Go.Proofs
end Go.Proofs.YtmaoicgfcngciaaGreatDoor
end
section
namespace Go.Proofs.YtmaoicgfcngciaaGreatDoor
open Go Go.Hm Go.Proofs
end Go.Proofs.YtmaoicgfcngciaaGreatDoor
end
section
namespace Go.Proofs.YtmaoicgfcngciaaGreatDoor
open Go Go.Hm Go.Proofs
end Go.Proofs.YtmaoicgfcngciaaGreatDoor
end
section
namespace Go.Proofs.YtmaoicgfcngciaaGreatDoor
open Go Go.Hm Go.Proofs
attribute [local simp] slcAV
end Go.Proofs.YtmaoicgfcngciaaGreatDoor
end
section
namespace Go.Proofs.YtmaoicgfcngciaaGreatDoor
open Go Go.Hm Go.Proofs
attribute [local simp] slcAV
end Go.Proofs.YtmaoicgfcngciaaGreatDoor
end
section
namespace Go.Proofs.YtmaoicgfcngciaaGreatDoor
open Go Go.Hm Go.Proofs
theorem someStmt_fn (gl) (H : Nm → Option AO) (bs : List Int) (pos : Nat) (kind : Int) (hb : BytesOk bs) (hpos : pos ≤ 900000) (hH : H (.u 1 0 0) = some (rdO bs pos)) (hV : H (.u 2 0 0) = none) :
    FnE Tryz.prog gl 180 (Nm.under (.u 1 0 0)) [.pt (.u 1 0 0) 0, iv kind] H (RdPost bs (fun s : Stm => s.av) (fun s pos' => (pos ≤ pos' ∧ pos' ≤ pos + 8) ∧ TxtS s)) noE := by
  refine FnE.of_sem Tryz.func180 rfl (by kernel_rfl) (rs := [.cell 4 86]) rfl Tryz.ntmps180 (Nat.le_of_ble_eq_true rfl) (fun _ => under_usroot rfl) fun C w g root hroot => ?_
  have fx := fx0
  refine k_run ?_
  clear fx
  first | show SemOp _ _ _ _ _ | intro K hK
  refine x_one (oneOk _) 7 [0, 1, 2, 0, 1, 3] (bs := bs) (pos := pos) hb (by omega) (hV := hV) (h0 := by simp) (h1 := by simp) (hH := by simp [hH]) (hL := by simp [irows]) (h := ?_)
  intro to hto
  have htoR : 0 ≤ to ∧ to ≤ 99 := by simp at hto; omega
  have fx := fx0
  refine k_run ?_
  clear fx
  first | show SemOp _ _ _ _ _ | intro K hK
  refine x_rd (hs := by simp) (ha := by first | (simp; done) | (simp; rfl)) (hF := pick_rd _ _ bs (pos + 1) 12 hb (by omega) (by omega) (by simp)) (h := ?_)
  rintro k pk ⟨hk, rfl⟩
  have hk12 : k < 12 := by omega
  have hkc : k = 0 ∨ k = 1 ∨ k = 2 ∨ k = 3 ∨ k = 4 ∨ k = 5 ∨ k = 6 ∨ k = 7 ∨ k = 8 ∨ k = 9 ∨ k = 10 ∨ k = 11 := by omega
  clear hk hk12
  rcases hkc with rfl | rfl | rfl | rfl | rfl | rfl | rfl | rfl | rfl | rfl | rfl | rfl
  · skip
    have fx := fx0
    refine k_run ?_
    clear fx
    first | show SemOp _ _ _ _ _ | intro K hK
    refine x_rd (hs := by simp) (ha := by first | (simp; done) | (simp; rfl)) (hF := pick_rd _ _ bs (pos + 1 + 1) 20 hb (by omega) (by omega) (by simp)) (h := ?_)
    rintro x px ⟨hx, rfl⟩
    have fx := fx0
    refine k_run ?_
    clear fx
    first | show SemOp _ _ _ _ _ | intro K hK
    refine x_one (oneOk _) 19 [(x : Int), 99, 5] (bs := bs) (pos := pos + 1 + 1 + 1) hb (by omega) (hV := hV) (h0 := by simp) (h1 := by simp) (hH := by simp) (hL := by simp [irows]) (h := ?_)
    intro v hv
    have hvR : 0 ≤ v ∧ v ≤ 99 := by simp at hv; omega
    have fx := fx0
    refine k_run ?_
    clear fx
    exact e_ret [] .nil (by simp; rfl) ⟨⟨0, to, v, 0⟩, pos + 1 + 1 + 1 + 1, by simp, ⟨by omega, txS⟩, by simp⟩
  · skip
    have fx := fx0
    refine k_run ?_
    clear fx
    first | show SemOp _ _ _ _ _ | intro K hK
    refine x_rd (hs := by simp) (ha := by first | (simp; done) | (simp; rfl)) (hF := pick_rd _ _ bs (pos + 1 + 1) 20 hb (by omega) (by omega) (by simp)) (h := ?_)
    rintro x px ⟨hx, rfl⟩
    have fx := fx0
    refine k_run ?_
    clear fx
    first | show SemOp _ _ _ _ _ | intro K hK
    refine x_one (oneOk _) 19 [(x : Int), 99, 5] (bs := bs) (pos := pos + 1 + 1 + 1) hb (by omega) (hV := hV) (h0 := by simp) (h1 := by simp) (hH := by simp) (hL := by simp [irows]) (h := ?_)
    intro v hv
    have hvR : 0 ≤ v ∧ v ≤ 99 := by simp at hv; omega
    have fx := fx0
    refine k_run ?_
    clear fx
    exact e_ret [] .nil (by simp; rfl) ⟨⟨0, to, v, 0⟩, pos + 1 + 1 + 1 + 1, by simp, ⟨by omega, txS⟩, by simp⟩
  · skip
    have fx := fx0
    refine k_run ?_
    clear fx
    first | show SemOp _ _ _ _ _ | intro K hK
    refine x_rd (hs := by simp) (ha := by first | (simp; done) | (simp; rfl)) (hF := pick_rd _ _ bs (pos + 1 + 1) 20 hb (by omega) (by omega) (by simp)) (h := ?_)
    rintro x px ⟨hx, rfl⟩
    have fx := fx0
    refine k_run ?_
    clear fx
    first | show SemOp _ _ _ _ _ | intro K hK
    refine x_one (oneOk _) 19 [(x : Int), 99, 5] (bs := bs) (pos := pos + 1 + 1 + 1) hb (by omega) (hV := hV) (h0 := by simp) (h1 := by simp) (hH := by simp) (hL := by simp [irows]) (h := ?_)
    intro v hv
    have hvR : 0 ≤ v ∧ v ≤ 99 := by simp at hv; omega
    have fx := fx0
    refine k_run ?_
    clear fx
    exact e_ret [] .nil (by simp; rfl) ⟨⟨0, to, v, 0⟩, pos + 1 + 1 + 1 + 1, by simp, ⟨by omega, txS⟩, by simp⟩
  · skip
    have fx := fx0
    refine k_run ?_
    clear fx
    first | show SemOp _ _ _ _ _ | intro K hK
    refine x_rd (hs := by simp) (ha := by first | (simp; done) | (simp; rfl)) (hF := aName_rd _ _ bs (pos + 1 + 1) hb (by omega) (by simp) (by simp)) (h := ?_)
    rintro v pv ⟨hvR, rfl⟩
    have fx := fx0
    refine k_run ?_
    clear fx
    exact e_ret [] .nil (by simp; rfl) ⟨⟨1, to, v, 0⟩, pos + 1 + 1 + 1, by simp, ⟨by omega, txS⟩, by simp⟩
  · skip
    have fx := fx0
    refine k_run ?_
    clear fx
    first | show SemOp _ _ _ _ _ | intro K hK
    refine x_rd (hs := by simp) (ha := by first | (simp; done) | (simp; rfl)) (hF := aName_rd _ _ bs (pos + 1 + 1) hb (by omega) (by simp) (by simp)) (h := ?_)
    rintro v pv ⟨hvR, rfl⟩
    have fx := fx0
    refine k_run ?_
    clear fx
    first | show SemOp _ _ _ _ _ | intro K hK
    refine x_rd (hs := by simp) (ha := by first | (simp; done) | (simp; rfl)) (hF := aName_rd _ _ bs (pos + 1 + 1 + 1) hb (by omega) (by simp) (by simp)) (h := ?_)
    rintro w pw ⟨hwR, rfl⟩
    have fx := fx0
    refine k_run ?_
    clear fx
    exact e_ret [] .nil (by simp; rfl) ⟨⟨2, to, v, w⟩, pos + 1 + 1 + 1 + 1, by simp, ⟨by omega, txS⟩, by simp⟩
  · skip
    have fx := fx0
    refine k_run ?_
    clear fx
    first | show SemOp _ _ _ _ _ | intro K hK
    refine x_rd (hs := by simp) (ha := by first | (simp; done) | (simp; rfl)) (hF := aName_rd _ _ bs (pos + 1 + 1) hb (by omega) (by simp) (by simp)) (h := ?_)
    rintro v pv ⟨hvR, rfl⟩
    have fx := fx0
    refine k_run ?_
    clear fx
    exact e_ret [] .nil (by simp; rfl) ⟨⟨7, 0, v, 0⟩, pos + 1 + 1 + 1, by simp, ⟨by omega, txS⟩, by simp⟩
  · skip
    have fx := fx0
    refine k_run ?_
    clear fx
    first | show SemOp _ _ _ _ _ | intro K hK
    refine x_rd (hs := by simp) (ha := by first | (simp; done) | (simp; rfl)) (hF := aName_rd _ _ bs (pos + 1 + 1) hb (by omega) (by simp) (by simp)) (h := ?_)
    rintro v pv ⟨hvR, rfl⟩
    have fx := fx0
    refine k_run ?_
    clear fx
    exact e_ret [] .nil (by simp; rfl) ⟨⟨7, 0, v, 0⟩, pos + 1 + 1 + 1, by simp, ⟨by omega, txS⟩, by simp⟩
  · skip
    have fx := fx0
    refine k_run ?_
    clear fx
    first | show SemOp _ _ _ _ _ | intro K hK
    refine x_rd (hs := by simp) (ha := by first | (simp; done) | (simp; rfl)) (hF := aName_rd _ _ bs (pos + 1 + 1) hb (by omega) (by simp) (by simp)) (h := ?_)
    rintro v pv ⟨hvR, rfl⟩
    have fx := fx0
    refine k_run ?_
    clear fx
    first | show SemOp _ _ _ _ _ | intro K hK
    refine x_one (oneOk _) 48 [4, 5, v] (bs := bs) (pos := pos + 1 + 1 + 1) hb (by omega) (hV := hV) (h0 := by simp) (h1 := by simp) (hH := by simp) (hL := by simp [irows]) (h := ?_)
    intro x hx
    have hxR : 0 ≤ x ∧ x ≤ 99 := by simp at hx; omega
    have fx := fx0
    refine k_run ?_
    clear fx
    first | show SemOp _ _ _ _ _ | intro K hK
    refine x_rd (hs := by simp) (ha := by first | (simp; done) | (simp; rfl)) (hF := aName_rd _ _ bs (pos + 1 + 1 + 1 + 1) hb (by omega) (by simp) (by simp)) (h := ?_)
    rintro u pu ⟨huR, rfl⟩
    have fx := fx0
    refine k_run ?_
    clear fx
    first | show SemOp _ _ _ _ _ | intro K hK
    refine x_one (oneOk _) 53 [-1, -1, u] (bs := bs) (pos := pos + 1 + 1 + 1 + 1 + 1) hb (by omega) (hV := hV) (h0 := by simp) (h1 := by simp) (hH := by simp) (hL := by simp [irows]) (h := ?_)
    intro y hy
    have hyR : (0 ≤ y ∧ y ≤ 99) ∨ y = -1 := by simp at hy; omega
    have fx := fx0
    refine k_run ?_
    clear fx
    exact e_ret [] .nil (by simp; rfl) ⟨⟨5, to, x, y⟩, pos + 1 + 1 + 1 + 1 + 1 + 1, by simp, ⟨by omega, txS⟩, by simp⟩
  · skip
    have fx := fx0
    refine k_run ?_
    clear fx
    first | show SemOp _ _ _ _ _ | intro K hK
    refine x_rd (hs := by simp) (ha := by first | (simp; done) | (simp; rfl)) (hF := aName_rd _ _ bs (pos + 1 + 1) hb (by omega) (by simp) (by simp)) (h := ?_)
    rintro v pv ⟨hvR, rfl⟩
    have fx := fx0
    refine k_run ?_
    clear fx
    exact e_ret [] .nil (by simp; rfl) ⟨⟨6, to, 6, v⟩, pos + 1 + 1 + 1, by simp, ⟨by omega, txS⟩, by simp⟩
  · by_cases hk0 : kind = 0
    · subst hk0
      have fx := fx0
      refine k_run ?_
      clear fx
      first | show SemOp _ _ _ _ _ | intro K hK
      refine x_rd (hs := by simp) (ha := by first | (simp; done) | (simp; rfl)) (hF := aName_rd _ _ bs (pos + 1 + 1) hb (by omega) (by simp) (by simp)) (h := ?_)
      rintro v pv ⟨hvR, rfl⟩
      have fx := fx0
      refine k_run ?_
      clear fx
      exact e_ret [] .nil (by simp; rfl) ⟨⟨7, 0, v, 0⟩, pos + 1 + 1 + 1, by simp, ⟨by omega, txS⟩, by simp⟩
    · have hkn : (kind != 0) = true := by simp [hk0]
      have fx := And.intro hk0 <| hkn
      refine k_run ?_
      clear fx
      first | show SemOp _ _ _ _ _ | intro K hK
      refine x_one (oneOk _) 67 [9, 10, 10] (bs := bs) (pos := pos + 1 + 1) hb (by omega) (hV := hV) (h0 := by simp) (h1 := by simp) (hH := by simp) (hL := by simp [irows]) (h := ?_)
      intro v hv
      have hvR : 9 ≤ v ∧ v ≤ 10 := by simp at hv; omega
      have fx := fx0
      refine k_run ?_
      clear fx
      exact e_ret [] .nil (by simp; rfl) ⟨⟨v, to, 0, 0⟩, pos + 1 + 1 + 1, by simp, ⟨by omega, txS⟩, by simp⟩
  · skip
    have fx := fx0
    refine k_run ?_
    clear fx
    first | show SemOp _ _ _ _ _ | intro K hK
    refine x_rd (hs := by simp) (ha := by first | (simp; done) | (simp; rfl)) (hF := pick_rd _ _ bs (pos + 1 + 1) 3 hb (by omega) (by omega) (by simp)) (h := ?_)
    rintro x px ⟨hx, rfl⟩
    rcases Nat.eq_zero_or_pos x with rfl | hx0
    · skip
      have fx := fx0
      refine k_run ?_
      clear fx
      exact e_ret [] .nil (by simp; rfl) ⟨⟨11, to, 0, 0⟩, pos + 1 + 1 + 1, by simp, ⟨by omega, txS⟩, by simp⟩
    · have hxn : ((x : Int) == 0) = false := by rw [beq_eq_false_iff_ne]; omega
      have hxn2 : ¬ x = 0 := by omega
      have fx := And.intro hxn <| hxn2
      refine k_run ?_
      clear fx
      first | show SemOp _ _ _ _ _ | intro K hK
      refine x_rd (hs := by simp) (ha := by first | (simp; done) | (simp; rfl)) (hF := aName_rd _ _ bs (pos + 1 + 1 + 1) hb (by omega) (by simp) (by simp)) (h := ?_)
      rintro v pv ⟨hvR, rfl⟩
      have fx := fx0
      refine k_run ?_
      clear fx
      exact e_ret [] .nil (by simp; rfl) ⟨⟨7, 0, v, 0⟩, pos + 1 + 1 + 1 + 1, by simp, ⟨by omega, txS⟩, by simp⟩
  · skip
    have fx := fx0
    refine k_run ?_
    clear fx
    first | show SemOp _ _ _ _ _ | intro K hK
    refine x_rd (hs := by simp) (ha := by first | (simp; done) | (simp; rfl)) (hF := aName_rd _ _ bs (pos + 1 + 1) hb (by omega) (by simp) (by simp)) (h := ?_)
    rintro v pv ⟨hvR, rfl⟩
    have fx := fx0
    refine k_run ?_
    clear fx
    exact e_ret [] .nil (by simp; rfl) ⟨⟨7, 0, v, 0⟩, pos + 1 + 1 + 1, by simp, ⟨by omega, txS⟩, by simp⟩
abbrev qsGv0 : Sch := .q 0 <| .q 1 <| .q 2 <| .q 3 <| .l 4 [1, 0] <| .l 5 [1, 0] <| .l 6 [0] <| .q 7 <| .l 8 [] <| .done
abbrev qsGv1 : Sch := .q 0 <| .q 1 <| .q 2 <| .l 3 [2, 1, 0] <| .l 4 [1, 0] <| .q 5 <| .l 6 [1, 0] <| .l 7 [0] <| .q 8 <| .l 9 [] <| .done
def BlkPost (bs : List Int) (Q : Blk → Nat → Prop) : Nm → AV → (Nm → Option AO) → Prop := fun r z H' => ∃ (k : Blk) (pos' : Nat), z = .agg [iv k.kind, iv k.parent, .hs (.c r 0 2) 1 0 k.params.length, .hs (.c r 0 3) 4 0 k.body.length] ∧
  H' (.c r 0 2) = some (.row 1 (irows k.params)) ∧ H' (.c r 0 3) = some (.row 4 (srows k.body)) ∧ Q k pos' ∧ H' (.u 1 0 0) = some (rdO bs pos')
theorem someBlock_fn (gl) (H : Nm → Option AO) (bs : List Int) (pos : Nat) (kind parent : Int) (hb : BytesOk bs) (hpos : pos ≤ 800000) (hH : H (.u 1 0 0) = some (rdO bs pos)) (hV : H (.u 2 0 0) = none) :
    FnE Tryz.prog gl 150 (Nm.under (.u 1 0 0)) [.pt (.u 1 0 0) 0, iv kind, iv parent] H (BlkPost bs (fun k pos' => k.kind = kind ∧ k.parent = parent ∧ k.params.length ≤ 1 ∧ k.body.length ≤ 6 ∧ pos' ≤ pos + 60 ∧ BlkT k)) noE := by
  refine FnE.of_sem Tryz.func150 rfl (by kernel_rfl) (rs := [.cell 6 44]) rfl Tryz.ntmps150 (Nat.le_of_ble_eq_true rfl) (fun _ => under_usroot rfl) fun C w g root hroot => ?_
  have hr0 := hroot root (Nm.under_self _)
  rcases (by cases hk : (kind == 1) <;> simp : (kind == 1) = false ∨ (kind == 1) = true) with hk1 | hk1
  case' inl =>
    have fx :=  hk1
    refine k_run ?_
    repeat ((first | refine wSc (id := 7) qsGv0 mixed ?_ | refine wSc (id := 9) qsGv1 mixed ?_); refine k_rund ?_; refine k_run ?_)
    clear fx
    first | show SemOp _ _ _ _ _ | intro K hK
    refine o_abs (fun st => ∃ (ps : List Int) (q : Nat), ps.length ≤ 1 ∧ (Small ps ∧ (¬ kind = 1 → ps = [])) ∧ q ≤ pos + 2 ∧ st.tm 0 = .pt (.u 1 0 0) 0 ∧ st.hp (.u 1 0 0) = some (rdO bs q) ∧ st.tm 1 = iv kind ∧ st.tm 6 = .pt (.s 6) 0 ∧ st.hp (.s 6) = some (.row 4 [[iv 0, iv 0, .hs (.c (.s 6) 0 2) 1 0 0, .hs (.c (.s 6) 0 3) 4 0 0]]) ∧ st.hp (.c (.s 6) 0 2) = some (.row 1 []) ∧ st.hp (.c (.s 6) 0 3) = some (.row 4 []) ∧
    st.tm 7 = .pt (.s 7) 0 ∧ st.hp (.s 7) = some (.row 4 [[iv kind, iv parent, .hs (.c (.s 7) 0 2) 1 0 ps.length, .hs (.c (.s 7) 0 3) 4 0 ([] : List Stm).length]]) ∧ st.hp (.c (.s 7) 0 2) = some (.row 1 (irows ps)) ∧ st.hp (.c (.s 7) 0 3) = some (.row 4 (srows ([] : List Stm))) ∧ st.tm 23 = .pt (.u 1 0 0) 0 ∧ st.tm 24 = .hs (.s 24) 1 0 5 ∧ st.hp (.s 24) = some (.row 1 (irows [3, 2, 4, 1, 5]))) ⟨[], pos, by simp, ⟨by simp [Small], by simp⟩, by omega, by simp [hH], by simp [hH], by simp [hH], by simp [hH], by simp [hH], by simp [hH], by simp [hH], by simp [hH], by simp [hH], by simp [irows], by simp [hH], by simp, by simp, by simp [irows]⟩ ?_
  case' inr =>
    have fx :=  hk1
    refine k_run ?_
    repeat ((first | refine wSc (id := 7) qsGv0 mixed ?_ | refine wSc (id := 9) qsGv1 mixed ?_); refine k_rund ?_; refine k_run ?_)
    clear fx
    first | show SemOp _ _ _ _ _ | intro K hK
    refine x_rd (hs := by simp [hH]) (ha := by first | (simp; done) | (simp; rfl)) (hF := pick_rd _ _ bs pos 3 hb (by omega) (by omega) (by simp [hH])) (h := ?_)
    rintro x px ⟨hx, rfl⟩
    have hx0 : x = 0 ∨ ¬ x = 0 := by omega
    rcases hx0 with rfl | hx0
    case' inl =>
      have fx :=  hk1
      refine k_run ?_
      repeat ((first | refine wSc (id := 7) qsGv0 mixed ?_ | refine wSc (id := 9) qsGv1 mixed ?_); refine k_rund ?_; refine k_run ?_)
      clear fx
      first | show SemOp _ _ _ _ _ | intro K hK
      refine x_rd (hs := by simp) (ha := by first | (simp; done) | (simp; rfl)) (hF := pick_rd _ _ bs (pos + 1) 3 hb (by omega) (by omega) (by simp)) (h := ?_)
      rintro y py ⟨hy, rfl⟩
      have fx := fx0
      refine k_run ?_
      repeat ((first | refine wSc (id := 7) qsGv0 mixed ?_ | refine wSc (id := 9) qsGv1 mixed ?_); refine k_rund ?_; refine k_run ?_)
      clear fx
      first | show SemOp _ _ _ _ _ | intro K hK
      refine o_abs (fun st => ∃ (ps : List Int) (q : Nat), ps.length ≤ 1 ∧ (Small ps ∧ (¬ kind = 1 → ps = [])) ∧ q ≤ pos + 2 ∧ st.tm 0 = .pt (.u 1 0 0) 0 ∧ st.hp (.u 1 0 0) = some (rdO bs q) ∧ st.tm 1 = iv kind ∧ st.tm 6 = .pt (.s 6) 0 ∧ st.hp (.s 6) = some (.row 4 [[iv 0, iv 0, .hs (.c (.s 6) 0 2) 1 0 0, .hs (.c (.s 6) 0 3) 4 0 0]]) ∧ st.hp (.c (.s 6) 0 2) = some (.row 1 []) ∧ st.hp (.c (.s 6) 0 3) = some (.row 4 []) ∧
    st.tm 7 = .pt (.s 7) 0 ∧ st.hp (.s 7) = some (.row 4 [[iv kind, iv parent, .hs (.c (.s 7) 0 2) 1 0 ps.length, .hs (.c (.s 7) 0 3) 4 0 ([] : List Stm).length]]) ∧ st.hp (.c (.s 7) 0 2) = some (.row 1 (irows ps)) ∧ st.hp (.c (.s 7) 0 3) = some (.row 4 (srows ([] : List Stm))) ∧ st.tm 23 = .pt (.u 1 0 0) 0 ∧ st.tm 24 = .hs (.s 24) 1 0 5 ∧ st.hp (.s 24) = some (.row 1 (irows [3, 2, 4, 1, 5]))) ⟨[(y : Int)], pos + 1 + 1, by simp, ⟨by simp [Small]; omega, fun h => absurd (by simpa using hk1) h⟩, by omega, by simp, by simp, by simp, by simp, by simp, by simp, by simp, by simp, by simp, by simp [irows], by simp, by simp, by simp, by simp [irows]⟩ ?_
    case' inr =>
      have fx := And.intro hk1 <| hx0
      refine k_run ?_
      repeat ((first | refine wSc (id := 7) qsGv0 mixed ?_ | refine wSc (id := 9) qsGv1 mixed ?_); refine k_rund ?_; refine k_run ?_)
      clear fx
      first | show SemOp _ _ _ _ _ | intro K hK
      refine o_abs (fun st => ∃ (ps : List Int) (q : Nat), ps.length ≤ 1 ∧ (Small ps ∧ (¬ kind = 1 → ps = [])) ∧ q ≤ pos + 2 ∧ st.tm 0 = .pt (.u 1 0 0) 0 ∧ st.hp (.u 1 0 0) = some (rdO bs q) ∧ st.tm 1 = iv kind ∧ st.tm 6 = .pt (.s 6) 0 ∧ st.hp (.s 6) = some (.row 4 [[iv 0, iv 0, .hs (.c (.s 6) 0 2) 1 0 0, .hs (.c (.s 6) 0 3) 4 0 0]]) ∧ st.hp (.c (.s 6) 0 2) = some (.row 1 []) ∧ st.hp (.c (.s 6) 0 3) = some (.row 4 []) ∧
    st.tm 7 = .pt (.s 7) 0 ∧ st.hp (.s 7) = some (.row 4 [[iv kind, iv parent, .hs (.c (.s 7) 0 2) 1 0 ps.length, .hs (.c (.s 7) 0 3) 4 0 ([] : List Stm).length]]) ∧ st.hp (.c (.s 7) 0 2) = some (.row 1 (irows ps)) ∧ st.hp (.c (.s 7) 0 3) = some (.row 4 (srows ([] : List Stm))) ∧ st.tm 23 = .pt (.u 1 0 0) 0 ∧ st.tm 24 = .hs (.s 24) 1 0 5 ∧ st.hp (.s 24) = some (.row 1 (irows [3, 2, 4, 1, 5]))) ⟨[], pos + 1, by simp, ⟨by simp [Small], by simp⟩, by omega, by simp, by simp, by simp, by simp, by simp, by simp, by simp, by simp, by simp, by simp [irows], by simp, by simp, by simp, by simp [irows]⟩ ?_
  all_goals
    rintro st ⟨ps, q, hps, hpT, hq, h0, hU, h1, h6, hp6, hp62, hp63, h7, hp7, hp72, hp73, h23, h24, hp24⟩
    refine x_one (oneOk _) 24 [3, 2, 4, 1, 5] (bs := bs) (pos := q) hb (by omega) (hV := hV) (h0 := h23) (h1 := by simp [h24]) (hH := hU) (hL := by simp [hp24]) (h := ?_)
    intro v hv
    have hvr : 1 ≤ v ∧ v ≤ 5 := by simp at hv; omega
    obtain ⟨V, rfl⟩ : ∃ V : Nat, v = V := ⟨v.toNat, by omega⟩
    have fx := fx0
    refine k_run ?_
    repeat ((first | refine wSc (id := 7) qsGv0 mixed ?_ | refine wSc (id := 9) qsGv1 mixed ?_); refine k_rund ?_; refine k_run ?_)
    clear fx
    refine w_loop (fun n st => ∃ (L : List Stm) (q : Nat), n + L.length = V ∧ (∀ s ∈ L, TxtS s) ∧ q + 8 * n ≤ pos + 50 ∧ st.tm 0 = .pt (.u 1 0 0) 0 ∧ st.hp (.u 1 0 0) = some (rdO bs q) ∧ st.tm 1 = iv kind ∧ st.tm 6 = .pt (.s 6) 0 ∧ st.hp (.s 6) = some (.row 4 [[iv 0, iv 0, .hs (.c (.s 6) 0 2) 1 0 0, .hs (.c (.s 6) 0 3) 4 0 0]]) ∧ st.hp (.c (.s 6) 0 2) = some (.row 1 []) ∧ st.hp (.c (.s 6) 0 3) = some (.row 4 []) ∧
    st.tm 7 = .pt (.s 7) 0 ∧ st.hp (.s 7) = some (.row 4 [[iv kind, iv parent, .hs (.c (.s 7) 0 2) 1 0 ps.length, .hs (.c (.s 7) 0 3) 4 0 L.length]]) ∧ st.hp (.c (.s 7) 0 2) = some (.row 1 (irows ps)) ∧ st.hp (.c (.s 7) 0 3) = some (.row 4 (srows L)) ∧ st.tm 8 = iv n) V ?_ ?_
    · exact ⟨[], q + 1, by simp, by simp, by omega, by simp [h0], by simp, by simp [h1], by simp [h6], by simp [hp6], by simp [hp62], by simp [hp63], by simp [h7], by simp [hp7], by simp [hp72], by simp [hp73], by simp⟩
    clear h0 hU h1 h6 hp6 hp62 hp63 h7 hp7 hp72 hp73 h23 h24 hp24
    rintro n st - - ⟨L, q, hL, hLT, hq, h0, hU, h1, h6, hp6, hp62, hp63, h7, hp7, hp72, hp73, h8⟩
    have fx :=  h8
    refine k_run ?_
    repeat ((first | refine wSc (id := 7) qsGv0 mixed ?_ | refine wSc (id := 9) qsGv1 mixed ?_); refine k_rund ?_; refine k_run ?_)
    clear fx
    rcases Nat.eq_zero_or_pos n with rfl | hn0
    · have hL5 : L.length ≤ 5 := by omega
      cases hkk : (kind == 1)
      · skip
        have fx := And.intro h0 <| And.intro h1 <| And.intro h6 <| And.intro hp6 <| And.intro h7 <| And.intro hp7 <| hkk
        refine k_run ?_
        repeat ((first | refine wSc (id := 7) qsGv0 mixed ?_ | refine wSc (id := 9) qsGv1 mixed ?_); refine k_rund ?_; refine k_run ?_)
        clear fx
        exact e_ret [(.s 7, root)] (.one rfl) (by simp [h6]; rfl) ⟨⟨kind, parent, ps, L⟩, q, by simp, by simp [hp72, hr0], by simp [hp73, hr0], ⟨rfl, rfl, hps, by simp; omega, by omega, hLT, hpT⟩, by simp [hU]⟩
      · skip
        have fx := And.intro h0 <| And.intro h1 <| And.intro h6 <| And.intro hp6 <| And.intro h7 <| And.intro hp7 <| hkk
        refine k_run ?_
        repeat ((first | refine wSc (id := 7) qsGv0 mixed ?_ | refine wSc (id := 9) qsGv1 mixed ?_); refine k_rund ?_; refine k_run ?_)
        clear fx
        first | show SemOp _ _ _ _ _ | intro K hK
        refine x_rd (hs := by simp [hU]) (ha := by first | (simp [h0]; done) | (simp [h0]; rfl)) (hF := pick_rd _ _ bs q 2 hb (by omega) (by omega) (by simp [hU])) (h := ?_)
        rintro x px ⟨hx, rfl⟩
        have hx0 : x = 0 ∨ ¬ x = 0 := by omega
        rcases hx0 with rfl | hx0
        · skip
          have fx := And.intro h0 <| And.intro h1 <| And.intro h6 <| And.intro hp6 <| And.intro h7 <| And.intro hp7 <| And.intro hp73 <| hkk
          refine k_run ?_
          repeat ((first | refine wSc (id := 7) qsGv0 mixed ?_ | refine wSc (id := 9) qsGv1 mixed ?_); refine k_rund ?_; refine k_run ?_)
          clear fx
          first | show SemOp _ _ _ _ _ | intro K hK
          refine x_one (oneOk _) 48 [0, 1, 4, 5] (bs := bs) (pos := q + 1) hb (by omega) (hV := hV) (h0 := by simp [h0]) (h1 := by simp) (hH := by simp) (hL := by simp [irows]) (h := ?_)
          intro v2 hv2
          have hv2R : 0 ≤ v2 ∧ v2 ≤ 99 := by simp at hv2; omega
          have fx := And.intro h0 <| And.intro h1 <| And.intro h6 <| And.intro hp6 <| And.intro h7 <| And.intro hp7 <| And.intro hp73 <| hkk
          refine k_run ?_
          repeat ((first | refine wSc (id := 7) qsGv0 mixed ?_ | refine wSc (id := 9) qsGv1 mixed ?_); refine k_rund ?_; refine k_run ?_)
          clear fx
          exact e_ret [(.s 7, root)] (.one rfl) (by simp [h6]; rfl) ⟨⟨kind, parent, ps, L ++ [⟨8, 0, v2, 0⟩]⟩, q + 1 + 1, by simp, by simp [hp72, hr0], by show _ = some (AO.row 4 (srows (L ++ [⟨8, 0, v2, 0⟩]))); rw [← srows_app1]; simp [hp73, hr0], ⟨rfl, rfl, hps, by simp; omega, by omega, stmSnoc hLT txS, hpT⟩, by simp [hU]⟩
        · skip
          have fx := And.intro h0 <| And.intro h1 <| And.intro h6 <| And.intro hp6 <| And.intro h7 <| And.intro hp7 <| And.intro hp73 <| And.intro hkk <| hx0
          refine k_run ?_
          repeat ((first | refine wSc (id := 7) qsGv0 mixed ?_ | refine wSc (id := 9) qsGv1 mixed ?_); refine k_rund ?_; refine k_run ?_)
          clear fx
          exact e_ret [(.s 7, root)] (.one rfl) (by simp [h6]; rfl) ⟨⟨kind, parent, ps, L⟩, q + 1, by simp, by simp [hp72, hr0], by simp [hp73, hr0], ⟨rfl, rfl, hps, by simp; omega, by omega, hLT, hpT⟩, by simp [hU]⟩
    · have hL5 : L.length ≤ 4 := by omega
      have fx := And.intro h0 <| And.intro h1 <| And.intro h7 <| And.intro hp7 <| And.intro hp73 <| hn0
      refine k_run ?_
      repeat ((first | refine wSc (id := 7) qsGv0 mixed ?_ | refine wSc (id := 9) qsGv1 mixed ?_); refine k_rund ?_; refine k_run ?_)
      clear fx
      first | show SemOp _ _ _ _ _ | intro K hK
      refine x_rd (hs := by simp [hU]) (ha := by first | (simp [h0, h1]; done) | (simp [h0, h1]; rfl)) (hF := someStmt_fn _ _ bs q kind hb (by omega) (by simp [hU]) (by simp)) (h := ?_)
      rintro s p2 ⟨⟨hp2a, hp2b⟩, hsT⟩
      have fx := And.intro h0 <| And.intro h1 <| And.intro h7 <| And.intro hp7 <| And.intro hp73 <| And.intro h8 <| hn0
      refine k_run ?_
      repeat ((first | refine wSc (id := 7) qsGv0 mixed ?_ | refine wSc (id := 9) qsGv1 mixed ?_); refine k_rund ?_; refine k_run ?_)
      clear fx
      refine ⟨n - 1, by omega, L ++ [s], p2, by simp; omega, stmSnoc hLT hsT, by omega, by simp [h0], by simp, by simp [h1], by simp [h6], by simp [hp6], by simp [hp62], by simp [hp63], by simp [h7], by simp [hp7], by simp [hp72], by rw [← srows_app1]; simp [hp73], ?_⟩
      simp
      rw [wrp (by omega) (by omega)]
      omega
end Go.Proofs.YtmaoicgfcngciaaGreatDoor
end
section
namespace Go.Proofs.YtmaoicgfcngciaaGreatDoor
open Go Go.Hm Go.Proofs
def StmPost (bs : List Int) (Q : List Stm → Nat → Prop) : Nm → AV → (Nm → Option AO) → Prop := fun r z H' => ∃ (L : List Stm) (pos' : Nat), z = .hs r 4 0 L.length ∧ H' r = some (.row 4 (srows L)) ∧ Q L pos' ∧ H' (.u 1 0 0) = some (rdO bs pos')
theorem making_fn (gl) (H : Nm → Option AO) (bs : List Int) (pos : Nat) (kind parent b : Int) (np nb : Nat) (hbr : 0 ≤ b ∧ b ≤ 99) (hb : BytesOk bs) (hpos : pos ≤ 800000) (hH : H (.u 1 0 0) = some (rdO bs pos)) (hV : H (.u 2 0 0) = none) :
    FnE Tryz.prog gl 151 (Nm.under (.u 1 0 0)) [.pt (.u 1 0 0) 0, .agg [iv kind, iv parent, .hs (.u 4 0 0) 1 0 np, .hs (.u 5 0 0) 4 0 nb], iv b] H (StmPost bs (fun L pos' => L.length ≤ 2 ∧ pos' ≤ pos + 5 ∧ ∀ s ∈ L, TxtS s)) noE := by
  refine FnE.of_sem Tryz.func151 rfl (by kernel_rfl) (rs := [.tmp 6]) rfl Tryz.ntmps151 (Nat.le_of_ble_eq_true rfl) (fun _ => under_usroot rfl) fun C w g root hroot => ?_
  have hr0 := hroot root (Nm.under_self _)
  cases hk2 : (kind == 2)
  rotate_left
  · skip
    have fx :=  hk2
    refine k_run ?_
    clear fx
    exact e_ret [(.s 6, root)] (.one rfl) (by simp; rfl) ⟨[⟨4, 6, b, 0⟩], pos, by simp, by simp [srows, hr0], ⟨by simp, by omega, stm1 txS⟩, by simp [hH]⟩
  have fx :=  hk2
  refine k_run ?_
  clear fx
  first | show SemOp _ _ _ _ _ | intro K hK
  refine x_one (oneOk _) 17 [4, 5] (bs := bs) (pos := pos) hb (by omega) (hV := hV) (h0 := by simp) (h1 := by simp) (hH := by simp [hH]) (hL := by simp [irows]) (h := ?_)
  intro f hf
  have hfR : 0 ≤ f ∧ f ≤ 99 := by simp at hf; omega
  have fx := fx0
  refine k_run ?_
  clear fx
  first | show SemOp _ _ _ _ _ | intro K hK
  refine x_rd (hs := by simp) (ha := by first | (simp; done) | (simp; rfl)) (hF := pick_rd _ _ bs (pos + 1) 3 hb (by omega) (by omega) (by simp)) (h := ?_)
  rintro x px ⟨hx, rfl⟩
  have hx0 : x = 0 ∨ ¬ x = 0 := by omega
  rcases hx0 with rfl | hx0
  · skip
    have fx := fx0
    refine k_run ?_
    clear fx
    exact e_ret [(.s 6, root)] (.one rfl) (by simp; rfl) ⟨[⟨3, f, b, 0⟩], pos + 1 + 1, by simp, by simp [srows, hr0], ⟨by simp, by omega, stm1 txS⟩, by simp⟩
  have hxp : 0 < x := by omega
  cases hn1 : ((np : Int) == 1)
  · skip
    have fx := And.intro hxp <| hn1
    refine k_run ?_
    clear fx
    first | show SemOp _ _ _ _ _ | intro K hK
    refine x_one (oneOk _) 34 [0, 1, 5] (bs := bs) (pos := pos + 1 + 1) hb (by omega) (hV := hV) (h0 := by simp) (h1 := by simp) (hH := by simp) (hL := by simp [irows]) (h := ?_)
    intro v hv
    have hvR : 0 ≤ v ∧ v ≤ 99 := by simp at hv; omega
    have fx := fx0
    refine k_run ?_
    clear fx
    exact e_ret [(.s 6, root)] (.one rfl) (by simp; rfl) ⟨[⟨3, f, b, 0⟩, ⟨5, v, f, -1⟩], pos + 1 + 1 + 1, by simp, by simp [srows, hr0], ⟨by simp, by omega, stm2 txS txS⟩, by simp⟩
  · skip
    have fx := And.intro hxp <| hn1
    refine k_run ?_
    clear fx
    first | show SemOp _ _ _ _ _ | intro K hK
    refine x_rd (hs := by simp) (ha := by first | (simp; done) | (simp; rfl)) (hF := aName_rd _ _ bs (pos + 1 + 1) hb (by omega) (by simp) (by simp)) (h := ?_)
    rintro u pu ⟨huR, rfl⟩
    have fx := fx0
    refine k_run ?_
    clear fx
    first | show SemOp _ _ _ _ _ | intro K hK
    refine x_one (oneOk _) 34 [0, 1, 5] (bs := bs) (pos := pos + 1 + 1 + 1) hb (by omega) (hV := hV) (h0 := by simp) (h1 := by simp) (hH := by simp) (hL := by simp [irows]) (h := ?_)
    intro v hv
    have hvR : 0 ≤ v ∧ v ≤ 99 := by simp at hv; omega
    have fx := fx0
    refine k_run ?_
    clear fx
    exact e_ret [(.s 6, root)] (.one rfl) (by simp; rfl) ⟨[⟨3, f, b, 0⟩, ⟨5, v, f, u⟩], pos + 1 + 1 + 1 + 1, by simp, by simp [srows, hr0], ⟨by simp, by omega, stm2 txS txS⟩, by simp⟩
end Go.Proofs.YtmaoicgfcngciaaGreatDoor
end
