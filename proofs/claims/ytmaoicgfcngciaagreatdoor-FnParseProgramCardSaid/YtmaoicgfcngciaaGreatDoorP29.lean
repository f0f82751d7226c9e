/-
  Own texts, joined by mkclaim.py: Rd, Re, Rf, Ur, Ue, Uf, Ub, Ta, Ux, Xf.
-/
import Derived.Test.YtmaoicgfcngciaaGreatDoorP28
import Derived.Test.YtmaoicgfcngciaaGreatDoorP16
import Derived.Test.YtmaoicgfcngciaaGreatDoorP11
import Derived.Test.YtmaoicgfcngciaaGreatDoorP26
import Derived.Test.YtmaoicgfcngciaaGreatDoorP23
import Derived.Test.YtmaoicgfcngciaaGreatDoorP18
import Derived.Test.YtmaoicgfcngciaaGreatDoorP21
import Derived.Test.YtmaoicgfcngciaaGreatDoorP22
import Derived.Test.YtmaoicgfcngciaaGreatDoorP10
import Derived.Test.YtmaoicgfcngciaaGreatDoorP24
set_option linter.unusedSimpArgs false
set_option linter.unusedVariables false
set_option maxRecDepth 100000
set_option maxHeartbeats 4000000

section
namespace Go.Proofs.YtmaoicgfcngciaaGreatDoor
open Go Go.Hm Go.Proofs
end Go.Proofs.YtmaoicgfcngciaaGreatDoor
end
section
namespace Go.Proofs.YtmaoicgfcngciaaGreatDoor
open Go Go.Hm Go.Proofs
attribute [local simp] slcAV rowsIn
end Go.Proofs.YtmaoicgfcngciaaGreatDoor
end
section
namespace Go.Proofs.YtmaoicgfcngciaaGreatDoor
open Go Go.Hm Go.Proofs
attribute [local simp] slcAV rowsIn
theorem newReader_fn (gl) (code : List Int) (hc : code.length ≤ 1048576) : FnOk Tryz.prog gl 50 [bsl code] (fun r z H' => z = .pt r 0 ∧ H' r = some (rdO (code.take 2000) 0)) := by
  refine FnOk.of_sem Tryz.func50 rfl (by kernel_rfl) (rs := [.tmp 2]) rfl Tryz.ntmps50 (Nat.le_of_ble_eq_true rfl) fun C w g root => ?_
  by_cases hl : 2000 < code.length
  · have hl1 : (2000 : Int) < code.length := by omega
    have hl2 : (2000 : Int) ≤ code.length := by omega
    all_goals have fx := And.intro hl1 <| hl2
    repeat' (first
     | refine w_seq ?_ | refine w_reg fun K hK => ?_
     | ((with_reducible refine s_end hK ?_); clear hK K)
     | (with_reducible first | refine then_normal ?_)
     | refine w_ret ?_
     | (with_reducible first | refine s_none ?_ | refine x_assign (h := ?_) | refine x_box (h := ?_))
     | (with_reducible refine x_q (h := ?_))
     | refine x_condt (h1 := ?_)
     | fail)
    all_goals try clear fx
    refine e_ret [(.s 2, root)] (.one rfl) (by simp; rfl) ⟨by simp, by simp⟩
  · have ht : code.take 2000 = code := List.take_of_length_le (by omega)
    have hl1 : ¬ (2000 : Int) < code.length := by omega
    rw [ht]
    all_goals have fx :=  hl1
    repeat' (first
     | refine w_seq ?_ | refine w_skip ?_ | refine w_reg fun K hK => ?_
     | ((with_reducible refine s_end hK ?_); clear hK K)
     | (with_reducible first | refine then_normal ?_)
     | refine w_ret ?_
     | (with_reducible first | refine s_none ?_ | refine x_assign (h := ?_) | refine x_box (h := ?_))
     | (with_reducible refine x_q (h := ?_))
     | refine x_condf (h1 := ?_)
     | fail)
    all_goals try clear fx
    refine e_ret [(.s 2, root)] (.one rfl) (by simp; rfl) ⟨by simp, by simp⟩
structure CodeOk (code : List Int) : Prop where
  len : code.length ≤ 1048576
  rng : ∀ v ∈ code, 0 ≤ v ∧ v ≤ 255
theorem CodeOk.bytes {code : List Int} (h : CodeOk code) : BytesOk (code.take 2000) := ⟨by simp; omega, fun v hv => h.rng v (List.mem_of_mem_take hv)⟩
end Go.Proofs.YtmaoicgfcngciaaGreatDoor
end
section
namespace Go.Proofs.YtmaoicgfcngciaaGreatDoor
open Go Go.Hm Go.Proofs
theorem stmtNumbers_fn (gl) (s : Stm) : FnOk Tryz.prog gl 52 [Stm.av s] (fun r y H' => y = .hs r 1 0 (numsOf s).length ∧ H' r = some (.row 1 (irows (numsOf s)))) := by
  refine FnOk.of_sem Tryz.func52 rfl (by kernel_rfl) (rs := [.tmp 2]) rfl Tryz.ntmps52 (Nat.le_of_ble_eq_true rfl) fun C w g root => ?_
  obtain ⟨kind, to, a, b⟩ := s
  all_goals have fx := fx0
  repeat' (first
   | refine w_seq ?_ | refine w_block ?_ | refine w_skip ?_ | refine w_reg fun K hK => ?_
   | ((with_reducible refine s_end hK ?_); clear hK K)
   | (with_reducible first | refine then_normal ?_ | refine in_normal ?_ | refine then_ret ?_ | refine in_ret ?_)
   | refine w_ret ?_
   | (with_reducible first | refine s_none ?_ | refine x_assign (h := ?_) | refine x_box (h := ?_) | refine x_build (h := ?_))
   | (with_reducible refine x_q (h := ?_))
   | refine x_condt (h1 := ?_) | refine x_condf (h1 := ?_)
   | refine x_if (h1 := fun ht => ?_) (h2 := fun ht => ?_)
   | fail)
  all_goals try clear fx
  all_goals refine e_list (t := 2) ?_ ?_ ?_
  all_goals simp_all [numsOf, irows]
theorem lineOfWords_fn (gl) (v : Txt) (ns : List Int) (a : AV) (ha : a = isl ns ∨ (a = .sc (.slice none 0 0) ∧ ns = [])) (hv : v ≠ []) (hvl : v.length ≤ 100) (hns : Small ns) (hnl : ns.length ≤ 10) : FnOk Tryz.prog gl 47 [tx v, a] (fun _ y _ => y = tx (wordsL v ns ++ [10])) := by
  refine FnOk.of_sem Tryz.func47 rfl (by kernel_rfl) (rs := [.tmp 4]) rfl Tryz.ntmps47 (Nat.le_of_ble_eq_true rfl) fun C w g root => ?_
  rcases ha with rfl | ⟨rfl, rfl⟩
  all_goals
    have fx :=  hv
    have b1 := bld_zv
    refine k_runp ?_
    clear fx b1
    intro K hK
    have fx := hv
    refine x_wstr 5 lay166 layB rfl rfl (.inl ⟨rfl, by simp⟩) (hs := hv) (hlen := by simp; omega) (h := ?_)
    clear fx
    rintro st' - hg htm hhp e1 e2
    have h5 : st'.tm 5 = .pt (.s 5) 0 := by simp [htm]
    have h1 := htm 1
    simp at h1
    simp only [lib_b, lib_u, List.length_nil, Nat.zero_add, List.nil_append] at e1 e2
    clear htm hhp
    have fx := And.intro h5 <| h1
    refine k_run ?_
    clear fx
  case' inl => refine w_loop (fun n st => ∃ i : Nat, n = ns.length - i ∧ i ≤ ns.length ∧ st.tm 5 = .pt (.s 5) 0 ∧ st.tm 10 = isl ns ∧ st.tm 11 = iv ns.length ∧ st.tm 12 = iv i ∧ st.hp (.s 5) = some (.trow 73 2 true [[.pt (.s 5) 0, .hs (.c (.s 5) 0 1) 1 0 (wordsL v (ns.take i)).length]]) ∧ st.hp (.c (.s 5) 0 1) = some (.trow 5 1 false (byrows (wordsL v (ns.take i))))) ns.length ?_ ?_
  case' inr => refine w_loop (fun n st => ∃ i : Nat, n = ([] : List Int).length - i ∧ i ≤ ([] : List Int).length ∧ st.tm 5 = .pt (.s 5) 0 ∧ st.tm 11 = iv ([] : List Int).length ∧ st.tm 12 = iv i ∧ st.hp (.s 5) = some (.trow 73 2 true [[.pt (.s 5) 0, .hs (.c (.s 5) 0 1) 1 0 (wordsL v []).length]]) ∧ st.hp (.c (.s 5) 0 1) = some (.trow 5 1 false (byrows (wordsL v [])))) 0 ?_ ?_
  · refine ⟨0, by simp, by simp, by simp [h5], ?_, by simp, by simp [e1, wordsL], by simp [e2, wordsL]⟩
    simp
  · clear h5 h1 e1 e2
    rintro n st - - ⟨i, rfl, hi, h5, h11, h12, e1, e2⟩
    obtain rfl : i = 0 := by simpa using hi
    have hvw := wordsL_ge (w := v) (ns := [])
    have hwl2 := wordsL_len (w := v) (ns := []) hns
    have hne : wordsL v [] ≠ [] := fun e => by rw [e] at hvw; simp at hvw; exact hv hvw
    simp at h11 h12 hwl2
    have fx := And.intro h5 <| And.intro h11 <| h12
    refine k_run ?_
    clear fx
    intro K hK
    have fx := And.intro h5 h5
    refine x_wstr 5 lay166 layB rfl rfl (.inr ⟨hne, by simp [e1], by simp [e2]⟩) (hlen := by simp; omega) (h := ?_)
    clear fx
    rintro st' - hg htm hhp f1 f2
    have g5 : st'.tm 5 = .pt (.s 5) 0 := by simp [htm, h5]
    simp only [lib_b, lib_u] at f1 f2
    clear htm hhp
    have fx :=  g5
    refine k_run ?_
    clear fx
    intro K hK
    have fx := And.intro g5 g5
    refine x_str (l := wordsL v [] ++ [10]) 5 lay169 layB rfl rfl (.inr ⟨by simp, by simp [f1], by simp [f2]⟩) (h := ?_)
    clear fx
    have fx := fx0
    refine k_run ?_
    clear fx
    refine e_ret [] .nil (by simp; rfl) (by simp)
  · exact ⟨0, by omega, by omega, by simp [h5], by simp [h1], by simp [h1], by simp, by simp [e1, wordsL], by simp [e2, wordsL]⟩
  · clear h5 h1 e1 e2
    rintro n st - - ⟨i, rfl, hi, h5, h10, h11, h12, e1, e2⟩
    have hvw := wordsL_ge (w := v) (ns := ns.take i)
    have hv0 : 0 < v.length := List.length_pos_iff.2 hv
    have hwl2 := wordsL_len (w := v) (small_take (i := i) hns)
    rw [List.length_take] at hwl2
    have hne : wordsL v (ns.take i) ≠ [] := fun e => by rw [e] at hvw; simp at hvw; exact hv hvw
    by_cases hil : i < ns.length
    · obtain ⟨x, hx⟩ : ∃ x, ns[i]? = some x := ⟨_, gE hil⟩
      obtain ⟨_, hxE⟩ := gS hx
      have hxs := hns x (List.mem_of_getElem? hx)
      have hxl := numI_len hxs
      have hl1 : ∀ c, 2000000000 ≤ c → 1 + (numI x).length ≤ c := fun c hc => by omega
      have fx := And.intro h5 <| And.intro h10 <| And.intro h11 <| And.intro h12 <| And.intro hil <| And.intro hx <| And.intro hxE <| hl1
      have c1 := itoa_at gl x hxs
      refine k_run ?_
      clear fx c1
      intro K hK
      have fx := And.intro h5 h5
      refine x_wstr 5 lay166 layB rfl rfl (.inr ⟨hne, by simp [e1], by simp [e2]⟩) (hlen := by simp; omega) (h := ?_)
      clear fx
      rintro st' - hg htm hhp f1 f2
      have g5 : st'.tm 5 = .pt (.s 5) 0 := by simp [htm, h5]
      have g10 := htm 10
      have g11 := htm 11
      have g12 := htm 12
      simp [h10, h11, h12] at g10 g11 g12
      simp only [lib_b, lib_u] at f1 f2
      clear htm hhp
      have fx := And.intro g5 <| And.intro g10 <| And.intro g11 <| g12
      refine k_run ?_
      clear fx
      refine ⟨ns.length - (i + 1), by omega, i + 1, rfl, by omega, by simp [g5], by simp [g10], by simp [g11], by simp; exact wrp (by omega) (by omega), by simp [f1, wordsL_take hx], by simp [f2, wordsL_take hx]⟩
    · obtain rfl : i = ns.length := by omega
      rw [List.take_length] at e1 e2 hne hwl2
      have fx := And.intro h5 <| And.intro h10 <| And.intro h11 <| And.intro h12 <| hil
      refine k_run ?_
      clear fx
      intro K hK
      have fx := And.intro h5 h5
      refine x_wstr 5 lay166 layB rfl rfl (.inr ⟨hne, by simp [e1], by simp [e2]⟩) (hlen := by simp; omega) (h := ?_)
      clear fx
      rintro st' - hg htm hhp f1 f2
      have g5 : st'.tm 5 = .pt (.s 5) 0 := by simp [htm, h5]
      simp only [lib_b, lib_u] at f1 f2
      clear htm hhp
      have fx :=  g5
      refine k_run ?_
      clear fx
      intro K hK
      have fx := And.intro g5 g5
      refine x_str (l := wordsL v ns ++ [10]) 5 lay169 layB rfl rfl (.inr ⟨by simp, by simp [f1], by simp [f2]⟩) (h := ?_)
      clear fx
      have fx := fx0
      refine k_run ?_
      clear fx
      refine e_ret [] .nil (by simp; rfl) (by simp)
theorem headLine_fn (gl) (k : Blk) (hk : TxtH k) (hp1 : k.params.length ≤ 1) : FnOk Tryz.prog gl 51 [Blk.av k] (fun _ y _ => y = tx (showH k ++ [10])) := by
  have hpar := hk.parent
  have hpl := numI_len hpar
  have hl1 : ∀ c, 2000000000 ≤ c → (numI k.parent).length ≤ c := fun c hc => by omega
  have hl3 : ∀ c, 2000000000 ≤ c → 3 + (numI k.parent).length ≤ c := fun c hc => by omega
  refine FnOk.of_sem Tryz.func51 rfl (by kernel_rfl) (rs := [.tmp 2]) rfl Tryz.ntmps51 (Nat.le_of_ble_eq_true rfl) fun C w g root => ?_
  by_cases h2 : k.kind = 2
  · have hb : (k.kind == 2) = true := by simpa using h2
    have hq := lineOfWords_fn gl (wordsL tIn [k.parent] ++ 32 :: tClass) [] (.sc (.slice none 0 0)) (.inr ⟨rfl, rfl⟩) (by simp) (by simp [wordsL, tIn, tClass]; omega) (fun _ h => by cases h) (by simp)
    have he : tx (wordsL tIn [k.parent] ++ 32 :: tClass) = tx (105 :: 110 :: 32 :: (numI k.parent ++ [32, 99, 108, 97, 115, 115])) := by simp [wordsL, tIn, tClass]
    rw [he] at hq
    have fx := And.intro hb <| And.intro hl1 <| hl3
    have c1 := itoa_at gl k.parent hpar
    have c2 := hq
    refine k_run ?_
    clear fx c1 c2
    refine e_ret [] .nil (by simp; rfl) ?_
    simp [showH, h2, wordsL, tIn, tClass]
  · have hb : (k.kind == 2) = false := by simpa using h2
    have hq := lineOfWords_fn gl (wordsL tIn [k.parent] ++ 32 :: tFun) k.params (isl k.params) (.inl rfl) (by simp) (by simp [wordsL, tIn, tFun]; omega) hk.params (by omega)
    have he : tx (wordsL tIn [k.parent] ++ 32 :: tFun) = tx (105 :: 110 :: 32 :: (numI k.parent ++ [32, 102, 117, 110])) := by simp [wordsL, tIn, tFun]
    rw [he] at hq
    have fx := And.intro hb <| And.intro hl1 <| hl3
    have c1 := itoa_at gl k.parent hpar
    have c2 := hq
    refine k_run ?_
    clear fx c1 c2
    refine e_ret [] .nil (by simp; rfl) ?_
    simp [showH, h2]
end Go.Proofs.YtmaoicgfcngciaaGreatDoor
end
section
namespace Go.Proofs.YtmaoicgfcngciaaGreatDoor
open Go Go.Hm Go.Proofs
abbrev qsUf0 : Sch := .q 0 <| .q 1 <| .q 2 <| .q 3 <| .q 4 <| .l 5 [3, 2, 1, 0] <| .l 6 [2, 1, 0] <| .l 7 [2, 1, 0] <| .done
theorem impl_FormatProgram_fn (gl) (hgl : gl 1 = some ((vtx stmtW).map AV.sc)) (p : Prg) (hs : Sml p) (hv : progOk p = true → TxtB p) : FnOk Tryz.prog gl 19 [pav p] (fun _ y _ => y = tx (if progOk p = true then fmt p else [])) := by
  refine FnOk.of_sem Tryz.func19 rfl (by kernel_rfl) (rs := [.tmp 2]) rfl Tryz.ntmps19 (Nat.le_of_ble_eq_true rfl) fun C w g root => ?_
  cases h : progOk p
  · skip
    have fx :=  h
    have c1 := impl_ValidProgram_fn gl p hs
    refine k_run ?_
    repeat ((first | refine wSc (id := 12) qsUf0 mixed ?_); refine k_rund ?_; refine k_run ?_)
    clear fx c1
    refine e_ret [] .nil (by simp; rfl) (by simp)
  have hp := hv h
  have hl7 := hp.len
  rw [if_pos rfl]
  have fx :=  h
  have c1 := impl_ValidProgram_fn gl p hs
  have b1 := bld_zv
  refine k_runp ?_
  repeat ((first | refine wSc (id := 12) qsUf0 mixed ?_); refine k_rundp ?_; refine k_runp ?_)
  clear fx c1 b1
  refine w_loop (fun n st => ∃ b : Nat, n = p.length - b ∧ b ≤ p.length ∧ st.tm 3 = .pt (.s 3) 0 ∧ st.tm 12 = ksl p ∧ st.tm 13 = iv p.length ∧ st.tm 14 = iv b ∧ BldAt st.hp (.s 3) 73 5 (linesL 10 (fmtTo p b))) p.length ?_ ?_
  · exact ⟨0, by omega, by omega, by simp, by simp, by simp, by simp, .inl ⟨by simp [fmtTo_zero, linesL], by simp⟩⟩
  rintro n st - - ⟨b, rfl, hb, h3, h12, h13, h14, hB⟩
  by_cases hbl : b < p.length
  · obtain ⟨k, hk⟩ : ∃ k, p[b]? = some k := ⟨_, gE hbl⟩
    obtain ⟨_, hkE⟩ := gS hk
    have hkm := List.mem_of_getElem? hk
    have hbody := hp.body k hkm
    have hL0 := fmt_len0 hp hb
    have hb0 : b = 0 ∨ 0 < b := by omega
    rcases hb0 with hb0 | hb0
    case' inl =>
      have hbi : ¬ 0 < b := by omega
      have hbt : blkTo b k 0 = [] := by simp [blkTo, hb0]
      have fx := And.intro h3 <| And.intro h12 <| And.intro h13 <| And.intro h14 <| And.intro hbl <| And.intro hk <| And.intro hkE <| hbi
      refine k_run ?_
      repeat ((first | refine wSc (id := 12) qsUf0 mixed ?_); refine k_rund ?_; refine k_run ?_)
      clear fx
      refine w_abs (fun st => st.tm 3 = .pt (.s 3) 0 ∧ st.tm 12 = ksl p ∧ st.tm 13 = iv p.length ∧ st.tm 14 = iv b ∧ st.tm 25 = ssl k.body ∧ st.tm 26 = iv k.body.length ∧ st.tm 27 = iv (0 : Nat) ∧ BldAt st.hp (.s 3) 73 5 (linesL 10 (fmtTo p b ++ blkTo b k 0))) ⟨by simp [h3], by simp [h12], by simp [h13], by simp [h14], by simp, by simp, by simp, ?_⟩ ?_
      · rw [hbt, List.append_nil]
        exact hB.go (by intro e; simp [e]) (by intro e; simp [e]) (by intro e; simp [e])
    case' inr =>
      have hhd := hp.txt.heads b k hk hb0
      have hhl := showH_len hhd (hp.par k hkm)
      have hbt : blkTo b k 0 = [showH k] := by
        have : ¬ b = 0 := by omega
        simp [blkTo, this]
      have fx := And.intro h3 <| And.intro h12 <| And.intro h13 <| And.intro h14 <| And.intro hbl <| And.intro hk <| And.intro hkE <| hb0
      have c1 := headLine_fn gl k hhd (hp.par k hkm)
      refine k_run ?_
      repeat ((first | refine wSc (id := 12) qsUf0 mixed ?_); refine k_rund ?_; refine k_run ?_)
      clear fx c1
      intro K hK
      have fx := And.intro h3 h3
      refine x_wstr 3 lay166 layB rfl rfl (hB.go (by intro e; simp [e]) (by intro e; simp [e]) (by intro e; simp [e])) (hs := by simp) (hlen := by simp; omega) (h := ?_)
      clear fx
      rintro st' - hg htm hhp f1 f2
      have g3 : st'.tm 3 = .pt (.s 3) 0 := by simp [htm, h3]
      have g5 : st'.tm 5 = .pt (.s 5) 0 := by simp [htm]
      have gp5 : st'.hp (.s 5) = some (.row 4 [k.cells]) := by simp [hhp]
      have g12 := htm 12
      have g13 := htm 13
      have g14 := htm 14
      simp [h12, h13, h14] at g12 g13 g14
      have hB' : BldAt st'.hp (.s 3) 73 5 (linesL 10 (fmtTo p b ++ blkTo b k 0)) := by
        rw [hbt, linesL_snoc]
        exact .inr ⟨by simp, by simpa using f1, f2⟩
      clear htm hhp f1 f2
      have fx := And.intro g3 <| And.intro g5 <| And.intro gp5 <| And.intro g12 <| And.intro g13 <| g14
      refine k_run ?_
      repeat ((first | refine wSc (id := 12) qsUf0 mixed ?_); refine k_rund ?_; refine k_run ?_)
      clear fx
      refine w_abs (fun st => st.tm 3 = .pt (.s 3) 0 ∧ st.tm 12 = ksl p ∧ st.tm 13 = iv p.length ∧ st.tm 14 = iv b ∧ st.tm 25 = ssl k.body ∧ st.tm 26 = iv k.body.length ∧ st.tm 27 = iv (0 : Nat) ∧ BldAt st.hp (.s 3) 73 5 (linesL 10 (fmtTo p b ++ blkTo b k 0))) ⟨by simp [g3], by simp [g12], by simp [g13], by simp [g14], by simp, by simp, by simp, ?_⟩ ?_
      · exact hB'.go (by intro e; simp [e]) (by intro e; simp [e]) (by intro e; simp [e])
    all_goals
      clear h3 h12 h13 h14 hB
      rintro st ⟨h3, h12, h13, h14, h25, h26, h27, hB⟩
      refine w_loop (fun n st => ∃ i : Nat, n = k.body.length - i ∧ i ≤ k.body.length ∧ st.tm 3 = .pt (.s 3) 0 ∧ st.tm 12 = ksl p ∧ st.tm 13 = iv p.length ∧ st.tm 14 = iv b ∧ st.tm 25 = ssl k.body ∧ st.tm 26 = iv k.body.length ∧ st.tm 27 = iv i ∧ BldAt st.hp (.s 3) 73 5 (linesL 10 (fmtTo p b ++ blkTo b k i))) k.body.length ?_ ?_
      · exact ⟨0, by omega, by omega, h3, h12, h13, h14, h25, h26, h27, hB⟩
      clear h3 h12 h13 h14 h25 h26 h27 hB
      rintro n st - hgs ⟨i, rfl, hi, h3, h12, h13, h14, h25, h26, h27, hB⟩
      replace hgs : st.gl = gl := hgs
      by_cases hil : i < k.body.length
      · obtain ⟨s, hs'⟩ : ∃ s, k.body[i]? = some s := ⟨_, gE hil⟩
        obtain ⟨_, hsE⟩ := gS hs'
        have hst := hp.txt.stms k hkm s (List.mem_of_getElem? hs')
        have hsl := showS_len hst
        have hL3 := fmt_len (i := i) hp hk
        have hnext : linesL 10 (fmtTo p b ++ blkTo b k (i + 1)) = linesL 10 (fmtTo p b ++ blkTo b k i) ++ (showS s ++ [10]) := by
          rw [blkTo_succ hs', ← List.append_assoc, linesL_snoc]
        rw [show showS s = wordsL (stmtW.getD s.kind.toNat []) (numsOf s) from rfl] at hnext hsl
        have hnum := hst.nums
        have hkd := hst.kind
        have hn3 := numsOf_len (s := s)
        have hnf := stmtNumbers_fn gl s
        generalize numsOf s = ns at hnum hn3 hnf hnext hsl
        obtain ⟨kd, to, a, b'⟩ := s
        simp only at hkd
        obtain ⟨J, rfl⟩ : ∃ J : Nat, kd = J := ⟨kd.toNat, by omega⟩
        have hK12 : J < 12 := by omega
        have hKl : J < stmtW.length := hK12
        have hKi : (J : Int) < 12 := by omega
        obtain ⟨v, hw⟩ : ∃ v, stmtW[J]? = some v := ⟨_, gE hKl⟩
        obtain ⟨_, hwE⟩ := gS hw
        have hwg : stmtW.getD ((J : Int)).toNat [] = v := by simp [List.getD_eq_getElem?_getD, hw]
        have hwl := stmtW_len J hK12
        rw [show stmtW.getD J [] = v by simp [List.getD_eq_getElem?_getD, hw]] at hwl
        simp only [hwg] at hnext hsl
        have hq := lineOfWords_fn gl v ns (isl ns) (.inl rfl) (fun e => by rw [e] at hwl; simp at hwl) (by omega) hnum (by omega)
        have fx := And.intro h3 <| And.intro h12 <| And.intro h13 <| And.intro h14 <| And.intro h25 <| And.intro h26 <| And.intro h27 <| And.intro hil <| And.intro hs' <| And.intro hsE <| And.intro hgs <| And.intro hgl <| And.intro hw <| And.intro hwE <| And.intro hKl <| And.intro hKi <| hn3
        have d1 := hnf
        have c1 := hq
        refine k_run ?_
        repeat ((first | refine wSc (id := 12) qsUf0 mixed ?_); refine k_rund ?_; refine k_run ?_)
        clear fx d1 c1
        intro K hK
        have fx := And.intro h3 h3
        refine x_wstr 3 lay166 layB rfl rfl (hB.go (by intro e; simp [e]) (by intro e; simp [e]) (by intro e; simp [e])) (hs := by simp) (hlen := by simp; omega) (h := ?_)
        clear fx
        rintro st' - hg htm hhp f1 f2
        have g3 : st'.tm 3 = .pt (.s 3) 0 := by simp [htm, h3]
        have g12 := htm 12
        have g13 := htm 13
        have g14 := htm 14
        have g25 := htm 25
        have g26 := htm 26
        have g27 := htm 27
        have g7 : st'.tm 7 = .pt (.s 7) 0 := by simp [htm]
        have gp7 : st'.hp (.s 7) = some (.row 4 [[iv J, iv to, iv a, iv b']]) := by simp [hhp]
        have g31 := htm 31
        have g32 := htm 32
        have g33 := htm 33
        simp [h12, h13, h14, h25, h26, h27] at g12 g13 g14 g25 g26 g27 g31 g32 g33
        replace hg : st'.gl = gl := by simpa [hgs] using hg
        clear htm hhp
        have fx := And.intro g3 <| And.intro g12 <| And.intro g13 <| And.intro g14 <| And.intro g25 <| And.intro g26 <| And.intro g27 <| And.intro g7 <| And.intro gp7 <| And.intro g31 <| And.intro g32 <| And.intro g33 <| And.intro hg <| And.intro hgl <| And.intro hw <| And.intro hwE <| And.intro hKl <| hKi
        refine k_run ?_
        repeat ((first | refine wSc (id := 12) qsUf0 mixed ?_); refine k_rund ?_; refine k_run ?_)
        clear fx
        refine ⟨k.body.length - (i + 1), by omega, i + 1, rfl, by omega, by simp [g3], by simp [g12], by simp [g13], by simp [g14], by simp [g25], by simp [g26], by simp; exact wrp (by omega) (by omega), ?_⟩
        rw [hnext]
        exact .inr ⟨by simp, by simpa using f1, by simpa using f2⟩
      · obtain rfl : i = k.body.length := by omega
        rw [blkTo_all, ← fmtTo_succ hk] at hB
        have fx := And.intro h3 <| And.intro h12 <| And.intro h13 <| And.intro h14 <| And.intro h25 <| And.intro h26 <| And.intro h27 <| hil
        refine k_run ?_
        repeat ((first | refine wSc (id := 12) qsUf0 mixed ?_); refine k_rund ?_; refine k_run ?_)
        clear fx
        refine ⟨p.length - (b + 1), by omega, b + 1, rfl, by omega, by simp [h3], by simp [h12], by simp [h13], by simp; exact wrp (by omega) (by omega), hB.go (by intro e; simp [e]) (by intro e; simp [e]) (by intro e; simp [e])⟩
  · obtain rfl : b = p.length := by omega
    rw [fmtTo_all] at hB
    have fx := And.intro h3 <| And.intro h12 <| And.intro h13 <| And.intro h14 <| hbl
    refine k_run ?_
    repeat ((first | refine wSc (id := 12) qsUf0 mixed ?_); refine k_rund ?_; refine k_run ?_)
    clear fx
    intro K hK
    have fx := And.intro h3 h3
    refine x_str (l := linesL 10 (fmtLines p)) 3 lay169 layB rfl rfl (hB.go (by intro e; simp [e]) (by intro e; simp [e]) (by intro e; simp [e])) (h := ?_)
    clear fx
    have fx := fx0
    refine k_run ?_
    repeat ((first | refine wSc (id := 12) qsUf0 mixed ?_); refine k_rund ?_; refine k_run ?_)
    clear fx
    refine e_ret [] .nil (by simp; rfl) (by simp [fmt])
end Go.Proofs.YtmaoicgfcngciaaGreatDoor
end
section
namespace Go.Proofs.YtmaoicgfcngciaaGreatDoor
open Go Go.Hm Go.Proofs
abbrev qsTa0 : Sch := .q 0 <| .q 1 <| .q 2 <| .q 3 <| .q 4 <| .q 5 <| .q 6 <| .q 7 <| .q 8 <| .done
theorem equalInts_fn (gl) (xs ys : List Int) (hx : xs.length ≤ 1048576) (hy : ys.length ≤ 1048576) : FnOk Tryz.prog gl 57 [isl xs, isl ys] (fun _ z _ => z = bv (decide (xs = ys))) := by
  refine FnOk.of_sem Tryz.func57 rfl (by kernel_rfl) (rs := [.tmp 4]) rfl Tryz.ntmps57 (Nat.le_of_ble_eq_true rfl) fun C w g root => ?_
  by_cases hl : xs.length = ys.length
  case neg =>
    have h1 : ((xs.length : Int) == ys.length) = false := by simp; omega
    have fx := And.intro h1 <| @bne_def
    refine k_run ?_
    repeat ((first | refine wSc (id := 6) qsTa0 mixed ?_); refine k_rund ?_; refine k_run ?_)
    clear fx
    refine e_ret [] .nil (by simp; rfl) ?_
    have : ¬ xs = ys := fun e => hl (by rw [e])
    simp [this]
  have fx := And.intro hl <| @bne_def
  refine k_run ?_
  repeat ((first | refine wSc (id := 6) qsTa0 mixed ?_); refine k_rund ?_; refine k_run ?_)
  clear fx
  refine w_loop (fun n st => ∃ i : Nat, n = xs.length - i ∧ i ≤ xs.length ∧ st.tm 0 = isl xs ∧ st.tm 1 = isl ys ∧ st.tm 5 = iv i ∧ xs.take i = ys.take i) xs.length ?_ ?_
  · exact ⟨0, by simp⟩
  rintro n st - - ⟨i, rfl, hi, h0, h1, h5, heq⟩
  have fx := And.intro h0 <| h5
  refine k_run ?_
  repeat ((first | refine wSc (id := 6) qsTa0 mixed ?_); refine k_rund ?_; refine k_run ?_)
  clear fx
  refine w_if (by simp []; first | done | rfl | exact (Bool.not_not _).symm) (fun ht => ?_) (fun hf => ?_)
  · have hlt : i < xs.length := by simpa using ht
    obtain ⟨x, hxi⟩ : ∃ x, xs[i]? = some x := ⟨_, gE (by omega)⟩
    obtain ⟨y, hyi⟩ : ∃ y, ys[i]? = some y := ⟨_, gE (by omega)⟩
    clear ht
    all_goals have fx := And.intro h0 <| And.intro h1 <| And.intro h5 <| And.intro hxi <| And.intro hyi <| @bne_def
    repeat' (first
     | refine w_seq ?_ | refine w_block ?_ | refine w_skip ?_ | refine w_reg fun K hK => ?_
     | ((with_reducible refine s_end hK ?_); clear hK K)
     | (with_reducible first | refine then_normal ?_ | refine in_normal ?_ | refine then_exit ?_ | refine in_exit ?_ | refine then_ret ?_ | refine in_ret ?_ | refine s_nil ?_ | refine in_other (by decide) ?_)
     | refine w_exit ?_
     | refine w_ret ?_
     | (with_reducible first | refine s_none ?_ | refine x_assign (h := ?_))
     | (with_reducible refine x_q (h := ?_))
     | refine x_condt (h1 := ?_) | refine x_condf (h1 := ?_)
     | (refine wSc (id := 6) qsTa0 mixed fun K hK => ?_)
     | ((with_reducible refine a_end hK ?_); clear hK K)
     | ((with_reducible refine a_id ?_); first | refine xa_q (h := ?_) | refine xa_qt (h := ?_) | refine xa_qf (h := ?_) | refine xa_qu (h := ?_))
     | ((with_reducible refine a_id ?_); refine xa_gq (h1 := fun ht => ?_) (h2 := fun ht => ?_))
     | refine a_l rfl ?_ | refine a_l2 ?_ ?_ | (with_reducible refine And.intro ?_ ?_) | exact st_nil | refine xa_st (h2 := ?_)
     | refine x_if (h1 := fun ht => ?_) (h2 := fun ht => ?_)
     | fail)
    all_goals try clear fx
    all_goals first
      | (refine e_ret [] .nil (by simp; rfl) ?_
         have hne : ¬ xs = ys := fun e => by rw [e, hyi] at hxi; obtain rfl := Option.some.inj hxi; simp at ht
         simp [hne])
      | (have hxy : x = y := by simpa using ht
         refine ⟨xs.length - (i + 1), by omega, i + 1, rfl, by omega, by simp [h0], by simp [h1], by simp; exact wrp (by omega) (by omega), ?_⟩
         rw [List.take_add_one, List.take_add_one, heq, hxi, hyi, hxy])
  · have hge : i = xs.length := by
      have : ¬ i < xs.length := by simpa using hf
      omega
    have : xs = ys := by rw [hge, List.take_length, hl, List.take_length] at heq; exact heq
    have fx := fx0
    refine k_run ?_
    repeat ((first | refine wSc (id := 6) qsTa0 mixed ?_); refine k_rund ?_; refine k_run ?_)
    clear fx
    refine e_ret [] .nil (by simp []; rfl) (by simp [this])
theorem equalStmts_fn (gl) (xs ys : List Stm) (hx : xs.length ≤ 1048576) (hy : ys.length ≤ 1048576) : FnOk Tryz.prog gl 58 [ssl xs, ssl ys] (fun _ z _ => z = bv (decide (xs = ys))) := by
  refine FnOk.of_sem Tryz.func58 rfl (by kernel_rfl) (rs := [.tmp 4]) rfl Tryz.ntmps58 (Nat.le_of_ble_eq_true rfl) fun C w g root => ?_
  by_cases hl : xs.length = ys.length
  case neg =>
    have h1 : ((xs.length : Int) == ys.length) = false := by simp; omega
    have fx := And.intro h1 <| @bne_def
    refine k_run ?_
    repeat ((first | refine wSc (id := 6) qsTa0 mixed ?_); refine k_rund ?_; refine k_run ?_)
    clear fx
    refine e_ret [] .nil (by simp; rfl) ?_
    have : ¬ xs = ys := fun e => hl (by rw [e])
    simp [this]
  have fx := And.intro hl <| @bne_def
  refine k_run ?_
  repeat ((first | refine wSc (id := 6) qsTa0 mixed ?_); refine k_rund ?_; refine k_run ?_)
  clear fx
  refine w_loop (fun n st => ∃ i : Nat, n = xs.length - i ∧ i ≤ xs.length ∧ st.tm 0 = ssl xs ∧ st.tm 1 = ssl ys ∧ st.tm 5 = iv i ∧ xs.take i = ys.take i) xs.length ?_ ?_
  · exact ⟨0, by simp⟩
  rintro n st - - ⟨i, rfl, hi, h0, h1, h5, heq⟩
  have fx := And.intro h0 <| h5
  refine k_run ?_
  repeat ((first | refine wSc (id := 6) qsTa0 mixed ?_); refine k_rund ?_; refine k_run ?_)
  clear fx
  refine w_if (by simp []; first | done | rfl | exact (Bool.not_not _).symm) (fun ht => ?_) (fun hf => ?_)
  · have hlt : i < xs.length := by simpa using ht
    obtain ⟨x, hxi⟩ : ∃ x, xs[i]? = some x := ⟨_, gE (by omega)⟩
    obtain ⟨y, hyi⟩ : ∃ y, ys[i]? = some y := ⟨_, gE (by omega)⟩
    clear ht
    all_goals have fx := And.intro h0 <| And.intro h1 <| And.intro h5 <| And.intro hxi <| hyi
    repeat' (first
     | refine w_seq ?_ | refine w_block ?_ | refine w_skip ?_ | refine w_reg fun K hK => ?_
     | ((with_reducible refine s_end hK ?_); clear hK K)
     | (with_reducible first | refine then_normal ?_ | refine in_normal ?_ | refine then_exit ?_ | refine in_exit ?_ | refine then_ret ?_ | refine in_ret ?_ | refine s_nil ?_ | refine in_other (by decide) ?_)
     | refine w_exit ?_
     | refine w_ret ?_
     | (with_reducible first | refine s_none ?_ | refine x_assign (h := ?_))
     | ((with_reducible refine o_id 171 rfl ?_); refine x_call (hF := eqStmt_fn _ x y) (h := ?_))
     | (with_reducible refine x_q (h := ?_))
     | refine x_condt (h1 := ?_) | refine x_condf (h1 := ?_)
     | (refine wSc (id := 6) qsTa0 mixed fun K hK => ?_)
     | ((with_reducible refine a_end hK ?_); clear hK K)
     | ((with_reducible refine a_id ?_); first | refine xa_q (h := ?_) | refine xa_qt (h := ?_) | refine xa_qf (h := ?_) | refine xa_qu (h := ?_))
     | ((with_reducible refine a_id ?_); refine xa_gq (h1 := fun ht => ?_) (h2 := fun ht => ?_))
     | refine a_l rfl ?_ | refine a_l2 ?_ ?_ | (with_reducible refine And.intro ?_ ?_) | exact st_nil | refine xa_st (h2 := ?_)
     | refine x_if (h1 := fun ht => ?_) (h2 := fun ht => ?_)
     | fail)
    all_goals try clear fx
    all_goals first
      | (refine e_ret [] .nil (by simp; rfl) ?_
         have hne : ¬ xs = ys := fun e => by rw [e, hyi] at hxi; obtain rfl := Option.some.inj hxi; simp at ht
         simp [hne])
      | (have hxy : x = y := by cases x; cases y; simpa using ht
         refine ⟨xs.length - (i + 1), by omega, i + 1, rfl, by omega, by simp [h0], by simp [h1], by simp; exact wrp (by omega) (by omega), ?_⟩
         rw [List.take_add_one, List.take_add_one, heq, hxi, hyi, hxy])
  · have hge : i = xs.length := by
      have : ¬ i < xs.length := by simpa using hf
      omega
    have : xs = ys := by rw [hge, List.take_length, hl, List.take_length] at heq; exact heq
    have fx := fx0
    refine k_run ?_
    repeat ((first | refine wSc (id := 6) qsTa0 mixed ?_); refine k_rund ?_; refine k_run ?_)
    clear fx
    refine e_ret [] .nil (by simp []; rfl) (by simp [this])
theorem equalProgram_fn (gl) (xs ys : Prg) (hx : Sml xs) (hy : Sml ys) : FnOk Tryz.prog gl 22 [pav xs, pav ys] (fun _ z _ => z = bv (decide (xs = ys))) := by
  have hxl := hx.len
  have hyl := hy.len
  refine FnOk.of_sem Tryz.func22 rfl (by kernel_rfl) (rs := [.tmp 4]) rfl Tryz.ntmps22 (Nat.le_of_ble_eq_true rfl) fun C w g root => ?_
  by_cases hl : xs.length = ys.length
  case neg =>
    have h1 : ((xs.length : Int) == ys.length) = false := by simp; omega
    have fx := And.intro h1 <| @bne_def
    refine k_run ?_
    clear fx
    refine e_ret [] .nil (by simp; rfl) ?_
    have : ¬ xs = ys := fun e => hl (by rw [e])
    simp [this]
  have fx := And.intro hl <| @bne_def
  refine k_run ?_
  clear fx
  refine w_loop (fun n st => ∃ i : Nat, n = xs.length - i ∧ i ≤ xs.length ∧ st.tm 2 = .pt (.s 2) 0 ∧ st.hp (.s 2) = some (.row 1 [[ksl xs]]) ∧ st.tm 3 = .pt (.s 3) 0 ∧ st.hp (.s 3) = some (.row 1 [[ksl ys]]) ∧ st.tm 5 = iv i ∧ xs.take i = ys.take i) xs.length ?_ ?_
  · exact ⟨0, by simp⟩
  rintro n st - - ⟨i, rfl, hi, h2, hp2, h3, hp3, h5, heq⟩
  have fx := And.intro h2 <| And.intro hp2 <| h5
  refine k_run ?_
  clear fx
  refine w_if (by simp []; first | done | rfl | exact (Bool.not_not _).symm) (fun ht => ?_) (fun hf => ?_)
  · have hlt : i < xs.length := by simpa using ht
    obtain ⟨x, hxi⟩ : ∃ x, xs[i]? = some x := ⟨_, gE (by omega)⟩
    obtain ⟨y, hyi⟩ : ∃ y, ys[i]? = some y := ⟨_, gE (by omega)⟩
    obtain ⟨hxl', hxE⟩ := gS hxi
    obtain ⟨hyl', hyE⟩ := gS hyi
    have hne : ∀ (P : Prop), ¬ P → (x = y → P) → decide (xs = ys) = false := fun P hP h => decide_eq_false fun e => hP (h (by rw [e, hyi] at hxi; exact (Option.some.inj hxi).symm))
    have h1 := equalInts_fn gl x.params y.params (hx.bsm hxi).params (hy.bsm hyi).params
    have h2' := equalStmts_fn gl x.body y.body (hx.bsm hxi).body (hy.bsm hyi).body
    clear ht
    cases hk : (x.kind == y.kind)
    · skip
      have fx := And.intro h2 <| And.intro hp2 <| And.intro h3 <| And.intro hp3 <| And.intro h5 <| And.intro hxi <| And.intro hyi <| And.intro hxE <| And.intro hyE <| And.intro hxl' <| And.intro hyl' <| And.intro hk <| @bne_def
      refine k_run ?_
      clear fx
      refine e_ret [] .nil (by simp; rfl) ?_
      rw [hne (x.kind = y.kind) (by simpa using hk) (fun e => by rw [e])]
      rfl
    cases hpa : (x.parent == y.parent)
    · skip
      have fx := And.intro h2 <| And.intro hp2 <| And.intro h3 <| And.intro hp3 <| And.intro h5 <| And.intro hxi <| And.intro hyi <| And.intro hxE <| And.intro hyE <| And.intro hxl' <| And.intro hyl' <| And.intro hk <| And.intro hpa <| @bne_def
      refine k_run ?_
      clear fx
      refine e_ret [] .nil (by simp; rfl) ?_
      rw [hne (x.parent = y.parent) (by simpa using hpa) (fun e => by rw [e])]
      rfl
    cases hps : decide (x.params = y.params)
    · skip
      have fx := And.intro h2 <| And.intro hp2 <| And.intro h3 <| And.intro hp3 <| And.intro h5 <| And.intro hxi <| And.intro hyi <| And.intro hxE <| And.intro hyE <| And.intro hxl' <| And.intro hyl' <| And.intro hk <| And.intro hpa <| And.intro hps <| @bne_def
      have c1 := h1
      refine k_run ?_
      clear fx c1
      refine e_ret [] .nil (by simp; rfl) ?_
      rw [hne (x.params = y.params) (by simpa using hps) (fun e => by rw [e])]
      rfl
    cases hbo : decide (x.body = y.body)
    · skip
      have fx := And.intro h2 <| And.intro hp2 <| And.intro h3 <| And.intro hp3 <| And.intro h5 <| And.intro hxi <| And.intro hyi <| And.intro hxE <| And.intro hyE <| And.intro hxl' <| And.intro hyl' <| And.intro hk <| And.intro hpa <| And.intro hps <| And.intro hbo <| @bne_def
      have c1 := h1
      have c2 := h2'
      refine k_run ?_
      clear fx c1 c2
      refine e_ret [] .nil (by simp; rfl) ?_
      rw [hne (x.body = y.body) (by simpa using hbo) (fun e => by rw [e])]
      rfl
    have hxy : x = y := by
      obtain ⟨a, b, c, d⟩ := x
      obtain ⟨a', b', c', d'⟩ := y
      simp at hk hpa hps hbo
      simp [hk, hpa, hps, hbo]
    have fx := And.intro h2 <| And.intro hp2 <| And.intro h3 <| And.intro hp3 <| And.intro h5 <| And.intro hxi <| And.intro hyi <| And.intro hxE <| And.intro hyE <| And.intro hxl' <| And.intro hyl' <| And.intro hk <| And.intro hpa <| And.intro hps <| And.intro hbo <| @bne_def
    have c1 := h1
    have c2 := h2'
    refine k_run ?_
    clear fx c1 c2
    refine ⟨xs.length - (i + 1), by omega, i + 1, rfl, by omega, by simp [h2], by simp [hp2], by simp [h3], by simp [hp3], by simp; exact wrp (by omega) (by omega), ?_⟩
    rw [List.take_add_one, List.take_add_one, heq, hxi, hyi, hxy]
  · have hge : i = xs.length := by
      have : ¬ i < xs.length := by simpa using hf
      omega
    have : xs = ys := by rw [hge, List.take_length, hl, List.take_length] at heq; exact heq
    have fx := fx0
    refine k_run ?_
    clear fx
    refine e_ret [] .nil (by simp []; rfl) (by simp [this])
def bods (p : Prg) (i : Nat) : Nat := ((p.take i).map fun k => k.body.length).sum
theorem bods_succ {p : Prg} {i : Nat} {k : Blk} (hk : p[i]? = some k) : bods p (i + 1) = bods p i + k.body.length := by
  unfold bods
  rw [List.take_add_one, hk]
  simp
theorem bods_le {p : Prg} {c : Nat} (h : ∀ k ∈ p, k.body.length ≤ c) : ∀ i, i ≤ p.length → bods p i ≤ c * i
  | 0, _ => by simp [bods]
  | i + 1, hi => by
    obtain ⟨k, hk⟩ : ∃ k, p[i]? = some k := ⟨_, gE (by omega)⟩
    have h1 := bods_le h i (by omega)
    have h2 := h k (List.mem_of_getElem? hk)
    rw [bods_succ hk, Nat.mul_succ]
    omega
theorem fmtTo_num {p : Prg} : ∀ b, b ≤ p.length → (fmtTo p b).length + (if b = 0 then 0 else 1) = b + bods p b
  | 0, _ => by simp [fmtTo_zero, bods]
  | b + 1, hb => by
    obtain ⟨k, hk⟩ : ∃ k, p[b]? = some k := ⟨_, gE (by omega)⟩
    have h1 := fmtTo_num (p := p) b (by omega)
    rw [fmtTo_succ hk, bods_succ hk, List.length_append]
    by_cases e : b = 0
    · subst e
      simp [blkLines, bods, fmtTo_zero]
      omega
    · simp only [blkLines, if_neg e, if_neg (show ¬ b + 1 = 0 by omega), List.length_append, List.length_map, List.length_singleton] at h1 ⊢
      omega
theorem fmt_num {p : Prg} (h1 : 1 ≤ p.length) : (fmtLines p).length = p.length - 1 + bods p p.length := by
  have := fmtTo_num (p := p) p.length (Nat.le_refl _)
  rw [fmtTo_all, if_neg (show ¬ p.length = 0 by omega)] at this
  omega
end Go.Proofs.YtmaoicgfcngciaaGreatDoor
end
section
namespace Go.Proofs.YtmaoicgfcngciaaGreatDoor
open Go Go.Hm Go.Proofs
theorem fmt_gen {p : Prg} (h : GenT p) : (fmt p).length ≤ 20000 := by
  have h1 := h.len
  have hn := fmt_num h1.1
  have hbd := bods_le h.body p.length (Nat.le_refl _)
  have hl := h.lenT
  obtain ⟨h2, _⟩ := fmtTo_small h.txtB p.length (Nat.le_refl _)
  rw [fmtTo_all] at h2
  unfold fmt
  refine Nat.le_trans (linesL_len h2) ?_
  omega
theorem someText_fn (gl) (H : Nm → Option AO) (bs : List Int) (pos : Nat) (hb : BytesOk bs) (hpos : pos ≤ 500000) (hH : H (.u 1 0 0) = some (rdO bs pos)) (hV : H (.u 2 0 0) = none) (hV4 : H (.u 4 0 0) = none) (hV5 : H (.u 5 0 0) = none) :
    FnE Tryz.prog gl 59 (Nm.under (.u 1 0 0)) [.pt (.u 1 0 0) 0] H (RdPost bs (fun v : Txt => tx v) (fun v pos' => v.length ≤ 20001 ∧ pos' ≤ pos + 1010)) noE := by
  refine FnE.of_sem Tryz.func59 rfl (by kernel_rfl) (rs := [.tmp 2]) rfl Tryz.ntmps59 (Nat.le_of_ble_eq_true rfl) (fun _ => under_usroot rfl) fun C w g root hroot => ?_
  have hr0 := hroot root (Nm.under_self _)
  have fx := fx0
  refine k_run ?_
  clear fx
  first | show SemOp _ _ _ _ _ | intro K hK
  refine x_rdo (bs := bs) (hs := by simp [hH]) (ha := by first | (simp; done) | (simp; rfl)) (hF := goodProgram_fn _ _ bs pos hb (by omega) (by simp [hH]) (by simp) (by simp) (by simp)) (h := ?_)
  rintro z H1 ⟨p, q, rfl, ⟨ho1, ho2, ho3⟩, ⟨hg, hq⟩, hU⟩
  refine ⟨q, hU, ?_⟩
  have hfo := format_fn gl p hg.txtB
  have hfl := fmt_gen hg
  generalize fmt p = v at hfo hfl
  have fx :=  ho1
  have c1 := hfo
  refine k_run ?_
  clear fx c1
  intro K hK
  refine o_abs (fun st => st.hp (.u 1 0 0) = some (rdO bs q) ∧ st.tm 0 = .pt (.u 1 0 0) 0 ∧ st.tm 3 = tx v ∧ st.tm 7 = .pt (.u 1 0 0) 0) ⟨by simp, by simp, by simp, by simp⟩ ?_
  clear ho1 ho2 ho3 hU
  rintro st ⟨hU, h0, h3, h7⟩
  refine x_rd (hs := by simp [hU]) (ha := by first | (simp [h7]; done) | (simp [h7]; rfl)) (hF := pick_rd _ _ bs q 3 hb (by omega) (by omega) (by simp [hU])) (h := ?_)
  rintro x px ⟨hx, rfl⟩
  rcases Nat.eq_zero_or_pos x with rfl | hx0
  · skip
    have fx := And.intro h0 <| h3
    refine k_run ?_
    clear fx
    intro K hK
    refine x_rd (hs := by simp) (ha := by first | (simp [h0, h3]; done) | (simp [h0, h3]; rfl)) (hF := mutate_fn _ _ bs (q + 1) v (by omega) hb (by omega) (by simp) (by simp)) (h := ?_)
    rintro u pu ⟨hul, hpu⟩
    have fx := And.intro h0 <| h3
    refine k_run ?_
    clear fx
    exact e_ret [] .nil (by simp; rfl) ⟨u, pu, by simp, ⟨by omega, by omega⟩, by simp⟩
  · have hxn : ((x : Int) == 0) = false := by rw [beq_eq_false_iff_ne]; omega
    have hxn2 : ¬ x = 0 := by omega
    have fx := And.intro h0 <| And.intro h3 <| And.intro hxn <| hxn2
    refine k_run ?_
    clear fx
    exact e_ret [] .nil (by simp; rfl) ⟨v, q + 1, by simp, ⟨by omega, by omega⟩, by simp⟩
theorem DrawParseProgram_fn (gl) (code : List Int) (hc : CodeOk code) : FnOk Tryz.prog gl 24 [bsl code] (fun _ z _ => ∃ v : Txt, z = tx v ∧ v.length ≤ 20001) := by
  have hb := hc.bytes
  refine FnOk.of_sem Tryz.func24 rfl (by kernel_rfl) (rs := [.tmp 2]) rfl Tryz.ntmps24 (Nat.le_of_ble_eq_true rfl) fun C w g root => ?_
  have fx := fx0
  refine k_run ?_
  clear fx
  intro K hK
  refine x_own (ha := by simp) (hF := newReader_fn _ code hc.len) (h := ?_)
  rintro z H1 ⟨rfl, hR⟩
  have fx :=  hR
  refine k_run ?_
  clear fx
  refine o_mv (.s 4) (.u 1 0 0) (.inl rfl) (.inr rfl) ?_
  refine x_rd (bs := code.take 2000) (hs := by simp [hR]) (ha := by first | (simp; done) | (simp; rfl)) (hF := someText_fn _ _ (code.take 2000) 0 hb (by omega) (by simp [hR]) (by simp) (by simp) (by simp)) (h := ?_)
  rintro v pv ⟨hv, _⟩
  have fx := fx0
  refine k_run ?_
  clear fx
  exact e_ret [] .nil (by simp; rfl) ⟨v, by simp, hv⟩
theorem FnParseProgram_fn (gl : Nat → Option (List AV)) {m : Int} (hgm : gl 5 = some [.sc (.int .i64 m)]) (hgs : gl 1 = some ((vtx stmtW).map AV.sc)) (code : List Int) (hcode : ∀ v ∈ code, 0 ≤ v ∧ v ≤ 255) (hbig : code.length ≤ 1152921504606846976) :
    FnOk Tryz.prog gl 6 [bsl code] (fun _ z _ => z = bv true) := by
  refine FnOk.of_sem Tryz.func6 rfl (by kernel_rfl) (rs := [.tmp 2]) rfl Tryz.ntmps6 (Nat.le_of_ble_eq_true rfl) fun C w g root => ?_
  by_cases hlen : 1048576 < code.length
  · have hl1 : (1048576 : Int) < code.length := by omega
    have fx :=  hl1
    refine k_run ?_
    clear fx
    refine e_ret [] .nil (by simp; rfl) (by simp)
  have hl1 : ¬ (1048576 : Int) < code.length := by omega
  have hc : CodeOk code := ⟨by omega, hcode⟩
  have fx :=  hl1
  have e1 := DrawParseProgram_fn gl code hc
  refine k_run ?_
  clear fx e1
  rintro K hK z H1 ⟨s, rfl, hsl⟩
  refine ⟨by simp, ?_⟩
  have hsa : FnOk Tryz.prog gl 9 [tx s] (fun r y H' => y = .tup [.agg [.hs r 4 0 ((parseT s).getD []).length], bv (parseT s).isSome] ∧ OwnP H' r ((parseT s).getD [])) :=
    FnE.mono (spec_ParseProgram_fn gl s (by omega)) (fun _ _ _ ⟨q, h1, h2, h3⟩ => by subst h3; exact ⟨h1, h2⟩) (fun _ _ _ h => h)
  have hia : FnOk Tryz.prog gl 10 [tx s] (fun r y H' => y = .tup [.agg [.hs r 4 0 ((parseT s).getD []).length], bv (parseT s).isSome] ∧ OwnP H' r ((parseT s).getD [])) :=
    FnE.mono (ParseProgram_fn gl hgm hgs s (by omega)) (fun _ _ _ ⟨q, h1, h2, h3⟩ => by subst h3; exact ⟨h1, h2⟩) (fun _ _ _ h => h)
  have hG := parseT_sml (s := s)
  cases hp : parseT s with
  | none =>
    rw [hp] at hsa hia
    have heq := equalProgram_fn gl [] [] ⟨by simp, by simp, by simp⟩ ⟨by simp, by simp, by simp⟩
    have fx := fx0
    have e1 := hia
    refine k_run ?_
    clear fx e1
    rintro K hK y H2 ⟨rfl, hO⟩
    obtain ⟨a1, a2, a3⟩ := hO.hcln
    refine ⟨by simp, ?_⟩
    have fx :=  a1
    have e1 := hsa
    refine k_run ?_
    clear fx e1
    rintro K hK y H3 ⟨rfl, hO2⟩
    obtain ⟨b1, b2, b3⟩ := hO2.hcln
    refine ⟨by simp, ?_⟩
    have fx := And.intro a1 <| And.intro b1 <| @bne_def
    have c1 := heq
    refine k_run ?_
    clear fx c1
    refine e_ret [] .nil (by simp; rfl) (by simp)
  | some p =>
    rw [hp] at hsa hia hG
    simp only [Option.getD_some, Option.isSome_some] at hsa hia hG
    obtain ⟨hw, hv, _⟩ := write_back hp
    have hB := fun h => TxtB.of (ValP.of hG h) hG
    have hfp := impl_FormatProgram_fn gl hgs p hG hB
    have hvp := impl_ValidProgram_fn gl p hG
    rw [hv] at hfp hvp
    simp only [if_true] at hfp
    rw [hw] at hfp
    have heq := equalProgram_fn gl p p hG hG
    have fx := fx0
    have e1 := hia
    refine k_run ?_
    clear fx e1
    rintro K hK y H2 ⟨rfl, hO⟩
    obtain ⟨a1, a2, a3⟩ := hO.hcln
    refine ⟨by simp, ?_⟩
    have fx :=  a1
    have e1 := hsa
    refine k_run ?_
    clear fx e1
    rintro K hK y H3 ⟨rfl, hO2⟩
    obtain ⟨b1, b2, b3⟩ := hO2.hcln
    refine ⟨by simp, ?_⟩
    have fx := And.intro a1 <| And.intro b1 <| @bne_def
    have c1 := heq
    have c2 := hfp
    have c3 := hvp
    refine k_run ?_
    clear fx c1 c2 c3
    refine e_ret [] .nil (by simp; rfl) (by simp)
end Go.Proofs.YtmaoicgfcngciaaGreatDoor
end
