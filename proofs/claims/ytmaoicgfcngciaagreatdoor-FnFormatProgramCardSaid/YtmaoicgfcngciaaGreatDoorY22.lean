/-
  Own texts, joined by mkclaim.py: Ua, Uh, Ui, Up, Uq, Gt, Gu, Gv, Gw.
-/
import Derived.Test.YtmaoicgfcngciaaGreatDoorY18
import Derived.Test.YtmaoicgfcngciaaGreatDoorY14
import Derived.Test.YtmaoicgfcngciaaGreatDoorY21
import Derived.Test.YtmaoicgfcngciaaGreatDoorY17
import Derived.Test.YtmaoicgfcngciaaGreatDoorY15
import Derived.Test.YtmaoicgfcngciaaGreatDoorY10
import Derived.Test.YtmaoicgfcngciaaGreatDoorY11
set_option linter.unusedSimpArgs false
set_option linter.unusedVariables false
set_option maxRecDepth 100000
set_option maxHeartbeats 4000000

section
namespace Go.Proofs.YtmaoicgfcngciaaGreatDoor
open Go Go.Hm Go.Proofs
abbrev qsUa0 : Sch := .q 1 <| .q 2 <| .l 0 [2, 1] <| .q 3 <| .q 4 <| .l 5 [] <| .done
abbrev qsUa1 : Sch := .q 0 <| .q 1 <| .q 5 <| .q 6 <| .q 7 <| .q 8 <| .l 2 [8, 7, 6, 5, 0] <| .q 3 <| .q 4 <| .l 9 [4, 3, 7, 6, 5, 0] <| .q 10 <| .l 11 [] <| .done
attribute [local simp] slcAV
theorem digs_at : ∀ n, n < 10 → ([48, 49, 50, 51, 52, 53, 54, 55, 56, 57] : Txt).drop n = dg n :: ([48, 49, 50, 51, 52, 53, 54, 55, 56, 57] : Txt).drop (n + 1) := by decide
theorem numN_len (n : Nat) : (numN n).length ≤ n + 1 := by
  induction n using Nat.strongRecOn with
  | _ n ih =>
    rw [numN]
    split
    · simp
    · have := ih (n / 10) (by omega)
      simp
      omega
theorem number_nat (gl) : ∀ (k n : Nat), n ≤ k → n < 1152921504606846976 → FnOk Tryz.prog gl 43 [iv n] (fun _ y _ => y = tx (numN n)) := by
  intro k
  induction k with
  | zero =>
    intro n hk hn
    obtain rfl : n = 0 := by omega
    have hw1 : IntKind.i64.wrap 1 = 1 := wrp (by omega) (by omega)
    refine FnOk.of_sem Tryz.func43 rfl (by kernel_rfl) (rs := [.tmp 2]) rfl Tryz.ntmps43 (Nat.le_of_ble_eq_true rfl) fun C w g root => ?_
    have fx :=  hw1
    refine k_run ?_
    clear fx
    refine e_ret [] .nil (by simp; rfl) ?_
    simp [numN]
    rfl
  | succ k ih =>
    intro n hk hn
    have hw1 : IntKind.i64.wrap ((n : Int) + 1) = n + 1 := wrp (by omega) (by omega)
    have n0 : ¬ (n : Int) < 0 := by omega
    by_cases h : n < 10
    · have hd := digs_at n h
      have hi : (n : Int) < 10 := by omega
      have h1 : (n : Int) ≤ 9 := by omega
      have h2 : ((n : Int) + 1).toNat = n + 1 := by omega
      have h3 : (n : Int) ≤ (n : Int) + 1 := by omega
      have h4 : (n : Int) + 1 ≤ 10 := by omega
      have h5 : (0 : Int) ≤ (n : Int) := by omega
      have h6 : n + 1 - n = 1 := by omega
      refine FnOk.of_sem Tryz.func43 rfl (by kernel_rfl) (rs := [.tmp 2]) rfl Tryz.ntmps43 (Nat.le_of_ble_eq_true rfl) fun C w g root => ?_
      have fx := And.intro hw1 <| And.intro n0 <| And.intro hi <| And.intro h1 <| And.intro h2 <| And.intro h3 <| And.intro h4 <| And.intro h5 <| And.intro h6 <| hd
      refine k_run ?_
      clear fx
      refine e_ret [] .nil (by simp; rfl) ?_
      rw [numN, if_pos h]
      simp
    · have hi : ¬ (n : Int) < 10 := by omega
      obtain ⟨q, hq⟩ : ∃ q, q = n / 10 := ⟨_, rfl⟩
      obtain ⟨r, hr⟩ : ∃ r, r = n % 10 := ⟨_, rfl⟩
      have hwq : IntKind.i64.wrap ((n : Int) / 10) = (q : Int) := by
        rw [show (n : Int) / 10 = (q : Int) by omega]
        exact wrp (by omega) (by omega)
      have hwr : (n : Int).tmod 10 = (r : Int) := by
        rw [hr]
        rfl
      have q1 := ih q (by omega) (by omega)
      have q2 := ih r (by omega) (by omega)
      have hl1 := numN_len q
      have hl2 := numN_len r
      have hl : (numN q).length + (numN r).length ≤ 9223372036854775807 := by omega
      refine FnOk.of_sem Tryz.func43 rfl (by kernel_rfl) (rs := [.tmp 2]) rfl Tryz.ntmps43 (Nat.le_of_ble_eq_true rfl) fun C w g root => ?_
      have fx := And.intro n0 <| And.intro hi <| And.intro hwq <| And.intro hwr <| hl
      have c1 := q1
      have c2 := q2
      refine k_run ?_
      clear fx c1 c2
      refine e_ret [] .nil (by simp; rfl) ?_
      rw [numN_small (n := r) (by omega)]
      conv => rhs; rw [numN, if_neg h, ← hq, ← hr]
      simp
theorem number_fn (gl) (n : Int) (h0 : -1000000 ≤ n) (h1 : n ≤ 1000000) : FnOk Tryz.prog gl 43 [iv n] (fun _ y _ => y = tx (numI n)) := by
  by_cases h : n < 0
  · obtain ⟨k, rfl⟩ : ∃ k : Nat, n = -(k : Int) := ⟨(-n).toNat, by omega⟩
    have q := number_nat gl k k (Nat.le_refl _) (by omega)
    have hl1 := numN_len k
    have hl : (numN k).length + 1 ≤ 9223372036854775807 := by omega
    have hl' : 1 + (numN k).length ≤ 9223372036854775807 := by omega
    have hk0 : 0 < k := by omega
    have hk1 : ¬ k = 0 := by omega
    have hne : ¬ -(k : Int) = (k : Int) := by omega
    have hwn : IntKind.i64.wrap (k : Int) = k := wrp (by omega) (by omega)
    refine FnOk.of_sem Tryz.func43 rfl (by kernel_rfl) (rs := [.tmp 2]) rfl Tryz.ntmps43 (Nat.le_of_ble_eq_true rfl) fun C w g root => ?_
    have fx := And.intro hwn <| And.intro hk0 <| And.intro hk1 <| And.intro hne <| And.intro hl <| hl'
    have c1 := q
    refine k_run ?_
    clear fx c1
    refine e_ret [] .nil (by simp; rfl) ?_
    simp [numI, h, hk1]
  · obtain ⟨k, rfl⟩ : ∃ k : Nat, n = (k : Int) := ⟨n.toNat, by omega⟩
    rw [numI_nat]
    exact number_nat gl k k (Nat.le_refl _) (by omega)
theorem stmtWords_fn (gl) : FnOk Tryz.prog gl 126 [] (fun r y H' => y = .hs r 1 0 stmtW.length ∧ H' r = some (.row 1 (xrows stmtW))) := by
  refine FnOk.of_sem Tryz.func126 rfl (by kernel_rfl) (rs := [.tmp 0]) rfl Tryz.ntmps126 (Nat.le_of_ble_eq_true rfl) fun C w g root => ?_
  have fx := fx0
  refine k_run ?_
  clear fx
  exact e_list (t := 0) (by first | (simp []; done) | (simp []; rfl)) (by first | (simp []; done) | (simp []; rfl)) (by simp)
theorem numbersOf_fn (gl) (s : Stm) : FnOk Tryz.prog gl 152 [Stm.av s] (fun r y H' => y = .hs r 1 0 (numsOf s).length ∧ H' r = some (.row 1 (irows (numsOf s)))) := by
  refine FnOk.of_sem Tryz.func152 rfl (by kernel_rfl) (rs := [.tmp 2]) rfl Tryz.ntmps152 (Nat.le_of_ble_eq_true rfl) fun C w g root => ?_
  obtain ⟨kind, to, a, b⟩ := s
  all_goals have fx := fx0
  repeat' (first
   | refine w_seq ?_ | refine w_block ?_ | refine w_skip ?_ | refine w_reg fun K hK => ?_
   | ((with_reducible refine s_end hK ?_); clear hK K)
   | (with_reducible first | refine then_normal ?_ | refine in_normal ?_ | refine then_ret ?_ | refine in_ret ?_)
   | refine w_ret ?_
   | (with_reducible first | refine s_none ?_ | refine x_assign (h := ?_) | refine x_box (h := ?_) | refine x_build (h := ?_))
   | (with_reducible refine x_q (h := ?_))
   | refine x_condt (h1 := ?_) | refine x_condf (h1 := ?_)
   | refine x_if (h1 := fun ht => ?_) (h2 := fun ht => ?_)
   | fail)
  all_goals try clear fx
  all_goals refine e_list (t := 2) ?_ ?_ ?_
  all_goals simp_all [numsOf, irows]
theorem showStmt_fn (gl) (s : Stm) (hs : TxtS s) : FnOk Tryz.prog gl 102 [Stm.av s] (fun _ y _ => y = tx (showS s)) := by
  have hnum := hs.nums
  have hkd := hs.kind
  have hn3 := numsOf_len (s := s)
  have hnf := numbersOf_fn gl s
  have hsh : showS s = wordsL (stmtW.getD s.kind.toNat []) (numsOf s) := rfl
  rw [hsh]
  generalize numsOf s = ns at hnum hn3 hnf
  obtain ⟨kd, to, a, b⟩ := s
  simp only at hkd
  obtain ⟨K, rfl⟩ : ∃ K : Nat, kd = K := ⟨kd.toNat, by omega⟩
  have hK : K < 12 := by omega
  have hKl : K < stmtW.length := hK
  obtain ⟨v, hw⟩ : ∃ v, stmtW[K]? = some v := ⟨_, gE hKl⟩
  obtain ⟨_, hwE⟩ := gS hw
  have hwg : stmtW.getD ((K : Int)).toNat [] = v := by simp [List.getD_eq_getElem?_getD, hw]
  have hwl := (stmtW_len K hK).2
  rw [show stmtW.getD K [] = v by simp [List.getD_eq_getElem?_getD, hw]] at hwl
  simp only [hwg]
  refine FnOk.of_sem Tryz.func102 rfl (by kernel_rfl) (rs := [.tmp 2]) rfl Tryz.ntmps102 (Nat.le_of_ble_eq_true rfl) fun C w g root => ?_
  have fx := And.intro hK <| And.intro hKl <| And.intro hw <| hwE
  have d1 := stmtWords_fn gl
  have d2 := hnf
  refine k_run ?_
  repeat ((first | refine wSc (id := 1) qsUa0 mixed ?_); refine k_rund ?_; refine k_run ?_)
  clear fx d1 d2
  refine w_loop (fun n st => ∃ i : Nat, n = ns.length - i ∧ i ≤ ns.length ∧ st.tm 4 = .hs (.s 4) 1 0 ns.length ∧ st.hp (.s 4) = some (.row 1 (irows ns)) ∧ st.tm 5 = iv i ∧ st.tm 3 = tx (wordsL v (ns.take i))) ns.length ?_ ?_
  · exact ⟨0, by omega, by omega, by simp, by simp, by simp, by simp [wordsL]⟩
  rintro n st - - ⟨i, rfl, hi, h4, hp4, h5, h3⟩
  by_cases hil : i < ns.length
  · obtain ⟨x, hx⟩ : ∃ x, ns[i]? = some x := ⟨_, gE hil⟩
    obtain ⟨_, hxE⟩ := gS hx
    have hxs := hnum x (List.mem_of_getElem? hx)
    have hwl2 := wordsL_len (w := v) (small_take (i := i) hnum)
    have hxl := numI_len hxs
    rw [List.length_take] at hwl2
    have hl1 : ∀ c, 2000000000 ≤ c → (wordsL v (ns.take i)).length + 1 ≤ c := fun c hc => by omega
    have hl2 : ∀ c, 2000000000 ≤ c → (wordsL v (ns.take i)).length + 1 + (numI x).length ≤ c := fun c hc => by omega
    have fx := And.intro h4 <| And.intro hp4 <| And.intro h5 <| And.intro h3 <| And.intro hil <| And.intro hx <| And.intro hxE <| And.intro hl1 <| hl2
    have c1 := number_fn gl x (by omega) (by omega)
    refine k_run ?_
    repeat ((first | refine wSc (id := 1) qsUa0 mixed ?_); refine k_rund ?_; refine k_run ?_)
    clear fx c1
    refine ⟨ns.length - (i + 1), by omega, i + 1, rfl, by omega, by simp [h4], by simp [hp4], by simp [h5]; exact wrp (by omega) (by omega), by simp [wordsL_take hx]⟩
  · obtain rfl : i = ns.length := by omega
    have fx := And.intro h4 <| And.intro hp4 <| And.intro h5 <| And.intro h3 <| hil
    refine k_run ?_
    repeat ((first | refine wSc (id := 1) qsUa0 mixed ?_); refine k_rund ?_; refine k_run ?_)
    clear fx
    refine e_ret [] .nil (by simp [h3]; rfl) ?_
    simp
theorem showHead_fn (gl) (k : Blk) (hk : TxtH k) (hp1 : k.params.length ≤ 1) : FnOk Tryz.prog gl 101 [Blk.av k] (fun _ y _ => y = tx (showH k)) := by
  have hpar := hk.parent
  have hpl := numI_len hpar
  have hl1 : ∀ c, 2000000000 ≤ c → (numI k.parent).length ≤ c := fun c hc => by omega
  have hl3 : ∀ c, 2000000000 ≤ c → 3 + (numI k.parent).length ≤ c := fun c hc => by omega
  refine FnOk.of_sem Tryz.func101 rfl (by kernel_rfl) (rs := [.tmp 2]) rfl Tryz.ntmps101 (Nat.le_of_ble_eq_true rfl) fun C w g root => ?_
  by_cases h2 : k.kind = 2
  · have hb : (k.kind == 2) = true := by simpa using h2
    have fx := And.intro hb <| And.intro hl1 <| hl3
    have c1 := number_fn gl k.parent (by omega) (by omega)
    refine k_run ?_
    repeat ((first | refine wSc (id := 5) qsUa1 mixed ?_); refine k_rund ?_; refine k_run ?_)
    clear fx c1
    refine e_ret [] .nil (by simp; rfl) ?_
    simp [showH, h2, wordsL, tIn, tClass]
  have hb : (k.kind == 2) = false := by simpa using h2
  cases hps : k.params with
  | nil =>
    have fx := And.intro hb <| And.intro hps <| And.intro hl1 <| hl3
    have c1 := number_fn gl k.parent (by omega) (by omega)
    refine k_run ?_
    repeat ((first | refine wSc (id := 5) qsUa1 mixed ?_); refine k_rund ?_; refine k_run ?_)
    clear fx c1
    refine e_ret [] .nil (by simp; rfl) ?_
    simp [showH, h2, wordsL, tIn, tFun, hps]
  | cons x l =>
    obtain rfl : l = [] := by
      rw [hps] at hp1
      exact List.eq_nil_of_length_eq_zero (by simpa using hp1)
    have hxs := hk.params x (by simp [hps])
    have hxl := numI_len hxs
    have hl5 : ∀ c, 2000000000 ≤ c → (numI k.parent).length + (numI x).length ≤ c := fun c hc => by omega
    have hl6 : ∀ c, 2000000000 ≤ c → (numI k.parent).length + 5 + 1 + 1 + 1 + (numI x).length ≤ c := fun c hc => by omega
    have fx := And.intro hb <| And.intro hps <| And.intro hl1 <| And.intro hl3 <| And.intro hl5 <| hl6
    have c1 := number_fn gl k.parent (by omega) (by omega)
    have c2 := number_fn gl x (by omega) (by omega)
    refine k_run ?_
    repeat ((first | refine wSc (id := 5) qsUa1 mixed ?_); refine k_rund ?_; refine k_run ?_)
    clear fx c1 c2
    refine e_ret [] .nil (by simp; rfl) ?_
    simp [showH, h2, wordsL, tIn, tFun, hps]
theorem format_fn (gl) (p : Prg) (hp : TxtB p) : FnOk Tryz.prog gl 53 [pav p] (fun _ y _ => y = tx (fmt p)) := by
  have hl7 := hp.len
  refine FnOk.of_sem Tryz.func53 rfl (by kernel_rfl) (rs := [.tmp 2]) rfl Tryz.ntmps53 (Nat.le_of_ble_eq_true rfl) fun C w g root => ?_
  have fx := fx0
  refine k_run ?_
  clear fx
  refine w_loop (fun n st => ∃ b : Nat, n = p.length - b ∧ b ≤ p.length ∧ st.tm 1 = .pt (.s 1) 0 ∧ st.hp (.s 1) = some (.row 1 [[ksl p]]) ∧ st.tm 4 = iv b ∧ st.tm 3 = tx (linesL 10 (fmtTo p b))) p.length ?_ ?_
  · exact ⟨0, by omega, by omega, by simp, by simp, by simp, by simp [fmtTo_zero, linesL]⟩
  rintro n st - - ⟨b, rfl, hb, h1, hp1, h4, h3⟩
  by_cases hbl : b < p.length
  · obtain ⟨k, hk⟩ : ∃ k, p[b]? = some k := ⟨_, gE hbl⟩
    obtain ⟨_, hkE⟩ := gS hk
    have hkm := List.mem_of_getElem? hk
    have hbody := hp.body k hkm
    have hL0 := fmt_len0 hp hb
    have hb0 : b = 0 ∨ 0 < b := by omega
    rcases hb0 with hb0 | hb0
    case' inl =>
      have hbi : ¬ 0 < b := by omega
      have hbt : blkTo b k 0 = [] := by simp [blkTo, hb0]
      have fx := And.intro h1 <| And.intro hp1 <| And.intro h4 <| And.intro h3 <| And.intro hbl <| And.intro hk <| And.intro hkE <| hbi
      refine k_run ?_
      clear fx
    case' inr =>
      have hhd := hp.txt.heads b k hk hb0
      have hhl := showH_len hhd (hp.par k hkm)
      have hbt : blkTo b k 0 = [showH k] := by
        have : ¬ b = 0 := by omega
        simp [blkTo, this]
      have hL1 : ∀ c, 2000000000 ≤ c → (linesL 10 (fmtTo p b)).length + (showH k).length ≤ c := fun c hc => by omega
      have hL2 : ∀ c, 2000000000 ≤ c → (linesL 10 (fmtTo p b)).length + (showH k).length + 1 ≤ c := fun c hc => by omega
      have fx := And.intro h1 <| And.intro hp1 <| And.intro h4 <| And.intro h3 <| And.intro hbl <| And.intro hk <| And.intro hkE <| And.intro hb0 <| And.intro hL1 <| hL2
      have c1 := showHead_fn gl k hhd (hp.par k hkm)
      refine k_run ?_
      clear fx c1
    all_goals
      refine w_loop (fun n st => ∃ i : Nat, n = k.body.length - i ∧ i ≤ k.body.length ∧ st.tm 1 = .pt (.s 1) 0 ∧ st.hp (.s 1) = some (.row 1 [[ksl p]]) ∧ st.tm 4 = iv b ∧ st.tm 5 = iv i ∧ st.tm 3 = tx (linesL 10 (fmtTo p b ++ blkTo b k i))) k.body.length ?_ ?_
      · exact ⟨0, by omega, by omega, by simp [h1], by simp [hp1], by simp [h4], by simp, by simp [h3, hbt, linesL_app, linesL_snoc, linesL]⟩
      clear h1 hp1 h4 h3 hbt
      rintro n st - - ⟨i, rfl, hi, h1, hp1, h4, h5, h3⟩
      by_cases hil : i < k.body.length
      · obtain ⟨s, hs⟩ : ∃ s, k.body[i]? = some s := ⟨_, gE hil⟩
        obtain ⟨_, hsE⟩ := gS hs
        have hst := hp.txt.stms k hkm s (List.mem_of_getElem? hs)
        have hsl := showS_len hst
        have hL3 := fmt_len (i := i) hp hk
        have hL4 : ∀ c, 2000000000 ≤ c → (linesL 10 (fmtTo p b ++ blkTo b k i)).length + (showS s).length ≤ c := fun c hc => by omega
        have hL5 : ∀ c, 2000000000 ≤ c → (linesL 10 (fmtTo p b ++ blkTo b k i)).length + (showS s).length + 1 ≤ c := fun c hc => by omega
        have hnext : linesL 10 (fmtTo p b ++ blkTo b k (i + 1)) = linesL 10 (fmtTo p b ++ blkTo b k i) ++ (showS s ++ [10]) := by
          rw [blkTo_succ hs, ← List.append_assoc, linesL_snoc]
        generalize linesL 10 (fmtTo p b ++ blkTo b k i) = L at h3 hL4 hL5 hnext
        have fx := And.intro h1 <| And.intro hp1 <| And.intro h4 <| And.intro h5 <| And.intro h3 <| And.intro hbl <| And.intro hk <| And.intro hkE <| And.intro hil <| And.intro hs <| And.intro hsE <| And.intro hL4 <| hL5
        have c1 := showStmt_fn gl s hst
        refine k_run ?_
        clear fx c1
        refine ⟨k.body.length - (i + 1), by omega, i + 1, rfl, by omega, by simp [h1], by simp [hp1], by simp [h4], by simp [h5]; exact wrp (by omega) (by omega), by simp [hnext]⟩
      · obtain rfl : i = k.body.length := by omega
        rw [blkTo_all, ← fmtTo_succ hk] at h3
        have fx := And.intro h1 <| And.intro hp1 <| And.intro h4 <| And.intro h5 <| And.intro h3 <| And.intro hbl <| And.intro hk <| And.intro hkE <| hil
        refine k_run ?_
        clear fx
        refine ⟨p.length - (b + 1), by omega, b + 1, rfl, by omega, by simp [h1], by simp [hp1], by simp [h4]; exact wrp (by omega) (by omega), by simp [h3]⟩
  · obtain rfl : b = p.length := by omega
    have fx := And.intro h1 <| And.intro hp1 <| And.intro h4 <| And.intro h3 <| hbl
    refine k_run ?_
    clear fx
    refine e_ret [] .nil (by simp [h3]; rfl) ?_
    simp [fmt, fmtTo_all]
end Go.Proofs.YtmaoicgfcngciaaGreatDoor
end
section
namespace Go.Proofs.YtmaoicgfcngciaaGreatDoor
open Go Go.Hm Go.Proofs
end Go.Proofs.YtmaoicgfcngciaaGreatDoor
end
section
namespace Go.Proofs.YtmaoicgfcngciaaGreatDoor
open Go Go.Hm Go.Proofs
attribute [local simp] slcAV
end Go.Proofs.YtmaoicgfcngciaaGreatDoor
end
section
namespace Go.Proofs.YtmaoicgfcngciaaGreatDoor
open Go Go.Hm Go.Proofs
attribute [local simp] slcAV
end Go.Proofs.YtmaoicgfcngciaaGreatDoor
end
section
namespace Go.Proofs.YtmaoicgfcngciaaGreatDoor
open Go Go.Hm Go.Proofs
abbrev qsGt0 : Sch := .q 0 <| .q 1 <| .q 2 <| .q 3 <| .q 4 <| .q 5 <| .q 6 <| .q 7 <| .q 8 <| .q 9 <| .q 10 <| .q 11 <| .q 12 <| .q 13 <| .q 14 <| .q 15 <| .q 16 <| .q 17 <| .q 18 <| .q 19 <| .q 20 <| .q 21 <| .q 22 <| .q 23 <| .q 24 <| .q 25 <| .q 26 <| .q 27 <| .q 28 <| .q 29 <| .q 30 <| .q 31 <| .q 32 <| .q 33 <| .q 34 <| .q 35 <| .q 36 <| .q 37 <| .q 38 <| .q 39 <| .q 40 <| .q 41 <| .q 42 <| .q 43 <| .q 44 <| .l 45 [] <| .done
theorem tmod_nat {v : Int} {n : Nat} (hv : 0 ≤ v) (hn : 0 < n) : ∃ k : Nat, v.tmod n = k ∧ k < n := by
  have h1 := Int.tmod_nonneg n hv
  have h2 := Int.tmod_lt_of_pos v (show (0 : Int) < n by omega)
  exact ⟨(v.tmod n).toNat, by omega, by omega⟩
theorem xor_nat {x y : Int} (hx : 0 ≤ x ∧ x ≤ 1000000000000) (hy : 0 ≤ y ∧ y ≤ 1000000000000) : ∃ r : Nat, IntKind.i64.wrap (((x % 2 ^ IntKind.i64.bits).toNat ^^^ (y % 2 ^ IntKind.i64.bits).toNat : Nat) : Int) = r := by
  have e : ∀ z : Int, 0 ≤ z ∧ z ≤ 1000000000000 → (z % 2 ^ IntKind.i64.bits).toNat < 2 ^ 40 := by
    intro z hz
    simp only [show IntKind.i64.bits = 64 from rfl]
    omega
  have h := Nat.xor_lt_two_pow (e x hx) (e y hy)
  exact ⟨_, wrp (by omega) (by omega)⟩
@[simp] theorem int_xorv {k : IntKind} {x y : Int} : intAV k .xor x y = some (.sc (.int k (k.wrap ((BitVec.ofInt k.bits x ^^^ BitVec.ofInt k.bits y).toNat : Int)))) := rfl
theorem pick_fn (gl) (H : Nm → Option AO) (bs : List Int) (pos n : Nat) (hb : BytesOk bs) (hpos : pos ≤ 1000000) (hn : n ≤ 1000000) (hH : H (.u 1 0 0) = some (rdO bs pos)) :
    FnE Tryz.prog gl 98 (Nm.under (.u 1 0 0)) [.pt (.u 1 0 0) 0, iv n] H (fun _ z H' => ∃ k : Nat, z = iv k ∧ (k = 0 ∨ k < n) ∧ H' (.u 1 0 0) = some (rdO bs (pos + 1))) noE := by
  have w1 : IntKind.i64.wrap ((pos : Int) + 1) = pos + 1 := wrp (by omega) (by omega)
  have w0 : IntKind.i64.wrap (pos : Int) = pos := wrp (by omega) (by omega)
  have hbl := hb.len
  refine FnE.of_sem Tryz.func98 rfl (by kernel_rfl) (rs := [.tmp 4]) rfl Tryz.ntmps98 (Nat.le_of_ble_eq_true rfl) (fun _ => under_usroot rfl) fun C w g root hroot => ?_
  rcases Nat.eq_zero_or_pos n with rfl | hn0
  · skip
    have fx := And.intro hH <| w1
    refine k_run ?_
    repeat ((first | refine wSc (id := 7) qsGt0 mixed ?_); refine k_rund ?_; refine k_run ?_)
    clear fx
    refine e_ret [] .nil (by simp; rfl) ⟨0, by simp, .inl rfl, by simp [hH]⟩
  have hn1 : ¬ (n : Int) < 1 := by omega
  rcases Nat.eq_zero_or_pos bs.length with hl0 | hl
  · skip
    have fx := And.intro hH <| And.intro w1 <| And.intro hn1 <| hl0
    refine k_run ?_
    repeat ((first | refine wSc (id := 7) qsGt0 mixed ?_); refine k_rund ?_; refine k_run ?_)
    clear fx
    refine e_ret [] .nil (by simp; rfl) ⟨0, by simp, .inl rfl, by simp [hH]⟩
  have hl1 : ((bs.length : Int) == 0) = false := by rw [beq_eq_false_iff_ne]; omega
  have hn2 : ¬ n = 0 := by omega
  by_cases hpl : pos < bs.length
  · obtain ⟨v, hv⟩ : ∃ v, bs[pos]? = some v := ⟨_, gE hpl⟩
    obtain ⟨_, hvE⟩ := gS hv
    have hvr := hb.rng v (List.mem_of_getElem? hv)
    obtain ⟨k, hk, hkn⟩ := tmod_nat hvr.1 hn0
    have wv : IntKind.i64.wrap v = v := wrp (by omega) (by omega)
    have fx := And.intro hH <| And.intro w1 <| And.intro w0 <| And.intro hn1 <| And.intro hl1 <| And.intro hpl <| And.intro hv <| And.intro hvE <| And.intro hn2 <| And.intro hk <| wv
    refine k_run ?_
    repeat ((first | refine wSc (id := 7) qsGt0 mixed ?_); refine k_rund ?_; refine k_run ?_)
    clear fx
    refine e_ret [] .nil (by simp; rfl) ⟨k, by simp, .inr hkn, by simp [hH]⟩
  have hbl0 : ¬ bs.length = 0 := by omega
  obtain ⟨i1, hi1, hi1l⟩ := tmod_nat (v := (pos : Int)) (by omega) hl
  obtain ⟨i2, hi2, hi2l⟩ := tmod_nat (v := (pos : Int) * 7 + 3) (by omega) hl
  obtain ⟨b1, hb1⟩ : ∃ v, bs[i1]? = some v := ⟨_, gE hi1l⟩
  obtain ⟨b2, hb2⟩ : ∃ v, bs[i2]? = some v := ⟨_, gE hi2l⟩
  obtain ⟨_, hb1E⟩ := gS hb1
  obtain ⟨_, hb2E⟩ := gS hb2
  have hr1 := hb.rng b1 (List.mem_of_getElem? hb1)
  have hr2 := hb.rng b2 (List.mem_of_getElem? hb2)
  have wb1 : IntKind.i64.wrap b1 = b1 := wrp (by omega) (by omega)
  have wb2 : IntKind.i64.wrap b2 = b2 := wrp (by omega) (by omega)
  have w7 : IntKind.i64.wrap ((pos : Int) * 7) = pos * 7 := wrp (by omega) (by omega)
  have w73 : IntKind.i64.wrap ((pos : Int) * 7 + 3) = pos * 7 + 3 := wrp (by omega) (by omega)
  obtain ⟨q, hq, hql⟩ : ∃ q : Nat, (pos : Int) / (bs.length : Int) = q ∧ q ≤ pos := ⟨pos / bs.length, by simp, Nat.div_le_self _ _⟩
  have wq : IntKind.i64.wrap (q : Int) = q := wrp (by omega) (by omega)
  have w131 : IntKind.i64.wrap (b1 * 131) = b1 * 131 := wrp (by omega) (by omega)
  have w1117 : IntKind.i64.wrap (b2 * 1117) = b2 * 1117 := wrp (by omega) (by omega)
  have wa : IntKind.i64.wrap (b1 * 131 + b2 * 1117) = b1 * 131 + b2 * 1117 := wrp (by omega) (by omega)
  have w29 : IntKind.i64.wrap ((pos : Int) * 29) = pos * 29 := wrp (by omega) (by omega)
  have wb : IntKind.i64.wrap (b1 * 131 + b2 * 1117 + pos * 29) = b1 * 131 + b2 * 1117 + pos * 29 := wrp (by omega) (by omega)
  have w53 : IntKind.i64.wrap ((q : Int) * 53) = q * 53 := wrp (by omega) (by omega)
  obtain ⟨X, hX⟩ : ∃ X, X = b1 * 131 + b2 * 1117 + pos * 29 + q * 53 := ⟨_, rfl⟩
  have wX : IntKind.i64.wrap (b1 * 131 + b2 * 1117 + pos * 29 + q * 53) = X := by rw [hX]; exact wrp (by omega) (by omega)
  obtain ⟨Y, hY, hYr⟩ : ∃ Y, X.tdiv 64 = Y ∧ 0 ≤ Y ∧ Y ≤ X := by
    refine ⟨_, rfl, Int.tdiv_nonneg (by omega) (by decide), ?_⟩
    exact Int.tdiv_le_self _ (by omega)
  have wY : IntKind.i64.wrap Y = Y := wrp (by omega) (by omega)
  obtain ⟨r, hr⟩ := xor_nat (x := X) (y := Y) (by omega) (by omega)
  obtain ⟨k, hk, hkn⟩ := tmod_nat (v := (r : Int)) (by omega) hn0
  have fx := And.intro hH <| And.intro w1 <| And.intro w0 <| And.intro hn1 <| And.intro hl1 <| And.intro hpl <| And.intro hi1 <| And.intro hi2 <| And.intro hi1l <| And.intro hi2l <| And.intro hb1 <| And.intro hb2 <| And.intro hb1E <| And.intro hb2E <| And.intro wb1 <| And.intro wb2 <| And.intro w7 <| And.intro w73 <| And.intro hbl0 <| And.intro hq <| And.intro wq <| And.intro w131 <| And.intro w1117 <| And.intro wa <| And.intro w29 <| And.intro wb <| And.intro w53 <| And.intro wX <| And.intro hY <| And.intro wY <| And.intro hr <| And.intro hn2 <| hk
  refine k_run ?_
  repeat ((first | refine wSc (id := 7) qsGt0 mixed ?_); refine k_rund ?_; refine k_run ?_)
  clear fx
  refine e_ret [] .nil (by simp; rfl) ⟨k, by simp, .inr hkn, by simp [hH]⟩
theorem one_fn (gl) (H : Nm → Option AO) (bs : List Int) (pos : Nat) (xs : List Int) (hb : BytesOk bs) (hpos : pos ≤ 1000000) (hx : 0 < xs.length ∧ xs.length ≤ 1000) (hH : H (.u 1 0 0) = some (rdO bs pos)) (hL : H (.u 2 0 0) = some (.row 1 (irows xs))) :
    FnE Tryz.prog gl 100 D12 [.pt (.u 1 0 0) 0, .hs (.u 2 0 0) 1 0 xs.length] H (fun _ z H' => ∃ v, z = iv v ∧ v ∈ xs ∧ H' (.u 1 0 0) = some (rdO bs (pos + 1))) noE := by
  have hxl := hx.2
  refine FnE.of_sem Tryz.func100 rfl (by kernel_rfl) (rs := [.tmp 4]) rfl Tryz.ntmps100 (Nat.le_of_ble_eq_true rfl) (fun _ => D12_root) fun C w g root hroot => ?_
  all_goals have fx := fx0
  repeat' (first
   | refine w_seq ?_ | refine w_reg fun K hK => ?_
   | ((with_reducible refine s_end hK ?_); clear hK K)
   | (with_reducible first | refine then_normal ?_ | refine then_ret ?_)
   | refine w_ret ?_
   | (with_reducible first | refine s_none ?_ | refine x_assign (h := ?_))
   | (with_reducible refine x_q (h := ?_))
   | fail)
  all_goals try clear fx
  have fx := hxl
  refine x_mut (.u 1 0 0) rfl (by simp [hH]) (hF := pick_fn _ _ bs pos xs.length hb hpos (by omega) (by simp [hH])) (h := ?_)
  rintro z H1 ⟨k, rfl, hk, hk1⟩
  have hkl : k < xs.length := by omega
  obtain ⟨v, hv⟩ : ∃ v, xs[k]? = some v := ⟨_, gE hkl⟩
  obtain ⟨_, hvE⟩ := gS hv
  clear fx
  have fx := And.intro hL <| And.intro hkl <| And.intro hv <| hvE
  refine k_run ?_
  clear fx
  refine e_ret [] .nil (by simp; rfl) ⟨v, by simp, List.mem_of_getElem? hv, by simp [hk1]⟩
theorem oneOk (gl) : OneOk Tryz.prog gl 100 := fun H bs pos xs hb hp hx hH hL => one_fn gl H bs pos xs hb hp hx hH hL
theorem aName_fn (gl) (H : Nm → Option AO) (bs : List Int) (pos : Nat) (hb : BytesOk bs) (hpos : pos ≤ 1000000) (hH : H (.u 1 0 0) = some (rdO bs pos)) (hV : H (.u 2 0 0) = none) :
    FnE Tryz.prog gl 181 (Nm.under (.u 1 0 0)) [.pt (.u 1 0 0) 0] H (fun _ z H' => ∃ v, z = iv v ∧ H' (.u 1 0 0) = some (rdO bs (pos + 1))) noE := by
  refine FnE.of_sem Tryz.func181 rfl (by kernel_rfl) (rs := [.tmp 2]) rfl Tryz.ntmps181 (Nat.le_of_ble_eq_true rfl) (fun _ => under_usroot rfl) fun C w g root hroot => ?_
  have fx := fx0
  refine k_run ?_
  clear fx
  first | show SemOp _ _ _ _ _ | intro K hK
  refine x_one (oneOk _) 4 [0, 1, 2, 0, 1, 3, 7] hb hpos (hV := hV) (h0 := by simp) (h1 := by simp) (hH := by simp [hH]) (hL := by simp [irows]) (h := ?_)
  intro v hv
  have fx := fx0
  refine k_run ?_
  clear fx
  refine e_ret [] .nil (by simp; rfl) ⟨v, by simp, by simp⟩
theorem pick_rd (gl) (H : Nm → Option AO) (bs : List Int) (pos n : Nat) (hb : BytesOk bs) (hpos : pos ≤ 1000000) (hn : n ≤ 1000000) (hH : H (.u 1 0 0) = some (rdO bs pos)) :
    FnE Tryz.prog gl 98 (Nm.under (.u 1 0 0)) [.pt (.u 1 0 0) 0, iv n] H (RdPost bs (fun k : Nat => iv k) (fun k pos' => (k = 0 ∨ k < n) ∧ pos' = pos + 1)) noE :=
  FnE.mono (pick_fn gl H bs pos n hb hpos hn hH) (fun _ _ _ ⟨k, h1, h2, h3⟩ => ⟨k, pos + 1, h1, ⟨h2, rfl⟩, h3⟩) (fun _ _ _ h => h)
theorem aName_rd (gl) (H : Nm → Option AO) (bs : List Int) (pos : Nat) (hb : BytesOk bs) (hpos : pos ≤ 1000000) (hH : H (.u 1 0 0) = some (rdO bs pos)) (hV : H (.u 2 0 0) = none) :
    FnE Tryz.prog gl 181 (Nm.under (.u 1 0 0)) [.pt (.u 1 0 0) 0] H (RdPost bs (fun v : Int => iv v) (fun _ pos' => pos' = pos + 1)) noE :=
  FnE.mono (aName_fn gl H bs pos hb hpos hH hV) (fun _ _ _ ⟨v, h1, h3⟩ => ⟨v, pos + 1, h1, rfl, h3⟩) (fun _ _ _ h => h)
theorem someStmt_fn (gl) (H : Nm → Option AO) (bs : List Int) (pos : Nat) (kind : Int) (hb : BytesOk bs) (hpos : pos ≤ 900000) (hH : H (.u 1 0 0) = some (rdO bs pos)) (hV : H (.u 2 0 0) = none) :
    FnE Tryz.prog gl 180 (Nm.under (.u 1 0 0)) [.pt (.u 1 0 0) 0, iv kind] H (RdPost bs (fun s : Stm => s.av) (fun _ pos' => pos ≤ pos' ∧ pos' ≤ pos + 8)) noE := by
  refine FnE.of_sem Tryz.func180 rfl (by kernel_rfl) (rs := [.cell 4 86]) rfl Tryz.ntmps180 (Nat.le_of_ble_eq_true rfl) (fun _ => under_usroot rfl) fun C w g root hroot => ?_
  have fx := fx0
  refine k_run ?_
  clear fx
  first | show SemOp _ _ _ _ _ | intro K hK
  refine x_one (oneOk _) 7 [0, 1, 2, 0, 1, 3] (bs := bs) (pos := pos) hb (by omega) (hV := hV) (h0 := by simp) (h1 := by simp) (hH := by simp [hH]) (hL := by simp [irows]) (h := ?_)
  intro to hto
  have fx := fx0
  refine k_run ?_
  clear fx
  first | show SemOp _ _ _ _ _ | intro K hK
  refine x_rd (hs := by simp) (ha := by first | (simp; done) | (simp; rfl)) (hF := pick_rd _ _ bs (pos + 1) 12 hb (by omega) (by omega) (by simp)) (h := ?_)
  rintro k pk ⟨hk, rfl⟩
  have hk12 : k < 12 := by omega
  have hkc : k = 0 ∨ k = 1 ∨ k = 2 ∨ k = 3 ∨ k = 4 ∨ k = 5 ∨ k = 6 ∨ k = 7 ∨ k = 8 ∨ k = 9 ∨ k = 10 ∨ k = 11 := by omega
  clear hk hk12
  rcases hkc with rfl | rfl | rfl | rfl | rfl | rfl | rfl | rfl | rfl | rfl | rfl | rfl
  · skip
    have fx := fx0
    refine k_run ?_
    clear fx
    first | show SemOp _ _ _ _ _ | intro K hK
    refine x_rd (hs := by simp) (ha := by first | (simp; done) | (simp; rfl)) (hF := pick_rd _ _ bs (pos + 1 + 1) 20 hb (by omega) (by omega) (by simp)) (h := ?_)
    rintro x px ⟨hx, rfl⟩
    have fx := fx0
    refine k_run ?_
    clear fx
    first | show SemOp _ _ _ _ _ | intro K hK
    refine x_one (oneOk _) 19 [(x : Int), 99, 5] (bs := bs) (pos := pos + 1 + 1 + 1) hb (by omega) (hV := hV) (h0 := by simp) (h1 := by simp) (hH := by simp) (hL := by simp [irows]) (h := ?_)
    intro v hv
    have fx := fx0
    refine k_run ?_
    clear fx
    exact e_ret [] .nil (by simp; rfl) ⟨⟨0, to, v, 0⟩, pos + 1 + 1 + 1 + 1, by simp, by omega, by simp⟩
  · skip
    have fx := fx0
    refine k_run ?_
    clear fx
    first | show SemOp _ _ _ _ _ | intro K hK
    refine x_rd (hs := by simp) (ha := by first | (simp; done) | (simp; rfl)) (hF := pick_rd _ _ bs (pos + 1 + 1) 20 hb (by omega) (by omega) (by simp)) (h := ?_)
    rintro x px ⟨hx, rfl⟩
    have fx := fx0
    refine k_run ?_
    clear fx
    first | show SemOp _ _ _ _ _ | intro K hK
    refine x_one (oneOk _) 19 [(x : Int), 99, 5] (bs := bs) (pos := pos + 1 + 1 + 1) hb (by omega) (hV := hV) (h0 := by simp) (h1 := by simp) (hH := by simp) (hL := by simp [irows]) (h := ?_)
    intro v hv
    have fx := fx0
    refine k_run ?_
    clear fx
    exact e_ret [] .nil (by simp; rfl) ⟨⟨0, to, v, 0⟩, pos + 1 + 1 + 1 + 1, by simp, by omega, by simp⟩
  · skip
    have fx := fx0
    refine k_run ?_
    clear fx
    first | show SemOp _ _ _ _ _ | intro K hK
    refine x_rd (hs := by simp) (ha := by first | (simp; done) | (simp; rfl)) (hF := pick_rd _ _ bs (pos + 1 + 1) 20 hb (by omega) (by omega) (by simp)) (h := ?_)
    rintro x px ⟨hx, rfl⟩
    have fx := fx0
    refine k_run ?_
    clear fx
    first | show SemOp _ _ _ _ _ | intro K hK
    refine x_one (oneOk _) 19 [(x : Int), 99, 5] (bs := bs) (pos := pos + 1 + 1 + 1) hb (by omega) (hV := hV) (h0 := by simp) (h1 := by simp) (hH := by simp) (hL := by simp [irows]) (h := ?_)
    intro v hv
    have fx := fx0
    refine k_run ?_
    clear fx
    exact e_ret [] .nil (by simp; rfl) ⟨⟨0, to, v, 0⟩, pos + 1 + 1 + 1 + 1, by simp, by omega, by simp⟩
  · skip
    have fx := fx0
    refine k_run ?_
    clear fx
    first | show SemOp _ _ _ _ _ | intro K hK
    refine x_rd (hs := by simp) (ha := by first | (simp; done) | (simp; rfl)) (hF := aName_rd _ _ bs (pos + 1 + 1) hb (by omega) (by simp) (by simp)) (h := ?_)
    rintro v pv rfl
    have fx := fx0
    refine k_run ?_
    clear fx
    exact e_ret [] .nil (by simp; rfl) ⟨⟨1, to, v, 0⟩, pos + 1 + 1 + 1, by simp, by omega, by simp⟩
  · skip
    have fx := fx0
    refine k_run ?_
    clear fx
    first | show SemOp _ _ _ _ _ | intro K hK
    refine x_rd (hs := by simp) (ha := by first | (simp; done) | (simp; rfl)) (hF := aName_rd _ _ bs (pos + 1 + 1) hb (by omega) (by simp) (by simp)) (h := ?_)
    rintro v pv rfl
    have fx := fx0
    refine k_run ?_
    clear fx
    first | show SemOp _ _ _ _ _ | intro K hK
    refine x_rd (hs := by simp) (ha := by first | (simp; done) | (simp; rfl)) (hF := aName_rd _ _ bs (pos + 1 + 1 + 1) hb (by omega) (by simp) (by simp)) (h := ?_)
    rintro w pw rfl
    have fx := fx0
    refine k_run ?_
    clear fx
    exact e_ret [] .nil (by simp; rfl) ⟨⟨2, to, v, w⟩, pos + 1 + 1 + 1 + 1, by simp, by omega, by simp⟩
  · skip
    have fx := fx0
    refine k_run ?_
    clear fx
    first | show SemOp _ _ _ _ _ | intro K hK
    refine x_rd (hs := by simp) (ha := by first | (simp; done) | (simp; rfl)) (hF := aName_rd _ _ bs (pos + 1 + 1) hb (by omega) (by simp) (by simp)) (h := ?_)
    rintro v pv rfl
    have fx := fx0
    refine k_run ?_
    clear fx
    exact e_ret [] .nil (by simp; rfl) ⟨⟨7, 0, v, 0⟩, pos + 1 + 1 + 1, by simp, by omega, by simp⟩
  · skip
    have fx := fx0
    refine k_run ?_
    clear fx
    first | show SemOp _ _ _ _ _ | intro K hK
    refine x_rd (hs := by simp) (ha := by first | (simp; done) | (simp; rfl)) (hF := aName_rd _ _ bs (pos + 1 + 1) hb (by omega) (by simp) (by simp)) (h := ?_)
    rintro v pv rfl
    have fx := fx0
    refine k_run ?_
    clear fx
    exact e_ret [] .nil (by simp; rfl) ⟨⟨7, 0, v, 0⟩, pos + 1 + 1 + 1, by simp, by omega, by simp⟩
  · skip
    have fx := fx0
    refine k_run ?_
    clear fx
    first | show SemOp _ _ _ _ _ | intro K hK
    refine x_rd (hs := by simp) (ha := by first | (simp; done) | (simp; rfl)) (hF := aName_rd _ _ bs (pos + 1 + 1) hb (by omega) (by simp) (by simp)) (h := ?_)
    rintro v pv rfl
    have fx := fx0
    refine k_run ?_
    clear fx
    first | show SemOp _ _ _ _ _ | intro K hK
    refine x_one (oneOk _) 48 [4, 5, v] (bs := bs) (pos := pos + 1 + 1 + 1) hb (by omega) (hV := hV) (h0 := by simp) (h1 := by simp) (hH := by simp) (hL := by simp [irows]) (h := ?_)
    intro x hx
    have fx := fx0
    refine k_run ?_
    clear fx
    first | show SemOp _ _ _ _ _ | intro K hK
    refine x_rd (hs := by simp) (ha := by first | (simp; done) | (simp; rfl)) (hF := aName_rd _ _ bs (pos + 1 + 1 + 1 + 1) hb (by omega) (by simp) (by simp)) (h := ?_)
    rintro u pu rfl
    have fx := fx0
    refine k_run ?_
    clear fx
    first | show SemOp _ _ _ _ _ | intro K hK
    refine x_one (oneOk _) 53 [-1, -1, u] (bs := bs) (pos := pos + 1 + 1 + 1 + 1 + 1) hb (by omega) (hV := hV) (h0 := by simp) (h1 := by simp) (hH := by simp) (hL := by simp [irows]) (h := ?_)
    intro y hy
    have fx := fx0
    refine k_run ?_
    clear fx
    exact e_ret [] .nil (by simp; rfl) ⟨⟨5, to, x, y⟩, pos + 1 + 1 + 1 + 1 + 1 + 1, by simp, by omega, by simp⟩
  · skip
    have fx := fx0
    refine k_run ?_
    clear fx
    first | show SemOp _ _ _ _ _ | intro K hK
    refine x_rd (hs := by simp) (ha := by first | (simp; done) | (simp; rfl)) (hF := aName_rd _ _ bs (pos + 1 + 1) hb (by omega) (by simp) (by simp)) (h := ?_)
    rintro v pv rfl
    have fx := fx0
    refine k_run ?_
    clear fx
    exact e_ret [] .nil (by simp; rfl) ⟨⟨6, to, 6, v⟩, pos + 1 + 1 + 1, by simp, by omega, by simp⟩
  · by_cases hk0 : kind = 0
    · subst hk0
      have fx := fx0
      refine k_run ?_
      clear fx
      first | show SemOp _ _ _ _ _ | intro K hK
      refine x_rd (hs := by simp) (ha := by first | (simp; done) | (simp; rfl)) (hF := aName_rd _ _ bs (pos + 1 + 1) hb (by omega) (by simp) (by simp)) (h := ?_)
      rintro v pv rfl
      have fx := fx0
      refine k_run ?_
      clear fx
      exact e_ret [] .nil (by simp; rfl) ⟨⟨7, 0, v, 0⟩, pos + 1 + 1 + 1, by simp, by omega, by simp⟩
    · have hkn : (kind != 0) = true := by simp [hk0]
      have fx := And.intro hk0 <| hkn
      refine k_run ?_
      clear fx
      first | show SemOp _ _ _ _ _ | intro K hK
      refine x_one (oneOk _) 67 [9, 10, 10] (bs := bs) (pos := pos + 1 + 1) hb (by omega) (hV := hV) (h0 := by simp) (h1 := by simp) (hH := by simp) (hL := by simp [irows]) (h := ?_)
      intro v hv
      have fx := fx0
      refine k_run ?_
      clear fx
      exact e_ret [] .nil (by simp; rfl) ⟨⟨v, to, 0, 0⟩, pos + 1 + 1 + 1, by simp, by omega, by simp⟩
  · skip
    have fx := fx0
    refine k_run ?_
    clear fx
    first | show SemOp _ _ _ _ _ | intro K hK
    refine x_rd (hs := by simp) (ha := by first | (simp; done) | (simp; rfl)) (hF := pick_rd _ _ bs (pos + 1 + 1) 3 hb (by omega) (by omega) (by simp)) (h := ?_)
    rintro x px ⟨hx, rfl⟩
    rcases Nat.eq_zero_or_pos x with rfl | hx0
    · skip
      have fx := fx0
      refine k_run ?_
      clear fx
      exact e_ret [] .nil (by simp; rfl) ⟨⟨11, to, 0, 0⟩, pos + 1 + 1 + 1, by simp, by omega, by simp⟩
    · have hxn : ((x : Int) == 0) = false := by rw [beq_eq_false_iff_ne]; omega
      have hxn2 : ¬ x = 0 := by omega
      have fx := And.intro hxn <| hxn2
      refine k_run ?_
      clear fx
      first | show SemOp _ _ _ _ _ | intro K hK
      refine x_rd (hs := by simp) (ha := by first | (simp; done) | (simp; rfl)) (hF := aName_rd _ _ bs (pos + 1 + 1 + 1) hb (by omega) (by simp) (by simp)) (h := ?_)
      rintro v pv rfl
      have fx := fx0
      refine k_run ?_
      clear fx
      exact e_ret [] .nil (by simp; rfl) ⟨⟨7, 0, v, 0⟩, pos + 1 + 1 + 1 + 1, by simp, by omega, by simp⟩
  · skip
    have fx := fx0
    refine k_run ?_
    clear fx
    first | show SemOp _ _ _ _ _ | intro K hK
    refine x_rd (hs := by simp) (ha := by first | (simp; done) | (simp; rfl)) (hF := aName_rd _ _ bs (pos + 1 + 1) hb (by omega) (by simp) (by simp)) (h := ?_)
    rintro v pv rfl
    have fx := fx0
    refine k_run ?_
    clear fx
    exact e_ret [] .nil (by simp; rfl) ⟨⟨7, 0, v, 0⟩, pos + 1 + 1 + 1, by simp, by omega, by simp⟩
end Go.Proofs.YtmaoicgfcngciaaGreatDoor
end
section
namespace Go.Proofs.YtmaoicgfcngciaaGreatDoor
open Go Go.Hm Go.Proofs
abbrev qsGv0 : Sch := .q 0 <| .q 1 <| .q 2 <| .q 3 <| .l 4 [1, 0] <| .l 5 [1, 0] <| .l 6 [0] <| .q 7 <| .l 8 [] <| .done
abbrev qsGv1 : Sch := .q 0 <| .q 1 <| .q 2 <| .l 3 [2, 1, 0] <| .l 4 [1, 0] <| .q 5 <| .l 6 [1, 0] <| .l 7 [0] <| .q 8 <| .l 9 [] <| .done
def BlkPost (bs : List Int) (Q : Blk → Nat → Prop) : Nm → AV → (Nm → Option AO) → Prop := fun r z H' => ∃ (k : Blk) (pos' : Nat), z = .agg [iv k.kind, iv k.parent, .hs (.c r 0 2) 1 0 k.params.length, .hs (.c r 0 3) 4 0 k.body.length] ∧
  H' (.c r 0 2) = some (.row 1 (irows k.params)) ∧ H' (.c r 0 3) = some (.row 4 (srows k.body)) ∧ Q k pos' ∧ H' (.u 1 0 0) = some (rdO bs pos')
theorem someBlock_fn (gl) (H : Nm → Option AO) (bs : List Int) (pos : Nat) (kind parent : Int) (hb : BytesOk bs) (hpos : pos ≤ 800000) (hH : H (.u 1 0 0) = some (rdO bs pos)) (hV : H (.u 2 0 0) = none) :
    FnE Tryz.prog gl 150 (Nm.under (.u 1 0 0)) [.pt (.u 1 0 0) 0, iv kind, iv parent] H (BlkPost bs (fun k pos' => k.kind = kind ∧ k.parent = parent ∧ k.params.length ≤ 1 ∧ k.body.length ≤ 6 ∧ pos' ≤ pos + 60)) noE := by
  refine FnE.of_sem Tryz.func150 rfl (by kernel_rfl) (rs := [.cell 6 44]) rfl Tryz.ntmps150 (Nat.le_of_ble_eq_true rfl) (fun _ => under_usroot rfl) fun C w g root hroot => ?_
  have hr0 := hroot root (Nm.under_self _)
  rcases (by cases hk : (kind == 1) <;> simp : (kind == 1) = false ∨ (kind == 1) = true) with hk1 | hk1
  case' inl =>
    have fx :=  hk1
    refine k_run ?_
    repeat ((first | refine wSc (id := 7) qsGv0 mixed ?_ | refine wSc (id := 9) qsGv1 mixed ?_); refine k_rund ?_; refine k_run ?_)
    clear fx
    first | show SemOp _ _ _ _ _ | intro K hK
    refine o_abs (fun st => ∃ (ps : List Int) (q : Nat), ps.length ≤ 1 ∧ q ≤ pos + 2 ∧ st.tm 0 = .pt (.u 1 0 0) 0 ∧ st.hp (.u 1 0 0) = some (rdO bs q) ∧ st.tm 1 = iv kind ∧ st.tm 6 = .pt (.s 6) 0 ∧ st.hp (.s 6) = some (.row 4 [[iv 0, iv 0, .hs (.c (.s 6) 0 2) 1 0 0, .hs (.c (.s 6) 0 3) 4 0 0]]) ∧ st.hp (.c (.s 6) 0 2) = some (.row 1 []) ∧ st.hp (.c (.s 6) 0 3) = some (.row 4 []) ∧
    st.tm 7 = .pt (.s 7) 0 ∧ st.hp (.s 7) = some (.row 4 [[iv kind, iv parent, .hs (.c (.s 7) 0 2) 1 0 ps.length, .hs (.c (.s 7) 0 3) 4 0 ([] : List Stm).length]]) ∧ st.hp (.c (.s 7) 0 2) = some (.row 1 (irows ps)) ∧ st.hp (.c (.s 7) 0 3) = some (.row 4 (srows ([] : List Stm))) ∧ st.tm 23 = .pt (.u 1 0 0) 0 ∧ st.tm 24 = .hs (.s 24) 1 0 5 ∧ st.hp (.s 24) = some (.row 1 (irows [3, 2, 4, 1, 5]))) ⟨[], pos, by simp, by omega, by simp [hH], by simp [hH], by simp [hH], by simp [hH], by simp [hH], by simp [hH], by simp [hH], by simp [hH], by simp [hH], by simp [irows], by simp [hH], by simp, by simp, by simp [irows]⟩ ?_
  case' inr =>
    have fx :=  hk1
    refine k_run ?_
    repeat ((first | refine wSc (id := 7) qsGv0 mixed ?_ | refine wSc (id := 9) qsGv1 mixed ?_); refine k_rund ?_; refine k_run ?_)
    clear fx
    first | show SemOp _ _ _ _ _ | intro K hK
    refine x_rd (hs := by simp [hH]) (ha := by first | (simp; done) | (simp; rfl)) (hF := pick_rd _ _ bs pos 3 hb (by omega) (by omega) (by simp [hH])) (h := ?_)
    rintro x px ⟨hx, rfl⟩
    have hx0 : x = 0 ∨ ¬ x = 0 := by omega
    rcases hx0 with rfl | hx0
    case' inl =>
      have fx :=  hk1
      refine k_run ?_
      repeat ((first | refine wSc (id := 7) qsGv0 mixed ?_ | refine wSc (id := 9) qsGv1 mixed ?_); refine k_rund ?_; refine k_run ?_)
      clear fx
      first | show SemOp _ _ _ _ _ | intro K hK
      refine x_rd (hs := by simp) (ha := by first | (simp; done) | (simp; rfl)) (hF := pick_rd _ _ bs (pos + 1) 3 hb (by omega) (by omega) (by simp)) (h := ?_)
      rintro y py ⟨hy, rfl⟩
      have fx := fx0
      refine k_run ?_
      repeat ((first | refine wSc (id := 7) qsGv0 mixed ?_ | refine wSc (id := 9) qsGv1 mixed ?_); refine k_rund ?_; refine k_run ?_)
      clear fx
      first | show SemOp _ _ _ _ _ | intro K hK
      refine o_abs (fun st => ∃ (ps : List Int) (q : Nat), ps.length ≤ 1 ∧ q ≤ pos + 2 ∧ st.tm 0 = .pt (.u 1 0 0) 0 ∧ st.hp (.u 1 0 0) = some (rdO bs q) ∧ st.tm 1 = iv kind ∧ st.tm 6 = .pt (.s 6) 0 ∧ st.hp (.s 6) = some (.row 4 [[iv 0, iv 0, .hs (.c (.s 6) 0 2) 1 0 0, .hs (.c (.s 6) 0 3) 4 0 0]]) ∧ st.hp (.c (.s 6) 0 2) = some (.row 1 []) ∧ st.hp (.c (.s 6) 0 3) = some (.row 4 []) ∧
    st.tm 7 = .pt (.s 7) 0 ∧ st.hp (.s 7) = some (.row 4 [[iv kind, iv parent, .hs (.c (.s 7) 0 2) 1 0 ps.length, .hs (.c (.s 7) 0 3) 4 0 ([] : List Stm).length]]) ∧ st.hp (.c (.s 7) 0 2) = some (.row 1 (irows ps)) ∧ st.hp (.c (.s 7) 0 3) = some (.row 4 (srows ([] : List Stm))) ∧ st.tm 23 = .pt (.u 1 0 0) 0 ∧ st.tm 24 = .hs (.s 24) 1 0 5 ∧ st.hp (.s 24) = some (.row 1 (irows [3, 2, 4, 1, 5]))) ⟨[(y : Int)], pos + 1 + 1, by simp, by omega, by simp, by simp, by simp, by simp, by simp, by simp, by simp, by simp, by simp, by simp [irows], by simp, by simp, by simp, by simp [irows]⟩ ?_
    case' inr =>
      have fx := And.intro hk1 <| hx0
      refine k_run ?_
      repeat ((first | refine wSc (id := 7) qsGv0 mixed ?_ | refine wSc (id := 9) qsGv1 mixed ?_); refine k_rund ?_; refine k_run ?_)
      clear fx
      first | show SemOp _ _ _ _ _ | intro K hK
      refine o_abs (fun st => ∃ (ps : List Int) (q : Nat), ps.length ≤ 1 ∧ q ≤ pos + 2 ∧ st.tm 0 = .pt (.u 1 0 0) 0 ∧ st.hp (.u 1 0 0) = some (rdO bs q) ∧ st.tm 1 = iv kind ∧ st.tm 6 = .pt (.s 6) 0 ∧ st.hp (.s 6) = some (.row 4 [[iv 0, iv 0, .hs (.c (.s 6) 0 2) 1 0 0, .hs (.c (.s 6) 0 3) 4 0 0]]) ∧ st.hp (.c (.s 6) 0 2) = some (.row 1 []) ∧ st.hp (.c (.s 6) 0 3) = some (.row 4 []) ∧
    st.tm 7 = .pt (.s 7) 0 ∧ st.hp (.s 7) = some (.row 4 [[iv kind, iv parent, .hs (.c (.s 7) 0 2) 1 0 ps.length, .hs (.c (.s 7) 0 3) 4 0 ([] : List Stm).length]]) ∧ st.hp (.c (.s 7) 0 2) = some (.row 1 (irows ps)) ∧ st.hp (.c (.s 7) 0 3) = some (.row 4 (srows ([] : List Stm))) ∧ st.tm 23 = .pt (.u 1 0 0) 0 ∧ st.tm 24 = .hs (.s 24) 1 0 5 ∧ st.hp (.s 24) = some (.row 1 (irows [3, 2, 4, 1, 5]))) ⟨[], pos + 1, by simp, by omega, by simp, by simp, by simp, by simp, by simp, by simp, by simp, by simp, by simp, by simp [irows], by simp, by simp, by simp, by simp [irows]⟩ ?_
  all_goals
    rintro st ⟨ps, q, hps, hq, h0, hU, h1, h6, hp6, hp62, hp63, h7, hp7, hp72, hp73, h23, h24, hp24⟩
    refine x_one (oneOk _) 24 [3, 2, 4, 1, 5] (bs := bs) (pos := q) hb (by omega) (hV := hV) (h0 := h23) (h1 := by simp [h24]) (hH := hU) (hL := by simp [hp24]) (h := ?_)
    intro v hv
    have hvr : 1 ≤ v ∧ v ≤ 5 := by simp at hv; omega
    obtain ⟨V, rfl⟩ : ∃ V : Nat, v = V := ⟨v.toNat, by omega⟩
    have fx := fx0
    refine k_run ?_
    repeat ((first | refine wSc (id := 7) qsGv0 mixed ?_ | refine wSc (id := 9) qsGv1 mixed ?_); refine k_rund ?_; refine k_run ?_)
    clear fx
    refine w_loop (fun n st => ∃ (L : List Stm) (q : Nat), n + L.length = V ∧ q + 8 * n ≤ pos + 50 ∧ st.tm 0 = .pt (.u 1 0 0) 0 ∧ st.hp (.u 1 0 0) = some (rdO bs q) ∧ st.tm 1 = iv kind ∧ st.tm 6 = .pt (.s 6) 0 ∧ st.hp (.s 6) = some (.row 4 [[iv 0, iv 0, .hs (.c (.s 6) 0 2) 1 0 0, .hs (.c (.s 6) 0 3) 4 0 0]]) ∧ st.hp (.c (.s 6) 0 2) = some (.row 1 []) ∧ st.hp (.c (.s 6) 0 3) = some (.row 4 []) ∧
    st.tm 7 = .pt (.s 7) 0 ∧ st.hp (.s 7) = some (.row 4 [[iv kind, iv parent, .hs (.c (.s 7) 0 2) 1 0 ps.length, .hs (.c (.s 7) 0 3) 4 0 L.length]]) ∧ st.hp (.c (.s 7) 0 2) = some (.row 1 (irows ps)) ∧ st.hp (.c (.s 7) 0 3) = some (.row 4 (srows L)) ∧ st.tm 8 = iv n) V ?_ ?_
    · exact ⟨[], q + 1, by simp, by omega, by simp [h0], by simp, by simp [h1], by simp [h6], by simp [hp6], by simp [hp62], by simp [hp63], by simp [h7], by simp [hp7], by simp [hp72], by simp [hp73], by simp⟩
    clear h0 hU h1 h6 hp6 hp62 hp63 h7 hp7 hp72 hp73 h23 h24 hp24
    rintro n st - - ⟨L, q, hL, hq, h0, hU, h1, h6, hp6, hp62, hp63, h7, hp7, hp72, hp73, h8⟩
    have fx :=  h8
    refine k_run ?_
    repeat ((first | refine wSc (id := 7) qsGv0 mixed ?_ | refine wSc (id := 9) qsGv1 mixed ?_); refine k_rund ?_; refine k_run ?_)
    clear fx
    rcases Nat.eq_zero_or_pos n with rfl | hn0
    · have hL5 : L.length ≤ 5 := by omega
      cases hkk : (kind == 1)
      · skip
        have fx := And.intro h0 <| And.intro h1 <| And.intro h6 <| And.intro hp6 <| And.intro h7 <| And.intro hp7 <| hkk
        refine k_run ?_
        repeat ((first | refine wSc (id := 7) qsGv0 mixed ?_ | refine wSc (id := 9) qsGv1 mixed ?_); refine k_rund ?_; refine k_run ?_)
        clear fx
        exact e_ret [(.s 7, root)] (.one rfl) (by simp [h6]; rfl) ⟨⟨kind, parent, ps, L⟩, q, by simp, by simp [hp72, hr0], by simp [hp73, hr0], ⟨rfl, rfl, hps, by simp; omega, by omega⟩, by simp [hU]⟩
      · skip
        have fx := And.intro h0 <| And.intro h1 <| And.intro h6 <| And.intro hp6 <| And.intro h7 <| And.intro hp7 <| hkk
        refine k_run ?_
        repeat ((first | refine wSc (id := 7) qsGv0 mixed ?_ | refine wSc (id := 9) qsGv1 mixed ?_); refine k_rund ?_; refine k_run ?_)
        clear fx
        first | show SemOp _ _ _ _ _ | intro K hK
        refine x_rd (hs := by simp [hU]) (ha := by first | (simp [h0]; done) | (simp [h0]; rfl)) (hF := pick_rd _ _ bs q 2 hb (by omega) (by omega) (by simp [hU])) (h := ?_)
        rintro x px ⟨hx, rfl⟩
        have hx0 : x = 0 ∨ ¬ x = 0 := by omega
        rcases hx0 with rfl | hx0
        · skip
          have fx := And.intro h0 <| And.intro h1 <| And.intro h6 <| And.intro hp6 <| And.intro h7 <| And.intro hp7 <| And.intro hp73 <| hkk
          refine k_run ?_
          repeat ((first | refine wSc (id := 7) qsGv0 mixed ?_ | refine wSc (id := 9) qsGv1 mixed ?_); refine k_rund ?_; refine k_run ?_)
          clear fx
          first | show SemOp _ _ _ _ _ | intro K hK
          refine x_one (oneOk _) 48 [0, 1, 4, 5] (bs := bs) (pos := q + 1) hb (by omega) (hV := hV) (h0 := by simp [h0]) (h1 := by simp) (hH := by simp) (hL := by simp [irows]) (h := ?_)
          intro v2 hv2
          have fx := And.intro h0 <| And.intro h1 <| And.intro h6 <| And.intro hp6 <| And.intro h7 <| And.intro hp7 <| And.intro hp73 <| hkk
          refine k_run ?_
          repeat ((first | refine wSc (id := 7) qsGv0 mixed ?_ | refine wSc (id := 9) qsGv1 mixed ?_); refine k_rund ?_; refine k_run ?_)
          clear fx
          exact e_ret [(.s 7, root)] (.one rfl) (by simp [h6]; rfl) ⟨⟨kind, parent, ps, L ++ [⟨8, 0, v2, 0⟩]⟩, q + 1 + 1, by simp, by simp [hp72, hr0], by show _ = some (AO.row 4 (srows (L ++ [⟨8, 0, v2, 0⟩]))); rw [← srows_app1]; simp [hp73, hr0], ⟨rfl, rfl, hps, by simp; omega, by omega⟩, by simp [hU]⟩
        · skip
          have fx := And.intro h0 <| And.intro h1 <| And.intro h6 <| And.intro hp6 <| And.intro h7 <| And.intro hp7 <| And.intro hp73 <| And.intro hkk <| hx0
          refine k_run ?_
          repeat ((first | refine wSc (id := 7) qsGv0 mixed ?_ | refine wSc (id := 9) qsGv1 mixed ?_); refine k_rund ?_; refine k_run ?_)
          clear fx
          exact e_ret [(.s 7, root)] (.one rfl) (by simp [h6]; rfl) ⟨⟨kind, parent, ps, L⟩, q + 1, by simp, by simp [hp72, hr0], by simp [hp73, hr0], ⟨rfl, rfl, hps, by simp; omega, by omega⟩, by simp [hU]⟩
    · have hL5 : L.length ≤ 4 := by omega
      have fx := And.intro h0 <| And.intro h1 <| And.intro h7 <| And.intro hp7 <| And.intro hp73 <| hn0
      refine k_run ?_
      repeat ((first | refine wSc (id := 7) qsGv0 mixed ?_ | refine wSc (id := 9) qsGv1 mixed ?_); refine k_rund ?_; refine k_run ?_)
      clear fx
      first | show SemOp _ _ _ _ _ | intro K hK
      refine x_rd (hs := by simp [hU]) (ha := by first | (simp [h0, h1]; done) | (simp [h0, h1]; rfl)) (hF := someStmt_fn _ _ bs q kind hb (by omega) (by simp [hU]) (by simp)) (h := ?_)
      rintro s p2 ⟨hp2a, hp2b⟩
      have fx := And.intro h0 <| And.intro h1 <| And.intro h7 <| And.intro hp7 <| And.intro hp73 <| And.intro h8 <| hn0
      refine k_run ?_
      repeat ((first | refine wSc (id := 7) qsGv0 mixed ?_ | refine wSc (id := 9) qsGv1 mixed ?_); refine k_rund ?_; refine k_run ?_)
      clear fx
      refine ⟨n - 1, by omega, L ++ [s], p2, by simp; omega, by omega, by simp [h0], by simp, by simp [h1], by simp [h6], by simp [hp6], by simp [hp62], by simp [hp63], by simp [h7], by simp [hp7], by simp [hp72], by rw [← srows_app1]; simp [hp73], ?_⟩
      simp
      rw [wrp (by omega) (by omega)]
      omega
def StmPost (bs : List Int) (Q : List Stm → Nat → Prop) : Nm → AV → (Nm → Option AO) → Prop := fun r z H' => ∃ (L : List Stm) (pos' : Nat), z = .hs r 4 0 L.length ∧ H' r = some (.row 4 (srows L)) ∧ Q L pos' ∧ H' (.u 1 0 0) = some (rdO bs pos')
theorem making_fn (gl) (H : Nm → Option AO) (bs : List Int) (pos : Nat) (kind parent b : Int) (np nb : Nat) (hb : BytesOk bs) (hpos : pos ≤ 800000) (hH : H (.u 1 0 0) = some (rdO bs pos)) (hV : H (.u 2 0 0) = none) :
    FnE Tryz.prog gl 151 (Nm.under (.u 1 0 0)) [.pt (.u 1 0 0) 0, .agg [iv kind, iv parent, .hs (.u 4 0 0) 1 0 np, .hs (.u 5 0 0) 4 0 nb], iv b] H (StmPost bs (fun L pos' => L.length ≤ 2 ∧ pos' ≤ pos + 5)) noE := by
  refine FnE.of_sem Tryz.func151 rfl (by kernel_rfl) (rs := [.tmp 6]) rfl Tryz.ntmps151 (Nat.le_of_ble_eq_true rfl) (fun _ => under_usroot rfl) fun C w g root hroot => ?_
  have hr0 := hroot root (Nm.under_self _)
  cases hk2 : (kind == 2)
  rotate_left
  · skip
    have fx :=  hk2
    refine k_run ?_
    clear fx
    exact e_ret [(.s 6, root)] (.one rfl) (by simp; rfl) ⟨[⟨4, 6, b, 0⟩], pos, by simp, by simp [srows, hr0], ⟨by simp, by omega⟩, by simp [hH]⟩
  have fx :=  hk2
  refine k_run ?_
  clear fx
  first | show SemOp _ _ _ _ _ | intro K hK
  refine x_one (oneOk _) 17 [4, 5] (bs := bs) (pos := pos) hb (by omega) (hV := hV) (h0 := by simp) (h1 := by simp) (hH := by simp [hH]) (hL := by simp [irows]) (h := ?_)
  intro f hf
  have fx := fx0
  refine k_run ?_
  clear fx
  first | show SemOp _ _ _ _ _ | intro K hK
  refine x_rd (hs := by simp) (ha := by first | (simp; done) | (simp; rfl)) (hF := pick_rd _ _ bs (pos + 1) 3 hb (by omega) (by omega) (by simp)) (h := ?_)
  rintro x px ⟨hx, rfl⟩
  have hx0 : x = 0 ∨ ¬ x = 0 := by omega
  rcases hx0 with rfl | hx0
  · skip
    have fx := fx0
    refine k_run ?_
    clear fx
    exact e_ret [(.s 6, root)] (.one rfl) (by simp; rfl) ⟨[⟨3, f, b, 0⟩], pos + 1 + 1, by simp, by simp [srows, hr0], ⟨by simp, by omega⟩, by simp⟩
  have hxp : 0 < x := by omega
  cases hn1 : ((np : Int) == 1)
  · skip
    have fx := And.intro hxp <| hn1
    refine k_run ?_
    clear fx
    first | show SemOp _ _ _ _ _ | intro K hK
    refine x_one (oneOk _) 34 [0, 1, 5] (bs := bs) (pos := pos + 1 + 1) hb (by omega) (hV := hV) (h0 := by simp) (h1 := by simp) (hH := by simp) (hL := by simp [irows]) (h := ?_)
    intro v hv
    have fx := fx0
    refine k_run ?_
    clear fx
    exact e_ret [(.s 6, root)] (.one rfl) (by simp; rfl) ⟨[⟨3, f, b, 0⟩, ⟨5, v, f, -1⟩], pos + 1 + 1 + 1, by simp, by simp [srows, hr0], ⟨by simp, by omega⟩, by simp⟩
  · skip
    have fx := And.intro hxp <| hn1
    refine k_run ?_
    clear fx
    first | show SemOp _ _ _ _ _ | intro K hK
    refine x_rd (hs := by simp) (ha := by first | (simp; done) | (simp; rfl)) (hF := aName_rd _ _ bs (pos + 1 + 1) hb (by omega) (by simp) (by simp)) (h := ?_)
    rintro u pu rfl
    have fx := fx0
    refine k_run ?_
    clear fx
    first | show SemOp _ _ _ _ _ | intro K hK
    refine x_one (oneOk _) 34 [0, 1, 5] (bs := bs) (pos := pos + 1 + 1 + 1) hb (by omega) (hV := hV) (h0 := by simp) (h1 := by simp) (hH := by simp) (hL := by simp [irows]) (h := ?_)
    intro v hv
    have fx := fx0
    refine k_run ?_
    clear fx
    exact e_ret [(.s 6, root)] (.one rfl) (by simp; rfl) ⟨[⟨3, f, b, 0⟩, ⟨5, v, f, u⟩], pos + 1 + 1 + 1 + 1, by simp, by simp [srows, hr0], ⟨by simp, by omega⟩, by simp⟩
end Go.Proofs.YtmaoicgfcngciaaGreatDoor
end
