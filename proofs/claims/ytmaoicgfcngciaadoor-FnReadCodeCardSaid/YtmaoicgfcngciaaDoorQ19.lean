/-
  Own texts, joined by mkclaim.py: Uy, Uys, Xd, Gt, Xc, Un, Uo, Uia.
-/
import Derived.Test.YtmaoicgfcngciaaDoorQ16
import Derived.Test.YtmaoicgfcngciaaDoorQ18
import Derived.Test.YtmaoicgfcngciaaDoorQ12
import Derived.Test.YtmaoicgfcngciaaDoorQ14
import Derived.Test.YtmaoicgfcngciaaDoorQ10
import Derived.Test.YtmaoicgfcngciaaDoorQ11
import Derived.Test.YtmaoicgfcngciaaDoorQ13
set_option linter.unusedSimpArgs false
set_option linter.unusedVariables false
set_option maxRecDepth 100000
set_option maxHeartbeats 4000000

section
namespace Go.Proofs.YtmaoicgfcngciaaDoor
open Go Go.Hm Go.Proofs
attribute [local simp] slcAV
theorem splitAt_fn (gl) (v : Txt) (c : UInt8) (hv : v.length ≤ 1048577) : FnOk Tryd.prog gl 33 [tx v, .sc (.int .u8 (c.toNat : Int))] (fun r y H' => y = .hs r 1 0 (splitL c v).length ∧ H' r = some (.row 1 (xrows (splitL c v)))) := by
  refine FnOk.of_sem Tryd.func33 rfl (by kernel_rfl) (rs := [.tmp 4]) rfl Tryd.ntmps33 (Nat.le_of_ble_eq_true rfl) fun C w g root => ?_
  have fx := fx0
  refine k_run ?_
  clear fx
  refine w_loop (fun n st => ∃ (i j : Nat) (ws : List Txt), n = v.length - i ∧ j ≤ i ∧ i ≤ v.length ∧ ws.length ≤ j ∧ splitL c v = ws ++ splitL c (v.drop j) ∧ c ∉ (v.drop j).take (i - j) ∧ st.tm 0 = tx v ∧ st.tm 1 = .sc (.int .u8 (c.toNat : Int)) ∧ st.tm 7 = iv i ∧ st.tm 6 = iv j ∧ st.tm 5 = .hs (.s 5) 1 0 ws.length ∧ st.hp (.s 5) = some (.row 1 (xrows ws))) v.length ?_ ?_
  · exact ⟨0, 0, [], by omega, by omega, by omega, by simp, by simp, by simp, by simp, by simp, by simp, by simp, by simp, by simp⟩
  rintro n st - - ⟨i, j, ws, rfl, hji, hi, hwj, hsp, hno, h0, h1, h7, h6, h5, hp5⟩
  by_cases hil : i < v.length
  · obtain ⟨x, hx⟩ : ∃ x, v[i]? = some x := ⟨_, gE hil⟩
    obtain ⟨_, hxE⟩ := gS hx
    have hw1 : IntKind.i64.wrap ((i : Int) + 1) = (i : Int) + 1 := wrp (by omega) (by omega)
    by_cases he : x = c
    · subst he
      have hat := split_at hx hji hno
      have fx := And.intro h0 <| And.intro h1 <| And.intro h7 <| And.intro h6 <| And.intro h5 <| And.intro hp5 <| And.intro hil <| And.intro hx <| And.intro hxE <| And.intro hw1 <| And.intro hji <| And.intro hi <| @bne_def
      refine k_run ?_
      clear fx
      refine ⟨v.length - (i + 1), by omega, i + 1, i + 1, ws ++ [(v.drop j).take (i - j)], rfl, by omega, by omega, by simp; omega, by rw [hsp, hat]; simp, by simp, by simp [h0], by simp [h1], by simp, by simp, by simp, by simp [xrows]⟩
    · have hnn := no_next hx he hji hno
      have hn : ¬ x.toNat = c.toNat := fun e => he (UInt8.toNat_inj.1 e)
      have hb : ((x.toNat : Int) == (c.toNat : Int)) = false := by simp; omega
      have fx := And.intro h0 <| And.intro h1 <| And.intro h7 <| And.intro h6 <| And.intro h5 <| And.intro hp5 <| And.intro hil <| And.intro hx <| And.intro hxE <| And.intro hw1 <| And.intro hn <| hb
      refine k_run ?_
      clear fx
      exact ⟨v.length - (i + 1), by omega, i + 1, j, ws, rfl, by omega, by omega, hwj, hsp, hnn, by simp [h0], by simp [h1], by simp [hw1], by simp [h6], by simp [h5], by simp [hp5]⟩
  · have hge : i = v.length := by omega
    have hjl : j ≤ v.length := by omega
    have htk : (v.drop j).take (i - j) = v.drop j := List.take_of_length_le (by rw [List.length_drop]; omega)
    have htk2 : (v.drop j).take (v.length - j) = v.drop j := List.take_of_length_le (by rw [List.length_drop]; exact Nat.le_refl _)
    rw [htk] at hno
    rw [splitL_one hno] at hsp
    have fx := And.intro h0 <| And.intro h1 <| And.intro h7 <| And.intro h6 <| And.intro h5 <| And.intro hp5 <| And.intro hil <| And.intro hji <| And.intro hjl <| htk2
    refine k_run ?_
    clear fx
    refine e_ret [(.s 4, root)] (.one rfl) (by simp; rfl) ⟨by simp [hsp], by simp [hsp, xrows]⟩
theorem readNumber_fn (gl) (v : Txt) (hv : v.length ≤ 1048577) : FnOk Tryd.prog gl 64 [tx v] (fun _ y _ => y = iv (smallI v)) := by
  refine FnOk.of_sem Tryd.func64 rfl (by kernel_rfl) (rs := [.tmp 2]) rfl Tryd.ntmps64 (Nat.le_of_ble_eq_true rfl) fun C w g root => ?_
  have fx := fx0
  refine k_run ?_
  clear fx
  refine w_loop (fun n st => ∃ i : Nat, n = v.length - i ∧ i ≤ v.length ∧ st.tm 0 = tx v ∧ st.tm 4 = iv i ∧ st.tm 3 = iv (dval (v.take i)) ∧ dval (v.take i) ≤ 99) v.length ?_ ?_
  · exact ⟨0, by omega, by omega, by simp, by simp, by simp [dval], by simp [dval]⟩
  rintro n st - - ⟨i, rfl, hi, h0, h4, h3, hd⟩
  by_cases hil : i < v.length
  · obtain ⟨c, hc⟩ : ∃ c, v[i]? = some c := ⟨_, gE hil⟩
    obtain ⟨_, hcE⟩ := gS hc
    have hcl := c.toNat_lt
    by_cases hg : 48 ≤ c.toNat ∧ c.toNat ≤ 57
    · obtain ⟨g1, g2⟩ := hg
      have g1' : ¬ c.toNat < 48 := by omega
      have g2' : ¬ 57 < c.toNat := by omega
      have g1i : ¬ (c.toNat : Int) < 48 := by omega
      have g2i : ¬ (57 : Int) < (c.toNat : Int) := by omega
      by_cases h9 : 9 < dval (v.take i)
      · have hno := smallI_none (small_bad2 hil h9)
        have h9i : (9 : Int) < (dval (v.take i) : Nat) := by omega
        generalize dval (v.take i) = m at h3 hd h9 h9i
        have fx := And.intro h0 <| And.intro h4 <| And.intro h3 <| And.intro hil <| And.intro hc <| And.intro hcE <| And.intro g1' <| And.intro g2' <| And.intro g1i <| And.intro g2i <| And.intro h9 <| h9i
        refine k_run ?_
        clear fx
        refine e_ret [] .nil (by simp; rfl) (by simp [hno])
      · have hdt := dval_take hc
        have h9i : ¬ (9 : Int) < (dval (v.take i) : Nat) := by omega
        generalize dval (v.take i) = m at h3 hd h9 h9i hdt
        obtain ⟨k, hk⟩ : ∃ k : Nat, k = c.toNat - 48 := ⟨_, rfl⟩
        have hw0 : IntKind.i64.wrap ((i : Int) + 1) = (i : Int) + 1 := wrp (by omega) (by omega)
        have hw1 : IntKind.i64.wrap (10 * (m : Int)) = 10 * (m : Int) := wrp (by omega) (by omega)
        have hw2 : IntKind.u8.wrap ((c.toNat : Int) - 48) = (k : Int) := by rw [show (c.toNat : Int) - 48 = (k : Int) by omega]; exact u8w (by omega) (by omega)
        have hw3 : IntKind.i64.wrap (k : Int) = (k : Int) := wrp (by omega) (by omega)
        have hw4 : IntKind.i64.wrap (10 * (m : Int) + (k : Int)) = 10 * (m : Int) + (k : Int) := wrp (by omega) (by omega)
        have fx := And.intro h0 <| And.intro h4 <| And.intro h3 <| And.intro hil <| And.intro hc <| And.intro hcE <| And.intro g1' <| And.intro g2' <| And.intro g1i <| And.intro g2i <| And.intro h9 <| And.intro h9i <| And.intro hw0 <| And.intro hw1 <| And.intro hw2 <| And.intro hw3 <| hw4
        refine k_run ?_
        clear fx
        refine ⟨v.length - (i + 1), by omega, i + 1, rfl, by omega, by simp [h0], by simp [hw0], by simp [hdt, ← hk], by rw [hdt]; omega⟩
    · have hno := smallI_none (small_bad1 hc hg)
      by_cases g1 : c.toNat < 48
      · have g1i : (c.toNat : Int) < 48 := by omega
        have fx := And.intro h0 <| And.intro h4 <| And.intro h3 <| And.intro hil <| And.intro hc <| And.intro hcE <| And.intro g1 <| g1i
        refine k_run ?_
        clear fx
        refine e_ret [] .nil (by simp; rfl) (by simp [hno])
      · have g1i : ¬ (c.toNat : Int) < 48 := by omega
        have g2 : 57 < c.toNat := by omega
        have g2i : (57 : Int) < (c.toNat : Int) := by omega
        have fx := And.intro h0 <| And.intro h4 <| And.intro h3 <| And.intro hil <| And.intro hc <| And.intro hcE <| And.intro g1 <| And.intro g1i <| And.intro g2 <| g2i
        refine k_run ?_
        clear fx
        refine e_ret [] .nil (by simp; rfl) (by simp [hno])
  · have hge : i = v.length := by omega
    rw [hge, List.take_length] at h3 hd
    have hend := small_end hd
    have hnum := number_fn gl (dval v) (by omega) (by omega)
    rw [numI_nat] at hnum
    by_cases he : v = []
    · have hb : (v == []) = true := by simp [he]
      have hno : smallI v = -1 := smallI_none (by rw [he]; rfl)
      have fx := And.intro h0 <| And.intro h4 <| And.intro h3 <| And.intro hil <| hb
      refine k_run ?_
      clear fx
      refine e_ret [] .nil (by simp; rfl) (by simp [hno])
    have hb : (v == []) = false := by simpa using he
    by_cases hq : v = numN (dval v)
    · rw [if_pos hq] at hend
      have hqb : (v == numN (dval v)) = true := by simpa using hq
      have hsi := smallI_some hend
      generalize numN (dval v) = u at hnum hqb
      have fx := And.intro h0 <| And.intro h4 <| And.intro h3 <| And.intro hil <| And.intro hb <| hqb
      have c1 := hnum
      refine k_run ?_
      clear fx c1
      refine e_ret [] .nil (by simp [h3]; rfl) (by simp [hsi])
    · rw [if_neg hq] at hend
      have hqb : (v == numN (dval v)) = false := by simpa using hq
      have hsi := smallI_none hend
      generalize numN (dval v) = u at hnum hqb
      have fx := And.intro h0 <| And.intro h4 <| And.intro h3 <| And.intro hil <| And.intro hb <| hqb
      have c1 := hnum
      refine k_run ?_
      clear fx c1
      refine e_ret [] .nil (by simp; rfl) (by simp [hsi])
end Go.Proofs.YtmaoicgfcngciaaDoor
end
section
namespace Go.Proofs.YtmaoicgfcngciaaDoor
open Go Go.Hm Go.Proofs
theorem splitAt_sl (gl) (v : Txt) (c : UInt8) (hv : v.length ≤ 1048577) : FnOk Tryd.prog gl 33 [tx v, .sc (.int .u8 (c.toNat : Int))] (fun _ y _ => y = xsl (splitL c v)) :=
  (splitAt_fn gl v c hv).settle fun r y H' h => ⟨xsl (splitL c v), by rw [h.1]; exact bw_list h.2 (by simp) xrows_uni, rfl⟩
theorem splitAt_32 (gl) (l : Txt) (hl : l.length ≤ 1048577) : FnOk Tryd.prog gl 33 [tx l, .sc (.int .u8 32)] (fun _ y _ => y = xsl (splitL 32 l)) := splitAt_sl gl l 32 hl
theorem splitAt_10 (gl) (l : Txt) (hl : l.length ≤ 1048577) : FnOk Tryd.prog gl 33 [tx l, .sc (.int .u8 10)] (fun _ y _ => y = xsl (splitL 10 l)) := splitAt_sl gl l 10 hl
end Go.Proofs.YtmaoicgfcngciaaDoor
end
section
namespace Go.Proofs.YtmaoicgfcngciaaDoor
open Go Go.Hm Go.Proofs
abbrev qsXd0 : Sch := .q 0 <| .q 1 <| .q 2 <| .q 3 <| .q 4 <| .q 5 <| .q 6 <| .q 7 <| .done
attribute [local simp] slcAV
theorem opWords_sl (gl) : FnOk Tryd.prog gl 53 [] (fun _ y _ => y = xsl opW) :=
  (opWords_fn gl).settle fun r y H' h => ⟨xsl opW, by rw [h.1]; exact bw_list h.2 (by simp) xrows_uni, rfl⟩
theorem readOp_fn (gl) (l : Txt) (hl : l.length ≤ 1048577) : FnOk Tryd.prog gl 34 [tx l] (fun _ y _ => ∃ o : Int × Int, y = .tup [.agg [iv o.1, iv o.2], bv (readO l).isSome] ∧ ∀ q, readO l = some q → o = q) := by
  have hsp := splitAt_32 gl l hl
  have hne := splitL_ne (c := 32) (l := l)
  have hlen := split_len (c := 32) (s := l)
  have hpart := split_part (c := 32) (s := l)
  have hrO : ∀ u us, splitL 32 l = u :: us → readO l = match codeW u with
    | some c => if loneO c = true then (if us = [] then some ((c : Int), 0) else none) else match us with
      | [x] => (smallN x).map fun (n : Nat) => ((c : Int), (n : Int))
      | _ => none
    | none => none := by
    intro u us e
    unfold readO
    rw [e]
    rfl
  generalize readO l = RO at hrO ⊢
  generalize splitL 32 l = W at hsp hne hlen hpart hrO
  obtain ⟨u, us, rfl⟩ : ∃ u us, W = u :: us := by cases W with
    | nil => exact absurd rfl hne
    | cons u us => exact ⟨u, us, rfl⟩
  have hro := hrO u us rfl
  clear hrO
  have hw21 : opW.length = 21 := rfl
  refine FnOk.of_sem Tryd.func34 rfl (by kernel_rfl) (rs := [.cell 2 74, .tmp 3]) rfl Tryd.ntmps34 (Nat.le_of_ble_eq_true rfl) fun C w g root => ?_
  have fx := fx0
  have p1 := hsp
  have p2 := opWords_sl gl
  refine k_runp ?_
  repeat ((first | refine wSc (id := 6) qsXd0 mixed ?_); refine k_rundp ?_; refine k_runp ?_)
  clear fx p1 p2
  refine w_loop (fun n st => ∃ i : Nat, n = 21 - i ∧ i ≤ 21 ∧ (∀ j, j < i → ∀ x, opW[j]? = some x → x = u → RO = none) ∧ st.tm 2 = .pt (.s 2) 0 ∧ st.hp (.s 2) = some (.row 2 [[iv 0, iv 0]]) ∧ st.tm 5 = xsl opW ∧ st.tm 6 = iv i ∧ st.tm 4 = xsl (u :: us)) 21 ?_ ?_
  · exact ⟨0, by omega, by omega, fun j hj => by omega, by simp, by simp, by simp, by simp, by simp⟩
  rintro n st - - ⟨i, rfl, hi, hno, h2, hp2, h5, h6, h4⟩
  have hwi : IntKind.i64.wrap ((i : Int) + 1) = (i : Int) + 1 := wrp (by omega) (by omega)
  by_cases hil : i < 21
  · have hii : (i : Int) < 21 := by omega
    obtain ⟨x, hx⟩ : ∃ x, opW[i]? = some x := ⟨_, gE (by rw [hw21]; exact hil)⟩
    obtain ⟨_, hxE⟩ := gS hx
    by_cases he : x = u
    · have hcw : codeW u = some i := by
        have := codeW_at i hil
        rw [List.getD_eq_getElem?_getD, hx] at this
        rw [← he]
        exact this
      rw [hcw] at hro
      have hb : (x == u) = true := by simpa using he
      cases hlo : loneO (i : Int)
      · have hro2 : RO = match (generalizing := false) us with
          | [x] => (smallN x).map fun (n : Nat) => ((i : Int), (n : Int))
          | _ => none := by rw [hro]; simp [hlo]
        rcases us with _ | ⟨x1, _ | ⟨x2, us⟩⟩
        · have hrn : RO = none := hro2
          have fx := And.intro h2 <| And.intro hp2 <| And.intro h5 <| And.intro h6 <| And.intro h4 <| And.intro hw21 <| And.intro hil <| And.intro hii <| And.intro hx <| And.intro hxE <| And.intro hb <| And.intro hwi <| And.intro hlo <| @bne_def
          have c1 := lone_fn gl (i : Int)
          refine k_run ?_
          repeat ((first | refine wSc (id := 6) qsXd0 mixed ?_); refine k_rund ?_; refine k_run ?_)
          clear fx c1
          refine ⟨21 - (i + 1), by omega, i + 1, rfl, by omega, fun _ _ _ _ _ => hrn, by simp [h2], by simp [hp2], by simp [h5], by simp [hwi], by simp [h4]⟩
        · have hq := readNumber_fn gl x1 (by have := hpart x1 (by simp); omega)
          cases hs : smallN x1 with
          | none =>
            have hrn : RO = none := by rw [hro2]; simp [hs]
            rw [smallI_none hs] at hq
            have fx := And.intro h2 <| And.intro hp2 <| And.intro h5 <| And.intro h6 <| And.intro h4 <| And.intro hw21 <| And.intro hil <| And.intro hii <| And.intro hx <| And.intro hxE <| And.intro hb <| And.intro hwi <| And.intro hlo <| @bne_def
            have c1 := lone_fn gl (i : Int)
            have c2 := hq
            refine k_run ?_
            repeat ((first | refine wSc (id := 6) qsXd0 mixed ?_); refine k_rund ?_; refine k_run ?_)
            clear fx c1 c2
            refine ⟨21 - (i + 1), by omega, i + 1, rfl, by omega, fun _ _ _ _ _ => hrn, by simp [h2], by simp [hp2], by simp [h5], by simp [hwi], by simp [h4]⟩
          | some q =>
            have hyes : RO = some ((i : Int), (q : Int)) := by rw [hro2]; simp [hs]
            rw [smallI_some hs] at hq
            have hq0 : ¬ (q : Int) < 0 := by omega
            have hq1 : (0 : Int) ≤ (q : Int) := by omega
            have fx := And.intro h2 <| And.intro hp2 <| And.intro h5 <| And.intro h6 <| And.intro h4 <| And.intro hw21 <| And.intro hil <| And.intro hii <| And.intro hx <| And.intro hxE <| And.intro hb <| And.intro hwi <| And.intro hlo <| And.intro hq0 <| And.intro hq1 <| @bne_def
            have c1 := lone_fn gl (i : Int)
            have c2 := hq
            refine k_run ?_
            repeat ((first | refine wSc (id := 6) qsXd0 mixed ?_); refine k_rund ?_; refine k_run ?_)
            clear fx c1 c2
            refine e_ret [] .nil (by simp [h2]; rfl) ⟨((i : Int), (q : Int)), by simp [hyes], by simp [hyes]⟩
        · have hrn : RO = none := hro2
          have hl2 : ((us.length : Int) + 1 + 1 + 1 == 2) = false := by simp; omega
          have fx := And.intro h2 <| And.intro hp2 <| And.intro h5 <| And.intro h6 <| And.intro h4 <| And.intro hw21 <| And.intro hil <| And.intro hii <| And.intro hx <| And.intro hxE <| And.intro hb <| And.intro hwi <| And.intro hlo <| And.intro hl2 <| @bne_def
          have c1 := lone_fn gl (i : Int)
          refine k_run ?_
          repeat ((first | refine wSc (id := 6) qsXd0 mixed ?_); refine k_rund ?_; refine k_run ?_)
          clear fx c1
          refine ⟨21 - (i + 1), by omega, i + 1, rfl, by omega, fun _ _ _ _ _ => hrn, by simp [h2], by simp [hp2], by simp [h5], by simp [hwi], by simp [h4]⟩
      · have hro2 : RO = if us = [] then some ((i : Int), 0) else none := by rw [hro]; simp [hlo]
        by_cases hu : us = []
        · subst hu
          have hyes : RO = some ((i : Int), 0) := hro2
          have fx := And.intro h2 <| And.intro hp2 <| And.intro h5 <| And.intro h6 <| And.intro h4 <| And.intro hw21 <| And.intro hil <| And.intro hii <| And.intro hx <| And.intro hxE <| And.intro hb <| And.intro hwi <| And.intro hlo <| @bne_def
          have c1 := lone_fn gl (i : Int)
          refine k_run ?_
          repeat ((first | refine wSc (id := 6) qsXd0 mixed ?_); refine k_rund ?_; refine k_run ?_)
          clear fx c1
          refine e_ret [] .nil (by simp [h2]; rfl) ⟨((i : Int), 0), by simp [hyes], by simp [hyes]⟩
        · have hrn : RO = none := by rw [hro2, if_neg hu]
          have hl1 : ((us.length : Int) + 1 == 1) = false := by have := List.length_pos_iff.2 hu; simp; omega
          have fx := And.intro h2 <| And.intro hp2 <| And.intro h5 <| And.intro h6 <| And.intro h4 <| And.intro hw21 <| And.intro hil <| And.intro hii <| And.intro hx <| And.intro hxE <| And.intro hb <| And.intro hwi <| And.intro hlo <| And.intro hl1 <| @bne_def
          have c1 := lone_fn gl (i : Int)
          refine k_run ?_
          repeat ((first | refine wSc (id := 6) qsXd0 mixed ?_); refine k_rund ?_; refine k_run ?_)
          clear fx c1
          refine e_ret [] .nil (by simp [h2]; rfl) ⟨((i : Int), 0), by simp [hrn], by simp [hrn]⟩
    · have hb : (x == u) = false := by simpa using he
      have fx := And.intro h2 <| And.intro hp2 <| And.intro h5 <| And.intro h6 <| And.intro h4 <| And.intro hw21 <| And.intro hil <| And.intro hii <| And.intro hx <| And.intro hxE <| And.intro hb <| And.intro hwi <| @bne_def
      refine k_run ?_
      repeat ((first | refine wSc (id := 6) qsXd0 mixed ?_); refine k_rund ?_; refine k_run ?_)
      clear fx
      refine ⟨21 - (i + 1), by omega, i + 1, rfl, by omega, fun j hj y hy e => ?_, by simp [h2], by simp [hp2], by simp [h5], by simp [hwi], by simp [h4]⟩
      by_cases hji : j = i
      · subst hji
        rw [hx] at hy
        obtain rfl := Option.some.inj hy
        exact absurd e he
      · exact hno j (by omega) y hy e
  · have hrn : RO = none := by
      by_cases hall : ∀ j, j < 21 → ∀ x, opW[j]? = some x → x ≠ u
      · rw [codeW_no hall] at hro
        exact hro
      · simp only [Classical.not_forall] at hall
        obtain ⟨j, hj, y, hy, e⟩ := hall
        exact hno j (by omega) y hy (Classical.not_not.1 e)
    have hin : ¬ (i : Int) < 21 := by omega
    have fx := And.intro h2 <| And.intro hp2 <| And.intro h5 <| And.intro h6 <| And.intro h4 <| And.intro hw21 <| And.intro hil <| hin
    refine k_run ?_
    repeat ((first | refine wSc (id := 6) qsXd0 mixed ?_); refine k_rund ?_; refine k_run ?_)
    clear fx
    refine e_ret [] .nil (by simp [h2]; rfl) ⟨(0, 0), by simp [hrn], by simp [hrn]⟩
theorem spec_ReadCode_fn (gl) (s : Txt) (hs : s.length ≤ 1048576) : FnOk Tryd.prog gl 12 [tx s] (fun r y H' => match readCode s with
      | some os => y = .tup [.hs r 2 0 os.length, bv true] ∧ H' r = some (.row 2 (orows os))
      | none => y = .tup [.hs r 2 0 0, bv false] ∧ H' r = some (.row 2 [])) := by
  have hsp := splitAt_10 gl s (by omega)
  have hlen := split_len (c := 10) (s := s)
  have hpart := split_part (c := 10) (s := s)
  have hne := splitL_ne (c := 10) (l := s)
  have hRC : readCode s = if (splitL 10 s).getLast? = some [] then readL1 (splitL 10 s).dropLast else none := rfl
  generalize readCode s = RC at hRC ⊢
  generalize splitL 10 s = L at hlen hpart hsp hne hRC
  obtain ⟨I, z, rfl⟩ : ∃ I z, L = I ++ [z] := ⟨L.dropLast, L.getLast hne, (List.dropLast_concat_getLast hne).symm⟩
  rw [List.dropLast_concat, List.getLast?_concat] at hRC
  rw [List.length_append, List.length_singleton] at hlen
  clear hne
  refine FnOk.of_sem Tryd.func12 rfl (by kernel_rfl) (rs := [.tmp 2, .tmp 3]) rfl Tryd.ntmps12 (Nat.le_of_ble_eq_true rfl) fun C w g root => ?_
  have fx := fx0
  have p1 := hsp
  refine k_runp ?_
  clear fx p1
  refine w_loop (fun n st => ∃ (i : Nat) (os : List (Int × Int)), n = I.length - i ∧ i ≤ I.length ∧ readL1 (I.take i) = some os ∧ st.tm 4 = .hs (.s 4) 2 0 os.length ∧ st.hp (.s 4) = some (.row 2 (orows os)) ∧ st.tm 5 = xsl (I ++ [z]) ∧ st.tm 6 = iv i) I.length ?_ ?_
  · exact ⟨0, [], rfl, by omega, rfl, by simp, by simp, by simp, by simp⟩
  rintro n st - - ⟨i, os, rfl, hi, hos, h4, hp4, h5, h6⟩
  have hol := readL1_len hos
  rw [List.length_take] at hol
  have hw1 : IntKind.i64.wrap ((i : Int) + 1) = (i : Int) + 1 := wrp (by omega) (by omega)
  by_cases hil : i < I.length
  · have hlt : (i : Int) + 1 < (I.length : Int) + 1 := by omega
    obtain ⟨l, hl⟩ : ∃ l, I[i]? = some l := ⟨_, gE hil⟩
    obtain ⟨_, hlE⟩ := gS hl
    have hla : (I ++ [z])[i]? = some l := by rw [List.getElem?_append_left hil]; exact hl
    obtain ⟨hlaL, hlaE⟩ := gS hla
    have hlb : l.length ≤ 1048576 := by have := hpart l (List.mem_of_getElem? hla); omega
    have fx := And.intro h5 <| And.intro h6 <| And.intro hw1 <| And.intro hlt <| And.intro hla <| And.intro hlaE <| hil
    have e1 := readOp_fn gl l (by omega)
    refine k_run ?_
    clear fx e1
    rintro K hK y H1 ⟨⟨oc, oa⟩, rfl, hoo⟩
    refine ⟨by simp, ?_⟩
    cases hr : readO l with
    | none =>
      have hbad : readL1 I = none := by
        have e : I = I.take i ++ l :: I.drop (i + 1) := by
          conv => lhs; rw [← List.take_append_drop i I]
          rw [List.drop_eq_getElem_cons hil, hlE]
        rw [e]
        exact readL1_bad hr
      have hno : RC = none := by rw [hRC, hbad]; simp
      subst hno
      have fx := And.intro h4 <| hr
      refine k_run ?_
      clear fx
      refine e_ret [(.s 2, root)] (.one rfl) (by simp; rfl) ⟨by simp, by simp⟩
    | some o' =>
      obtain rfl := hoo o' hr
      have hnx : readL1 (I.take (i + 1)) = some (os ++ [(oc, oa)]) := by
        rw [List.take_add_one, hl]
        exact readL1_snoc hos hr
      have fx := And.intro h4 <| And.intro hp4 <| And.intro hr <| And.intro h6 <| hw1
      refine k_run ?_
      clear fx
      refine ⟨I.length - (i + 1), by omega, i + 1, os ++ [(oc, oa)], rfl, by omega, hnx, by simp, by simp [orows], by simp [h5], by simp [hw1]⟩
  · have hge : i = I.length := by omega
    subst hge
    rw [List.take_length] at hos
    rw [hos] at hRC
    have hnlt : ¬ (I.length : Int) + 1 < (I.length : Int) + 1 := by omega
    have hwl : IntKind.i64.wrap (I.length : Int) = (I.length : Int) := wrp (by omega) (by omega)
    have hla : (I ++ [z])[I.length]? = some z := by simp
    obtain ⟨hlaL, hlaE⟩ := gS hla
    have hlI : I.length < I.length + 1 := by omega
    by_cases hz : z = []
    · have hzb : (z == []) = true := by rw [hz]; rfl
      have hyes : RC = some os := by rw [hRC, hz]; simp
      subst hyes
      have fx := And.intro h4 <| And.intro hp4 <| And.intro h5 <| And.intro h6 <| And.intro hw1 <| And.intro hnlt <| And.intro hla <| And.intro hlaE <| And.intro hlI <| And.intro hwl <| And.intro hzb <| @bne_def
      refine k_run ?_
      clear fx
      refine e_ret [(.s 2, root)] (.one rfl) (by simp; rfl) ⟨by simp, by simp [hp4]⟩
    · have hzb : (z == []) = false := by simpa using hz
      have hno : RC = none := by rw [hRC]; simp [hz]
      subst hno
      have fx := And.intro h4 <| And.intro hp4 <| And.intro h5 <| And.intro h6 <| And.intro hw1 <| And.intro hnlt <| And.intro hla <| And.intro hlaE <| And.intro hlI <| And.intro hwl <| And.intro hzb <| @bne_def
      refine k_run ?_
      clear fx
      refine e_ret [(.s 2, root)] (.one rfl) (by simp; rfl) ⟨by simp, by simp⟩
end Go.Proofs.YtmaoicgfcngciaaDoor
end
section
namespace Go.Proofs.YtmaoicgfcngciaaDoor
open Go Go.Hm Go.Proofs
abbrev qsGt0 : Sch := .q 0 <| .q 1 <| .q 2 <| .q 3 <| .q 4 <| .q 5 <| .q 6 <| .q 7 <| .q 8 <| .q 9 <| .q 10 <| .q 11 <| .q 12 <| .q 13 <| .q 14 <| .q 15 <| .q 16 <| .q 17 <| .q 18 <| .q 19 <| .q 20 <| .q 21 <| .q 22 <| .q 23 <| .q 24 <| .q 25 <| .q 26 <| .q 27 <| .q 28 <| .q 29 <| .q 30 <| .q 31 <| .q 32 <| .q 33 <| .q 34 <| .q 35 <| .q 36 <| .q 37 <| .q 38 <| .q 39 <| .q 40 <| .q 41 <| .q 42 <| .q 43 <| .q 44 <| .l 45 [] <| .done
theorem tmod_nat {v : Int} {n : Nat} (hv : 0 ≤ v) (hn : 0 < n) : ∃ k : Nat, v.tmod n = k ∧ k < n := by
  have h1 := Int.tmod_nonneg n hv
  have h2 := Int.tmod_lt_of_pos v (show (0 : Int) < n by omega)
  exact ⟨(v.tmod n).toNat, by omega, by omega⟩
theorem xor_nat {x y : Int} (hx : 0 ≤ x ∧ x ≤ 1000000000000) (hy : 0 ≤ y ∧ y ≤ 1000000000000) : ∃ r : Nat, IntKind.i64.wrap (((x % 2 ^ IntKind.i64.bits).toNat ^^^ (y % 2 ^ IntKind.i64.bits).toNat : Nat) : Int) = r := by
  have e : ∀ z : Int, 0 ≤ z ∧ z ≤ 1000000000000 → (z % 2 ^ IntKind.i64.bits).toNat < 2 ^ 40 := by
    intro z hz
    simp only [show IntKind.i64.bits = 64 from rfl]
    omega
  have h := Nat.xor_lt_two_pow (e x hx) (e y hy)
  exact ⟨_, wrp (by omega) (by omega)⟩
@[simp] theorem int_xorv {k : IntKind} {x y : Int} : intAV k .xor x y = some (.sc (.int k (k.wrap ((BitVec.ofInt k.bits x ^^^ BitVec.ofInt k.bits y).toNat : Int)))) := rfl
theorem pick_fn (gl) (H : Nm → Option AO) (bs : List Int) (pos n : Nat) (hb : BytesOk bs) (hpos : pos ≤ 1000000) (hn : n ≤ 1000000) (hH : H (.u 1 0 0) = some (rdO bs pos)) :
    FnE Tryd.prog gl 29 (Nm.under (.u 1 0 0)) [.pt (.u 1 0 0) 0, iv n] H (fun _ z H' => ∃ k : Nat, z = iv k ∧ (k = 0 ∨ k < n) ∧ H' (.u 1 0 0) = some (rdO bs (pos + 1))) noE := by
  have w1 : IntKind.i64.wrap ((pos : Int) + 1) = pos + 1 := wrp (by omega) (by omega)
  have w0 : IntKind.i64.wrap (pos : Int) = pos := wrp (by omega) (by omega)
  have hbl := hb.len
  refine FnE.of_sem Tryd.func29 rfl (by kernel_rfl) (rs := [.tmp 4]) rfl Tryd.ntmps29 (Nat.le_of_ble_eq_true rfl) (fun _ => under_usroot rfl) fun C w g root hroot => ?_
  rcases Nat.eq_zero_or_pos n with rfl | hn0
  · skip
    have fx := And.intro hH <| w1
    refine k_run ?_
    repeat ((first | refine wSc (id := 7) qsGt0 mixed ?_); refine k_rund ?_; refine k_run ?_)
    clear fx
    refine e_ret [] .nil (by simp; rfl) ⟨0, by simp, .inl rfl, by simp [hH]⟩
  have hn1 : ¬ (n : Int) < 1 := by omega
  rcases Nat.eq_zero_or_pos bs.length with hl0 | hl
  · skip
    have fx := And.intro hH <| And.intro w1 <| And.intro hn1 <| hl0
    refine k_run ?_
    repeat ((first | refine wSc (id := 7) qsGt0 mixed ?_); refine k_rund ?_; refine k_run ?_)
    clear fx
    refine e_ret [] .nil (by simp; rfl) ⟨0, by simp, .inl rfl, by simp [hH]⟩
  have hl1 : ((bs.length : Int) == 0) = false := by rw [beq_eq_false_iff_ne]; omega
  have hn2 : ¬ n = 0 := by omega
  by_cases hpl : pos < bs.length
  · obtain ⟨v, hv⟩ : ∃ v, bs[pos]? = some v := ⟨_, gE hpl⟩
    obtain ⟨_, hvE⟩ := gS hv
    have hvr := hb.rng v (List.mem_of_getElem? hv)
    obtain ⟨k, hk, hkn⟩ := tmod_nat hvr.1 hn0
    have wv : IntKind.i64.wrap v = v := wrp (by omega) (by omega)
    have fx := And.intro hH <| And.intro w1 <| And.intro w0 <| And.intro hn1 <| And.intro hl1 <| And.intro hpl <| And.intro hv <| And.intro hvE <| And.intro hn2 <| And.intro hk <| wv
    refine k_run ?_
    repeat ((first | refine wSc (id := 7) qsGt0 mixed ?_); refine k_rund ?_; refine k_run ?_)
    clear fx
    refine e_ret [] .nil (by simp; rfl) ⟨k, by simp, .inr hkn, by simp [hH]⟩
  have hbl0 : ¬ bs.length = 0 := by omega
  obtain ⟨i1, hi1, hi1l⟩ := tmod_nat (v := (pos : Int)) (by omega) hl
  obtain ⟨i2, hi2, hi2l⟩ := tmod_nat (v := (pos : Int) * 7 + 3) (by omega) hl
  obtain ⟨b1, hb1⟩ : ∃ v, bs[i1]? = some v := ⟨_, gE hi1l⟩
  obtain ⟨b2, hb2⟩ : ∃ v, bs[i2]? = some v := ⟨_, gE hi2l⟩
  obtain ⟨_, hb1E⟩ := gS hb1
  obtain ⟨_, hb2E⟩ := gS hb2
  have hr1 := hb.rng b1 (List.mem_of_getElem? hb1)
  have hr2 := hb.rng b2 (List.mem_of_getElem? hb2)
  have wb1 : IntKind.i64.wrap b1 = b1 := wrp (by omega) (by omega)
  have wb2 : IntKind.i64.wrap b2 = b2 := wrp (by omega) (by omega)
  have w7 : IntKind.i64.wrap ((pos : Int) * 7) = pos * 7 := wrp (by omega) (by omega)
  have w73 : IntKind.i64.wrap ((pos : Int) * 7 + 3) = pos * 7 + 3 := wrp (by omega) (by omega)
  obtain ⟨q, hq, hql⟩ : ∃ q : Nat, (pos : Int) / (bs.length : Int) = q ∧ q ≤ pos := ⟨pos / bs.length, by simp, Nat.div_le_self _ _⟩
  have wq : IntKind.i64.wrap (q : Int) = q := wrp (by omega) (by omega)
  have w131 : IntKind.i64.wrap (b1 * 131) = b1 * 131 := wrp (by omega) (by omega)
  have w1117 : IntKind.i64.wrap (b2 * 1117) = b2 * 1117 := wrp (by omega) (by omega)
  have wa : IntKind.i64.wrap (b1 * 131 + b2 * 1117) = b1 * 131 + b2 * 1117 := wrp (by omega) (by omega)
  have w29 : IntKind.i64.wrap ((pos : Int) * 29) = pos * 29 := wrp (by omega) (by omega)
  have wb : IntKind.i64.wrap (b1 * 131 + b2 * 1117 + pos * 29) = b1 * 131 + b2 * 1117 + pos * 29 := wrp (by omega) (by omega)
  have w53 : IntKind.i64.wrap ((q : Int) * 53) = q * 53 := wrp (by omega) (by omega)
  obtain ⟨X, hX⟩ : ∃ X, X = b1 * 131 + b2 * 1117 + pos * 29 + q * 53 := ⟨_, rfl⟩
  have wX : IntKind.i64.wrap (b1 * 131 + b2 * 1117 + pos * 29 + q * 53) = X := by rw [hX]; exact wrp (by omega) (by omega)
  obtain ⟨Y, hY, hYr⟩ : ∃ Y, X.tdiv 64 = Y ∧ 0 ≤ Y ∧ Y ≤ X := by
    refine ⟨_, rfl, Int.tdiv_nonneg (by omega) (by decide), ?_⟩
    exact Int.tdiv_le_self _ (by omega)
  have wY : IntKind.i64.wrap Y = Y := wrp (by omega) (by omega)
  obtain ⟨r, hr⟩ := xor_nat (x := X) (y := Y) (by omega) (by omega)
  obtain ⟨k, hk, hkn⟩ := tmod_nat (v := (r : Int)) (by omega) hn0
  have fx := And.intro hH <| And.intro w1 <| And.intro w0 <| And.intro hn1 <| And.intro hl1 <| And.intro hpl <| And.intro hi1 <| And.intro hi2 <| And.intro hi1l <| And.intro hi2l <| And.intro hb1 <| And.intro hb2 <| And.intro hb1E <| And.intro hb2E <| And.intro wb1 <| And.intro wb2 <| And.intro w7 <| And.intro w73 <| And.intro hbl0 <| And.intro hq <| And.intro wq <| And.intro w131 <| And.intro w1117 <| And.intro wa <| And.intro w29 <| And.intro wb <| And.intro w53 <| And.intro wX <| And.intro hY <| And.intro wY <| And.intro hr <| And.intro hn2 <| hk
  refine k_run ?_
  repeat ((first | refine wSc (id := 7) qsGt0 mixed ?_); refine k_rund ?_; refine k_run ?_)
  clear fx
  refine e_ret [] .nil (by simp; rfl) ⟨k, by simp, .inr hkn, by simp [hH]⟩
theorem one_fn (gl) (H : Nm → Option AO) (bs : List Int) (pos : Nat) (xs : List Int) (hb : BytesOk bs) (hpos : pos ≤ 1000000) (hx : 0 < xs.length ∧ xs.length ≤ 1000) (hH : H (.u 1 0 0) = some (rdO bs pos)) (hL : H (.u 2 0 0) = some (.row 1 (irows xs))) :
    FnE Tryd.prog gl 50 D12 [.pt (.u 1 0 0) 0, .hs (.u 2 0 0) 1 0 xs.length] H (fun _ z H' => ∃ v, z = iv v ∧ v ∈ xs ∧ H' (.u 1 0 0) = some (rdO bs (pos + 1))) noE := by
  have hxl := hx.2
  refine FnE.of_sem Tryd.func50 rfl (by kernel_rfl) (rs := [.tmp 4]) rfl Tryd.ntmps50 (Nat.le_of_ble_eq_true rfl) (fun _ => D12_root) fun C w g root hroot => ?_
  all_goals have fx := fx0
  repeat' (first
   | refine w_seq ?_ | refine w_reg fun K hK => ?_
   | ((with_reducible refine s_end hK ?_); clear hK K)
   | (with_reducible first | refine then_normal ?_ | refine then_ret ?_)
   | refine w_ret ?_
   | (with_reducible first | refine s_none ?_ | refine x_assign (h := ?_))
   | (with_reducible refine x_q (h := ?_))
   | fail)
  all_goals try clear fx
  have fx := hxl
  refine x_mut (.u 1 0 0) rfl (by simp [hH]) (hF := pick_fn _ _ bs pos xs.length hb hpos (by omega) (by simp [hH])) (h := ?_)
  rintro z H1 ⟨k, rfl, hk, hk1⟩
  have hkl : k < xs.length := by omega
  obtain ⟨v, hv⟩ : ∃ v, xs[k]? = some v := ⟨_, gE hkl⟩
  obtain ⟨_, hvE⟩ := gS hv
  clear fx
  have fx := And.intro hL <| And.intro hkl <| And.intro hv <| hvE
  refine k_run ?_
  clear fx
  refine e_ret [] .nil (by simp; rfl) ⟨v, by simp, List.mem_of_getElem? hv, by simp [hk1]⟩
theorem oneOk (gl) : OneOk Tryd.prog gl 50 := fun H bs pos xs hb hp hx hH hL => one_fn gl H bs pos xs hb hp hx hH hL
theorem aName_fn (gl) (H : Nm → Option AO) (bs : List Int) (pos : Nat) (hb : BytesOk bs) (hpos : pos ≤ 1000000) (hH : H (.u 1 0 0) = some (rdO bs pos)) (hV : H (.u 2 0 0) = none) :
    FnE Tryd.prog gl 127 (Nm.under (.u 1 0 0)) [.pt (.u 1 0 0) 0] H (fun _ z H' => ∃ v, z = iv v ∧ (0 ≤ v ∧ v ≤ 7) ∧ H' (.u 1 0 0) = some (rdO bs (pos + 1))) noE := by
  refine FnE.of_sem Tryd.func127 rfl (by kernel_rfl) (rs := [.tmp 2]) rfl Tryd.ntmps127 (Nat.le_of_ble_eq_true rfl) (fun _ => under_usroot rfl) fun C w g root hroot => ?_
  have fx := fx0
  refine k_run ?_
  clear fx
  first | show SemOp _ _ _ _ _ | intro K hK
  refine x_one (oneOk _) 4 [0, 1, 2, 0, 1, 3, 7] hb hpos (hV := hV) (h0 := by simp) (h1 := by simp) (hH := by simp [hH]) (hL := by simp [irows]) (h := ?_)
  intro v hv
  have hvR : 0 ≤ v ∧ v ≤ 7 := by simp at hv; omega
  have fx := fx0
  refine k_run ?_
  clear fx
  refine e_ret [] .nil (by simp; rfl) ⟨v, by simp, hvR, by simp⟩
theorem pick_rd (gl) (H : Nm → Option AO) (bs : List Int) (pos n : Nat) (hb : BytesOk bs) (hpos : pos ≤ 1000000) (hn : n ≤ 1000000) (hH : H (.u 1 0 0) = some (rdO bs pos)) :
    FnE Tryd.prog gl 29 (Nm.under (.u 1 0 0)) [.pt (.u 1 0 0) 0, iv n] H (RdPost bs (fun k : Nat => iv k) (fun k pos' => (k = 0 ∨ k < n) ∧ pos' = pos + 1)) noE :=
  FnE.mono (pick_fn gl H bs pos n hb hpos hn hH) (fun _ _ _ ⟨k, h1, h2, h3⟩ => ⟨k, pos + 1, h1, ⟨h2, rfl⟩, h3⟩) (fun _ _ _ h => h)
theorem aName_rd (gl) (H : Nm → Option AO) (bs : List Int) (pos : Nat) (hb : BytesOk bs) (hpos : pos ≤ 1000000) (hH : H (.u 1 0 0) = some (rdO bs pos)) (hV : H (.u 2 0 0) = none) :
    FnE Tryd.prog gl 127 (Nm.under (.u 1 0 0)) [.pt (.u 1 0 0) 0] H (RdPost bs (fun v : Int => iv v) (fun v pos' => (0 ≤ v ∧ v ≤ 7) ∧ pos' = pos + 1)) noE :=
  FnE.mono (aName_fn gl H bs pos hb hpos hH hV) (fun _ _ _ ⟨v, h1, h2, h3⟩ => ⟨v, pos + 1, h1, ⟨h2, rfl⟩, h3⟩) (fun _ _ _ h => h)
end Go.Proofs.YtmaoicgfcngciaaDoor
end
section
namespace Go.Proofs.YtmaoicgfcngciaaDoor
open Go Go.Hm Go.Proofs
abbrev qsXc0 : Sch := .q 0 <| .q 1 <| .q 2 <| .q 3 <| .q 7 <| .q 8 <| .q 9 <| .q 10 <| .l 4 [10, 9, 8, 7, 3, 2, 1, 0] <| .l 5 [10, 9, 8, 7, 2, 1, 0] <| .q 6 <| .q 11 <| .l 12 [] <| .done
attribute [local simp] slcAV
theorem of_fn (gl) (H : Nm → Option AO) (bs : List Int) (pos : Nat) (xs : List Txt) (hb : BytesOk bs) (hpos : pos ≤ 1000000) (hx : 0 < xs.length ∧ xs.length ≤ 1000) (hH : H (.u 1 0 0) = some (rdO bs pos)) (hL : H (.u 2 0 0) = some (.row 1 (xrows xs))) :
    FnE Tryd.prog gl 56 D12 [.pt (.u 1 0 0) 0, .hs (.u 2 0 0) 1 0 xs.length] H (fun _ z H' => ∃ v, z = tx v ∧ v ∈ xs ∧ H' (.u 1 0 0) = some (rdO bs (pos + 1))) noE := by
  have hxl := hx.2
  refine FnE.of_sem Tryd.func56 rfl (by kernel_rfl) (rs := [.tmp 4]) rfl Tryd.ntmps56 (Nat.le_of_ble_eq_true rfl) (fun _ => D12_root) fun C w g root hroot => ?_
  have fx := fx0
  refine k_run ?_
  clear fx
  first | show SemOp _ _ _ _ _ | intro K hK
  have fx := hxl
  refine x_mut (.u 1 0 0) rfl (by simp [hH]) (hF := pick_fn _ _ bs pos xs.length hb hpos (by omega) (by simp [hH])) (h := ?_)
  rintro z H1 ⟨k, rfl, hk, hk1⟩
  have hkl : k < xs.length := by omega
  obtain ⟨v, hv⟩ : ∃ v, xs[k]? = some v := ⟨_, gE hkl⟩
  obtain ⟨_, hvE⟩ := gS hv
  clear fx
  have fx := And.intro hL <| And.intro hkl <| And.intro hv <| hvE
  refine k_run ?_
  clear fx
  refine e_ret [] .nil (by simp; rfl) ⟨v, by simp, List.mem_of_getElem? hv, by simp [hk1]⟩
theorem ofOk (gl) : OfOk Tryd.prog gl 56 := fun H bs pos xs hb hp hx hH hL => of_fn gl H bs pos xs hb hp hx hH hL
theorem mutate_fn (gl) (H : Nm → Option AO) (bs : List Int) (pos : Nat) (v : Txt) (hv : v.length ≤ 900000) (hb : BytesOk bs) (hpos : pos ≤ 900000) (hH : H (.u 1 0 0) = some (rdO bs pos)) (hV : H (.u 2 0 0) = none) :
    FnE Tryd.prog gl 30 (Nm.under (.u 1 0 0)) [.pt (.u 1 0 0) 0, tx v] H (RdPost bs (fun u : Txt => tx u) (fun u pos' => u.length ≤ v.length + 1 ∧ pos' ≤ pos + 3)) noE := by
  have hwl : IntKind.i64.wrap ((v.length : Int) + 1) = ((v.length + 1 : Nat) : Int) := by rw [wrp (by omega) (by omega)]; omega
  refine FnE.of_sem Tryd.func30 rfl (by kernel_rfl) (rs := [.tmp 4]) rfl Tryd.ntmps30 (Nat.le_of_ble_eq_true rfl) (fun _ => under_usroot rfl) fun C w g root hroot => ?_
  have fx :=  hwl
  refine k_run ?_
  repeat ((first | refine wSc (id := 6) qsXc0 mixed ?_); refine k_rund ?_; refine k_run ?_)
  clear fx
  first | show SemOp _ _ _ _ _ | intro K hK
  refine x_rd (hs := by simp [hH]) (ha := by first | (simp; done) | (simp; rfl)) (hF := pick_rd _ _ bs pos (v.length + 1) hb (by omega) (by omega) (by simp [hH])) (h := ?_)
  rintro k pk ⟨hk, rfl⟩
  have hkl : k ≤ v.length := by omega
  clear hk
  have fx := fx0
  refine k_run ?_
  repeat ((first | refine wSc (id := 6) qsXc0 mixed ?_); refine k_rund ?_; refine k_run ?_)
  clear fx
  intro K hK
  refine x_rd (hs := by simp) (ha := by first | (simp; done) | (simp; rfl)) (hF := pick_rd _ _ bs (pos + 1) 5 hb (by omega) (by omega) (by simp)) (h := ?_)
  rintro c pc ⟨hc, rfl⟩
  have hcc : c = 0 ∨ c = 1 ∨ c = 2 ∨ c = 3 ∨ c = 4 := by omega
  clear hc
  rcases hcc with rfl | rfl | rfl | rfl | rfl
  · by_cases hkv : k < v.length
    · have hkv2 : (k : Int) < (v.length : Int) := by omega
      have hwk : IntKind.i64.wrap ((k : Int) + 1) = (k : Int) + 1 := wrp (by omega) (by omega)
      have hle1 : (k : Int) + 1 ≤ (v.length : Int) := by omega
      have hk0 : (0 : Int) ≤ (k : Int) + 1 := by omega
      have htn : ((k : Int) + 1).toNat = k + 1 := by omega
      have htk : (v.drop (k + 1)).take (v.length - (k + 1)) = v.drop (k + 1) := List.take_of_length_le (by simp)
      have fx := And.intro hkl <| And.intro hkv <| And.intro hkv2 <| And.intro hwk <| And.intro hle1 <| And.intro hk0 <| And.intro htn <| htk
      refine k_run ?_
      repeat ((first | refine wSc (id := 6) qsXc0 mixed ?_); refine k_rund ?_; refine k_run ?_)
      clear fx
      first | show SemOp _ _ _ _ _ | intro K hK
      refine x_of (ofOk _) 24 [[48], [49], [32], [45], [112], [10], [57]] (bs := bs) (pos := pos + 1 + 1) hb (by omega) (hV := hV) (h0 := by simp) (h1 := by simp) (hH := by simp) (hL := by simp [xrows]) (h := ?_)
      intro u hu
      have hul : u.length = 1 := by
        simp only [List.mem_cons, List.not_mem_nil, or_false] at hu
        rcases hu with rfl | rfl | rfl | rfl | rfl | rfl | rfl <;> rfl
      have hmn : min k v.length = k := by omega
      have hl1 : ∀ c, 2000000000 ≤ c → k + u.length ≤ c := fun c hc => by omega
      have hl2 : ∀ c, 2000000000 ≤ c → k + u.length + (v.length - (k + 1)) ≤ c := fun c hc => by omega
      have hl3 : ∀ c, 2000000000 ≤ c → k + (u.length + (v.length - (k + 1))) ≤ c := fun c hc => by omega
      have fx := And.intro hkl <| And.intro hkv <| And.intro hkv2 <| And.intro hwk <| And.intro hle1 <| And.intro hk0 <| And.intro htn <| And.intro htk <| And.intro hmn <| And.intro hl1 <| And.intro hl2 <| hl3
      refine k_run ?_
      repeat ((first | refine wSc (id := 6) qsXc0 mixed ?_); refine k_rund ?_; refine k_run ?_)
      clear fx
      exact e_ret [] .nil (by simp; rfl) ⟨v.take k ++ u ++ v.drop (k + 1), pos + 1 + 1 + 1, by simp, ⟨by simp; omega, by omega⟩, by simp⟩
    · have hkv2 : ¬ (k : Int) < (v.length : Int) := by omega
      have fx := And.intro hkv <| hkv2
      refine k_run ?_
      repeat ((first | refine wSc (id := 6) qsXc0 mixed ?_); refine k_rund ?_; refine k_run ?_)
      clear fx
      exact e_ret [] .nil (by simp; rfl) ⟨v, pos + 1 + 1, by simp, ⟨by omega, by omega⟩, by simp⟩
  · by_cases hkv : k < v.length
    · have hkv2 : (k : Int) < (v.length : Int) := by omega
      have hwk : IntKind.i64.wrap ((k : Int) + 1) = (k : Int) + 1 := wrp (by omega) (by omega)
      have hle1 : (k : Int) + 1 ≤ (v.length : Int) := by omega
      have hk0 : (0 : Int) ≤ (k : Int) + 1 := by omega
      have htn : ((k : Int) + 1).toNat = k + 1 := by omega
      have htk : (v.drop (k + 1)).take (v.length - (k + 1)) = v.drop (k + 1) := List.take_of_length_le (by simp)
      have fx := And.intro hkl <| And.intro hkv <| And.intro hkv2 <| And.intro hwk <| And.intro hle1 <| And.intro hk0 <| And.intro htn <| htk
      refine k_run ?_
      repeat ((first | refine wSc (id := 6) qsXc0 mixed ?_); refine k_rund ?_; refine k_run ?_)
      clear fx
      first | show SemOp _ _ _ _ _ | intro K hK
      refine x_of (ofOk _) 24 [[48], [49], [32], [45], [112], [10], [57]] (bs := bs) (pos := pos + 1 + 1) hb (by omega) (hV := hV) (h0 := by simp) (h1 := by simp) (hH := by simp) (hL := by simp [xrows]) (h := ?_)
      intro u hu
      have hul : u.length = 1 := by
        simp only [List.mem_cons, List.not_mem_nil, or_false] at hu
        rcases hu with rfl | rfl | rfl | rfl | rfl | rfl | rfl <;> rfl
      have hmn : min k v.length = k := by omega
      have hl1 : ∀ c, 2000000000 ≤ c → k + u.length ≤ c := fun c hc => by omega
      have hl2 : ∀ c, 2000000000 ≤ c → k + u.length + (v.length - (k + 1)) ≤ c := fun c hc => by omega
      have hl3 : ∀ c, 2000000000 ≤ c → k + (u.length + (v.length - (k + 1))) ≤ c := fun c hc => by omega
      have fx := And.intro hkl <| And.intro hkv <| And.intro hkv2 <| And.intro hwk <| And.intro hle1 <| And.intro hk0 <| And.intro htn <| And.intro htk <| And.intro hmn <| And.intro hl1 <| And.intro hl2 <| hl3
      refine k_run ?_
      repeat ((first | refine wSc (id := 6) qsXc0 mixed ?_); refine k_rund ?_; refine k_run ?_)
      clear fx
      exact e_ret [] .nil (by simp; rfl) ⟨v.take k ++ u ++ v.drop (k + 1), pos + 1 + 1 + 1, by simp, ⟨by simp; omega, by omega⟩, by simp⟩
    · have hkv2 : ¬ (k : Int) < (v.length : Int) := by omega
      have fx := And.intro hkv <| hkv2
      refine k_run ?_
      repeat ((first | refine wSc (id := 6) qsXc0 mixed ?_); refine k_rund ?_; refine k_run ?_)
      clear fx
      exact e_ret [] .nil (by simp; rfl) ⟨v, pos + 1 + 1, by simp, ⟨by omega, by omega⟩, by simp⟩
  · have hkv2 : (k : Int) ≤ (v.length : Int) := by omega
    have fx := And.intro hkl <| hkv2
    refine k_run ?_
    repeat ((first | refine wSc (id := 6) qsXc0 mixed ?_); refine k_rund ?_; refine k_run ?_)
    clear fx
    exact e_ret [] .nil (by simp; rfl) ⟨v.take k, pos + 1 + 1, by simp, ⟨by simp; omega, by omega⟩, by simp⟩
  · skip
    have fx := fx0
    refine k_run ?_
    repeat ((first | refine wSc (id := 6) qsXc0 mixed ?_); refine k_rund ?_; refine k_run ?_)
    clear fx
    first | show SemOp _ _ _ _ _ | intro K hK
    refine x_of (ofOk _) 41 [[48], [32], [10], [120]] (bs := bs) (pos := pos + 1 + 1) hb (by omega) (hV := hV) (h0 := by simp) (h1 := by simp) (hH := by simp) (hL := by simp [xrows]) (h := ?_)
    intro u hu
    have hul : u.length = 1 := by
      simp only [List.mem_cons, List.not_mem_nil, or_false] at hu
      rcases hu with rfl | rfl | rfl | rfl <;> rfl
    have hl1 : ∀ c, 2000000000 ≤ c → v.length + u.length ≤ c := fun c hc => by omega
    have fx :=  hl1
    refine k_run ?_
    repeat ((first | refine wSc (id := 6) qsXc0 mixed ?_); refine k_rund ?_; refine k_run ?_)
    clear fx
    exact e_ret [] .nil (by simp; rfl) ⟨v ++ u, pos + 1 + 1 + 1, by simp, ⟨by simp; omega, by omega⟩, by simp⟩
  · skip
    have fx := fx0
    refine k_run ?_
    repeat ((first | refine wSc (id := 6) qsXc0 mixed ?_); refine k_rund ?_; refine k_run ?_)
    clear fx
    exact e_ret [] .nil (by simp; rfl) ⟨v, pos + 1 + 1, by simp, ⟨by omega, by omega⟩, by simp⟩
end Go.Proofs.YtmaoicgfcngciaaDoor
end
section
namespace Go.Proofs.YtmaoicgfcngciaaDoor
open Go Go.Hm Go.Proofs
attribute [local simp] slcAV
def numI0 (o : Option Nat) : Int := match o with | some n => n | none => 0
theorem smallNumber_fn (gl) (v : Txt) (hv : v.length ≤ 1048577) : FnOk Tryd.prog gl 98 [tx v] (fun _ y _ => y = .tup [iv (numI0 (smallN v)), bv (smallN v).isSome]) := by
  refine FnOk.of_sem Tryd.func98 rfl (by kernel_rfl) (rs := [.tmp 2, .tmp 3]) rfl Tryd.ntmps98 (Nat.le_of_ble_eq_true rfl) fun C w g root => ?_
  by_cases h1 : v.length < 1
  · have hno := small_len (s := v) (.inl h1)
    have h1' : (v.length : Int) < 1 := by omega
    have fx := And.intro h1 <| h1'
    refine k_run ?_
    clear fx
    refine e_ret [] .nil (by simp; rfl) (by simp [hno, numI0])
  by_cases h2 : 2 < v.length
  · have hno := small_len (s := v) (.inr h2)
    have h1' : ¬ (v.length : Int) < 1 := by omega
    have h2' : (2 : Int) < v.length := by omega
    have fx := And.intro h1 <| And.intro h1' <| And.intro h2 <| h2'
    refine k_run ?_
    clear fx
    refine e_ret [] .nil (by simp; rfl) (by simp [hno, numI0])
  have h1' : ¬ (v.length : Int) < 1 := by omega
  have h2' : ¬ (2 : Int) < v.length := by omega
  have h3 : v.length = 1 ∨ v.length = 2 := by omega
  obtain ⟨c0, hc0⟩ : ∃ c, v[0]? = some c := ⟨_, gE (by omega)⟩
  obtain ⟨_, hcE⟩ := gS hc0
  by_cases hz : v.length = 2 ∧ c0 = 48
  · obtain ⟨hl, rfl⟩ := hz
    have hno := small_zero hl hc0
    have fx := And.intro h1 <| And.intro h1' <| And.intro h2 <| And.intro h2' <| And.intro hl <| And.intro hc0 <| hcE
    refine k_run ?_
    clear fx
    refine e_ret [] .nil (by simp; rfl) (by simp [hno, numI0])
  have hzz : v.length = 2 → v[0]? ≠ some 48 := fun e e2 => hz ⟨e, by rw [hc0] at e2; exact Option.some.inj e2⟩
  rcases h3 with hl | hl
  case' inl =>
    have fx := And.intro h1 <| And.intro h1' <| And.intro h2 <| And.intro h2' <| hl
    refine k_run ?_
    clear fx
  case' inr =>
    have hc48 : ¬ c0 = 48 := fun e => hz ⟨hl, e⟩
    have hcn : ¬ c0.toNat = 48 := fun e => hc48 (UInt8.toNat_inj.1 e)
    have hcb : ((c0.toNat : Int) == 48) = false := by simp; omega
    have fx := And.intro h1 <| And.intro h1' <| And.intro h2 <| And.intro h2' <| And.intro hl <| And.intro hc0 <| And.intro hcE <| And.intro hcn <| hcb
    refine k_run ?_
    clear fx
  all_goals
    refine w_loop (fun n st => ∃ i : Nat, n = v.length - i ∧ i ≤ v.length ∧ st.tm 0 = tx v ∧ st.tm 25 = iv v.length ∧ st.tm 26 = iv i ∧ st.tm 4 = iv (dval (v.take i)) ∧ ∀ c ∈ v.take i, 48 ≤ c.toNat ∧ c.toNat ≤ 57) v.length ?_ ?_
    · exact ⟨0, by omega, by omega, by simp, by simp [hl], by simp, by simp [dval], by simp⟩
    rintro n st - - ⟨i, rfl, hi, h0, h25, h26, h4, hd⟩
    by_cases hil : i < v.length
    · obtain ⟨c, hc⟩ : ∃ c, v[i]? = some c := ⟨_, gE hil⟩
      obtain ⟨_, hcE'⟩ := gS hc
      have hdt := dval_take hc
      have hdl : dval (v.take i) ≤ 9 := dval_le (by rw [List.length_take]; omega) hd
      have hcl := c.toNat_lt
      generalize dval (v.take i) = m at h4 hdt hdl
      by_cases hg : 48 ≤ c.toNat ∧ c.toNat ≤ 57
      · obtain ⟨g1, g2⟩ := hg
        have g1' : ¬ c.toNat < 48 := by omega
        have g2' : ¬ 57 < c.toNat := by omega
        have g1i : ¬ (c.toNat : Int) < 48 := by omega
        have g2i : ¬ (57 : Int) < (c.toNat : Int) := by omega
        obtain ⟨k, hk⟩ : ∃ k : Nat, k = c.toNat - 48 := ⟨_, rfl⟩
        have hw1 : IntKind.i64.wrap (10 * (m : Int)) = 10 * (m : Int) := wrp (by omega) (by omega)
        have hw2 : IntKind.u8.wrap ((c.toNat : Int) - 48) = (k : Int) := by rw [show (c.toNat : Int) - 48 = (k : Int) by omega]; exact u8w (by omega) (by omega)
        have hw3 : IntKind.i64.wrap (k : Int) = (k : Int) := wrp (by omega) (by omega)
        have hw4 : IntKind.i64.wrap (10 * (m : Int) + (k : Int)) = 10 * (m : Int) + (k : Int) := wrp (by omega) (by omega)
        have fx := And.intro h0 <| And.intro h25 <| And.intro h26 <| And.intro h4 <| And.intro hil <| And.intro hc <| And.intro hcE' <| And.intro g1' <| And.intro g2' <| And.intro g1i <| And.intro g2i <| And.intro hw1 <| And.intro hw2 <| And.intro hw3 <| hw4
        refine k_run ?_
        clear fx
        refine ⟨v.length - (i + 1), by omega, i + 1, rfl, by omega, by simp [h0], by simp [h25], by simp; exact wrp (by omega) (by omega), ?_, ?_⟩
        · simp [hdt, ← hk]
        · intro x hx
          rw [List.take_add_one, hc] at hx
          simp at hx
          rcases hx with hx | rfl
          · exact hd x hx
          · exact ⟨g1, g2⟩
      · have hno := small_bad1 hc hg
        by_cases g1 : c.toNat < 48
        · have g1i : (c.toNat : Int) < 48 := by omega
          have fx := And.intro h0 <| And.intro h25 <| And.intro h26 <| And.intro h4 <| And.intro hil <| And.intro hc <| And.intro hcE' <| And.intro g1 <| g1i
          refine k_run ?_
          clear fx
          refine e_ret [] .nil (by simp; rfl) (by simp [hno, numI0])
        · have g1i : ¬ (c.toNat : Int) < 48 := by omega
          have g2 : 57 < c.toNat := by omega
          have g2i : (57 : Int) < (c.toNat : Int) := by omega
          have fx := And.intro h0 <| And.intro h25 <| And.intro h26 <| And.intro h4 <| And.intro hil <| And.intro hc <| And.intro hcE' <| And.intro g1 <| And.intro g1i <| And.intro g2 <| g2i
          refine k_run ?_
          clear fx
          refine e_ret [] .nil (by simp; rfl) (by simp [hno, numI0])
    · obtain rfl : i = v.length := by omega
      rw [List.take_length] at h4 hd
      have hyes := small_digits (by omega) (by omega) hzz hd
      have fx := And.intro h0 <| And.intro h25 <| And.intro h26 <| And.intro h4 <| hil
      refine k_run ?_
      clear fx
      refine e_ret [] .nil (by simp [h4]; rfl) (by simp [hyes, numI0])
abbrev rdW (ls ws : List Txt) : AO := .row 2 [[xsl ls, xsl ws]]
theorem more_fn (gl) (H : Nm → Option AO) (ls ws : List Txt) (hH : H (.u 1 0 0) = some (rdW ls ws)) :
    FnE Tryd.prog gl 97 (Nm.under (.u 1 0 0)) [.pt (.u 1 0 0) 0] H (fun _ y H' => y = bv (!ws.isEmpty) ∧ H' (.u 1 0 0) = some (rdW ls ws)) noE := by
  refine FnE.of_sem Tryd.func97 rfl (by kernel_rfl) (rs := [.tmp 2]) rfl Tryd.ntmps97 (Nat.le_of_ble_eq_true rfl) (fun _ => under_usroot rfl) fun C w g root hroot => ?_
  have fx :=  hH
  refine k_run ?_
  clear fx
  refine e_ret [] .nil (by simp; rfl) ⟨?_, by simp [hH]⟩
  cases ws <;> simp
theorem word_fn (gl) (H : Nm → Option AO) (ls ws : List Txt) (hH : H (.u 1 0 0) = some (rdW ls ws)) :
    FnE Tryd.prog gl 61 (Nm.under (.u 1 0 0)) [.pt (.u 1 0 0) 0] H (fun _ y H' => ∃ w ws', ws = w :: ws' ∧ y = tx w ∧ H' (.u 1 0 0) = some (rdW ls ws')) (badQ (ws = [])) := by
  refine FnE.of_sem Tryd.func61 rfl (by kernel_rfl) (rs := [.tmp 2]) rfl Tryd.ntmps61 (Nat.le_of_ble_eq_true rfl) (fun _ => under_usroot rfl) fun C w g root hroot => ?_
  cases ws with
  | nil =>
    have fx :=  hH
    refine k_run ?_
    clear fx
    intro K hK
    refine x_pan (hx := by simp; first | done | exact ⟨rfl, rfl⟩) ?_
    exact ⟨[], .nil, ⟨_, _, rfl, .inl rfl⟩, rfl⟩
  | cons u us =>
    have hne : ((us.length : Int) + 1 == 0) = false := by simp; omega
    have h1 : (1 : Int) ≤ (us.length : Int) + 1 := by omega
    have fx := And.intro hH <| And.intro hne <| h1
    refine k_run ?_
    clear fx
    refine e_ret [] .nil (by simp; rfl) ⟨u, us, rfl, by simp, by simp⟩
theorem endLine_fn (gl) (H : Nm → Option AO) (ls ws : List Txt) (hH : H (.u 1 0 0) = some (rdW ls ws)) :
    FnE Tryd.prog gl 59 (Nm.under (.u 1 0 0)) [.pt (.u 1 0 0) 0] H (fun _ _ H' => ws = [] ∧ H' (.u 1 0 0) = some (rdW ls ws)) (badQ (ws ≠ [])) := by
  refine FnE.of_sem Tryd.func59 rfl (by kernel_rfl) (rs := []) rfl Tryd.ntmps59 (Nat.le_of_ble_eq_true rfl) (fun _ => under_usroot rfl) fun C w g root hroot => ?_
  have fx :=  hH
  refine k_run ?_
  clear fx
  intro K hK
  have fx := hH
  refine x_mut (.u 1 0 0) rfl (by simp [hH]) (hF := more_fn _ _ ls ws (by simp [hH])) (h := ?_)
  rintro y H1 ⟨rfl, hH1⟩
  clear fx
  cases ws with
  | nil =>
    have fx := And.intro hH <| hH1
    refine k_run ?_
    clear fx
    refine e_norm [] .nil (by simp; rfl) ⟨rfl, by simp [hH1]⟩
  | cons u us =>
    have fx := And.intro hH <| hH1
    refine k_run ?_
    clear fx
    intro K hK
    refine x_pan (hx := by simp; first | done | exact ⟨rfl, rfl⟩) ?_
    exact ⟨[], .nil, ⟨_, _, rfl, .inl rfl⟩, by simp⟩
end Go.Proofs.YtmaoicgfcngciaaDoor
end
section
namespace Go.Proofs.YtmaoicgfcngciaaDoor
open Go Go.Hm Go.Proofs
attribute [local simp] slcAV
theorem number_rd (gl) (H : Nm → Option AO) (ls ws : List Txt) (hws : ∀ v ∈ ws, v.length ≤ 1048577) (hH : H (.u 1 0 0) = some (rdW ls ws)) :
    FnE Tryd.prog gl 63 (Nm.under (.u 1 0 0)) [.pt (.u 1 0 0) 0] H (fun _ y H' => ∃ n ws', rNum ws = some (n, ws') ∧ y = iv n ∧ H' (.u 1 0 0) = some (rdW ls ws')) (badQ (rNum ws = none)) := by
  refine FnE.of_sem Tryd.func63 rfl (by kernel_rfl) (rs := [.tmp 2]) rfl Tryd.ntmps63 (Nat.le_of_ble_eq_true rfl) (fun _ => under_usroot rfl) fun C w g root hroot => ?_
  have fx :=  hH
  refine k_run ?_
  clear fx
  intro K hK
  have fx := hH
  refine x_mutE (.u 1 0 0) rfl (by simp [hH]) (hF := word_fn _ _ ls ws (by simp [hH])) (hE := fun x s hx hq => ⟨[], .nil, hx.tr, by rw [hq]; rfl⟩) (h := ?_)
  rintro y H1 ⟨v, vs, rfl, rfl, hH1⟩
  clear fx
  have hvl := hws v (by simp)
  cases hs : smallN v with
  | none =>
    have hq := smallNumber_fn gl v hvl
    rw [hs] at hq
    have fx :=  hH1
    have c1 := hq
    refine k_run ?_
    clear fx c1
    intro K hK
    refine x_pan (hx := by simp; first | done | exact ⟨rfl, rfl⟩) ?_
    exact ⟨[], .nil, ⟨_, _, rfl, .inl rfl⟩, by simp [rNum, hs]⟩
  | some n =>
    have hq := smallNumber_fn gl v hvl
    rw [hs] at hq
    have fx :=  hH1
    have c1 := hq
    refine k_run ?_
    clear fx c1
    refine e_ret [] .nil (by simp; rfl) ⟨n, vs, by simp [rNum, hs], by simp [numI0], by simp [hH1]⟩
theorem nextLine_fn (gl) {m : Int} (hgm : gl 3 = some [.sc (.int .i64 m)]) (H : Nm → Option AO) (ls : List Txt) (x : AV) (hls : ∀ v ∈ ls, v.length ≤ 1048577) (hH : H (.u 1 0 0) = some (.row 2 [[xsl ls, x]])) :
    FnE Tryd.prog gl 58 (Nm.under (.u 1 0 0)) [.pt (.u 1 0 0) 0] H (fun _ y H' => (ls = [] ∧ y = bv false) ∨ (∃ l ls', ls = l :: ls' ∧ y = bv true ∧ H' (.u 1 0 0) = some (rdW ls' (splitL 32 l)))) noE := by
  refine FnE.of_sem Tryd.func58 rfl (by kernel_rfl) (rs := [.tmp 2]) rfl Tryd.ntmps58 (Nat.le_of_ble_eq_true rfl) (fun _ => under_usroot rfl) fun C w g root hroot => ?_
  cases ls with
  | nil =>
    have fx :=  hH
    refine k_run ?_
    clear fx
    refine e_ret [] .nil (by simp; rfl) (.inl ⟨rfl, by simp⟩)
  | cons u us =>
    have hul := hls u (by simp)
    have hne : ((us.length : Int) + 1 == 0) = false := by simp; omega
    have h1 : (1 : Int) ≤ (us.length : Int) + 1 := by omega
    have hsp := split_at_fn gl hgm u 32 (by omega)
    have fx := And.intro hH <| And.intro hne <| h1
    have p1 := hsp
    refine k_runp ?_
    clear fx p1
    refine e_ret [] .nil (by simp; rfl) (.inr ⟨u, us, rfl, by simp, by simp⟩)
theorem ireader_fn (gl) {m : Int} (hgm : gl 3 = some [.sc (.int .i64 m)]) (s : Txt) (hs : s.length ≤ 1048576) :
    FnE Tryd.prog gl 57 noD [tx s] noH (fun r y H' => (splitL 10 s).getLast? = some [] ∧ y = .pt r 0 ∧ H' r = some (.row 2 [[xsl (splitL 10 s).dropLast, .hs (.c r 0 1) 1 0 0]])) (badQ ((splitL 10 s).getLast? ≠ some [])) := by
  have hsp := split_at_fn gl hgm s 10 (by omega)
  have hne := splitL_ne (c := 10) (l := s)
  have hlen := split_len (c := 10) (s := s)
  generalize splitL 10 s = L at hsp hne hlen ⊢
  obtain ⟨I, z, rfl⟩ : ∃ I z, L = I ++ [z] := ⟨L.dropLast, L.getLast hne, (List.dropLast_concat_getLast hne).symm⟩
  have hl1 : (I ++ [z]).length = I.length + 1 := by simp
  have hz : (I ++ [z])[I.length]? = some z := by simp
  have hw : IntKind.i64.wrap (I.length : Int) = I.length := wrp (by omega) (by omega)
  have hn1 : (I.length : Int) ≤ (I.length : Int) + 1 := by omega
  have hn0 : (0 : Int) ≤ (I.length : Int) := by omega
  refine FnE.of_sem Tryd.func57 rfl (by kernel_rfl) (rs := [.tmp 2]) rfl Tryd.ntmps57 (Nat.le_of_ble_eq_true rfl) (fun _ h => by cases h) fun C w g root hroot => ?_
  by_cases he : z = []
  · have hb : (z == []) = true := by simp [he]
    have fx := And.intro hl1 <| And.intro hz <| And.intro hw <| And.intro hb <| And.intro hn1 <| hn0
    have p1 := hsp
    refine k_runp ?_
    clear fx p1
    refine e_ret [(.s 2, root)] (.one rfl) (by simp; rfl) ⟨by simp [he], by simp, ?_⟩
    simp
  · have hb : (z == []) = false := by simpa using he
    have fx := And.intro hl1 <| And.intro hz <| And.intro hw <| And.intro hb <| And.intro hn1 <| hn0
    have p1 := hsp
    refine k_runp ?_
    clear fx p1
    intro K hK
    refine x_pan (hx := by simp; first | done | exact ⟨rfl, rfl⟩) ?_
    exact ⟨[], .nil, ⟨_, _, rfl, .inl rfl⟩, by simp [he]⟩
end Go.Proofs.YtmaoicgfcngciaaDoor
end
section
namespace Go.Proofs.YtmaoicgfcngciaaDoor
open Go Go.Hm Go.Proofs
theorem hasArg_fn (gl) (c : Int) : FnOk Tryd.prog gl 62 [iv c] (fun _ y _ => y = bv (!loneO c)) := by
  refine FnOk.of_sem Tryd.func62 rfl (by kernel_rfl) (rs := [.tmp 2]) rfl Tryd.ntmps62 (Nat.le_of_ble_eq_true rfl) fun C w g root => ?_
  cases h1 : (c == 0)
  · cases h2 : (c == 14)
    · cases h3 : (c == 19)
      · skip
        have fx := And.intro h1 <| And.intro h2 <| And.intro h3 <| @bne_def
        refine k_run ?_
        clear fx
        refine e_ret [] .nil (by simp; rfl) (by simp [loneO, h1, h2, h3])
      · skip
        have fx := And.intro h1 <| And.intro h2 <| And.intro h3 <| @bne_def
        refine k_run ?_
        clear fx
        refine e_ret [] .nil (by simp; rfl) (by simp [loneO, h1, h2, h3])
    · skip
      have fx := And.intro h1 <| And.intro h2 <| @bne_def
      refine k_run ?_
      clear fx
      refine e_ret [] .nil (by simp; rfl) (by simp [loneO, h1, h2])
  · skip
    have fx := And.intro h1 <| @bne_def
    refine k_run ?_
    clear fx
    refine e_ret [] .nil (by simp; rfl) (by simp [loneO, h1])
end Go.Proofs.YtmaoicgfcngciaaDoor
end
