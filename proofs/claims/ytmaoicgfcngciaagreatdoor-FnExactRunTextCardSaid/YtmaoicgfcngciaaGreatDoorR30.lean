/-
  Own texts, joined by mkclaim.py: Pe, Pf, Pg, Ph, Xg, Qa.
-/
import Derived.Test.YtmaoicgfcngciaaGreatDoorR29
import Derived.Test.YtmaoicgfcngciaaGreatDoorR21
import Derived.Test.YtmaoicgfcngciaaGreatDoorR14
import Derived.Test.YtmaoicgfcngciaaGreatDoorR24
import Derived.Test.YtmaoicgfcngciaaGreatDoorR16
import Derived.Test.YtmaoicgfcngciaaGreatDoorR19
import Derived.Test.YtmaoicgfcngciaaGreatDoorR26
set_option linter.unusedSimpArgs false
set_option linter.unusedVariables false
set_option maxRecDepth 100000
set_option maxHeartbeats 4000000

section
namespace Go.Proofs.YtmaoicgfcngciaaGreatDoor
open Go Go.Hm Go.Proofs
abbrev qsPe0 : Sch := .q 0 <| .q 1 <| .q 2 <| .q 3 <| .q 4 <| .q 5 <| .q 6 <| .l 7 [5, 4, 2, 1] <| .l 8 [] <| .done
abbrev qsPe1 : Sch := .q 0 <| .q 1 <| .q 2 <| .q 3 <| .q 4 <| .q 5 <| .q 6 <| .q 7 <| .q 8 <| .l 9 [7, 6, 5, 4, 3, 2, 1, 0] <| .l 10 [7, 6, 5, 3, 2, 1, 0] <| .q 11 <| .q 12 <| .l 13 [11] <| .done
abbrev qsPe2 : Sch := .q 0 <| .q 1 <| .q 2 <| .q 3 <| .q 4 <| .q 5 <| .l 6 [4, 2, 1] <| .l 7 [] <| .done
theorem valueOf_fn (gl) (p : Prg) (n : Nat) (hR : RBok gl p n) (H : Nm → Option AO) (W : Wld) (a : Nat) (k : Blk) (s : Stm) (hP : ValP p) (hw : WOk p W) (hn : W.left < n) (h0 : W.en = 0) (ha : a < W.acts.length) (hk : p[W.blk a]? = some k) (hs : s ∈ k.body) (hkd : 0 ≤ s.kind ∧ s.kind ≤ 7) (hr : Room 2 W) (hO : OwnW H p W) (hV : H (.u 2 0 0) = none) :
    FnE Tryz.prog gl 191 (Nm.under Wn) [.pt Wn 0, iv a, s.av] H (fun _ y H' => y = Val.av (valueW p (runW p n) W a s).2 ∧ OwnW H' p (valueW p (runW p n) W a s).1) noE := by
  have hT := hO.top
  simp only [wRow] at hT
  have hst := hP.sh.stm _ k hk s hs
  have hnm := hP.sh.names k (List.mem_of_getElem? hk)
  have hrd := hnm.reads s hs
  have hrl := Stm.reads_len s
  refine FnE.of_sem Tryz.func191 rfl (by kernel_rfl) (rs := [.cell 6 171]) rfl Tryz.ntmps191 (Nat.le_of_ble_eq_true rfl) (fun _ => under_usroot rfl) fun C w g root hroot => ?_
  have fx :=  hT
  have d1 := readsOf_fn gl s
  refine k_run ?_
  repeat ((first | refine wSc (id := 8) qsPe0 mixed ?_ | refine wSc (id := 10) qsPe1 mixed ?_ | refine wSc (id := 19) qsPe2 mixed ?_ | refine wSc (id := 21) qsPe2 mixed ?_); refine k_rund ?_; refine k_run ?_)
  clear fx d1
  intro K hK
  refine o_mv (.s 13) (.u 2 0 0) (.inl rfl) (.inr (by simp [ctx0, hV])) ?_
  have fx := hT
  refine x_mut12 (by simp [hT]) (by simp) (hF := loads_fn _ _ p W a s.reads hP.sh hw ha hrd hrl (have ow := hO; OwnW.re ow) (by simp)) (h := ?_)
  rintro y H1 ⟨rfl, hp1, hO1⟩
  clear fx
  obtain ⟨hA, hvok, hcase, hlen, _⟩ := loadsW_ok (a := a) (l := s.reads) hw
  have hval : valueW p (runW p n) W a s = if (loadsW p W a s.reads).1.en ≠ 0 then ((loadsW p W a s.reads).1, (0, 0)) else workW p (runW p n) (loadsW p W a s.reads).1 a s (loadsW p W a s.reads).2 := rfl
  generalize loadsW p W a s.reads = q at hp1 hO1 hA hvok hcase hlen hval
  obtain ⟨V, vs⟩ := q
  simp only at hp1 hO1 hA hvok hcase hlen hval
  have hT1 := hO1.top
  simp only [wRow] at hT1
  obtain ⟨kd, to, sa, sb⟩ := s
  simp only at hkd
  by_cases hen : V.en = 0
  case neg =>
    rw [if_pos hen] at hval
    have henb : (V.en == 0) = false := by simpa using hen
    have fx := And.intro hT <| And.intro hT1 <| And.intro hp1 <| And.intro henb <| @bne_def
    refine k_run ?_
    repeat ((first | refine wSc (id := 8) qsPe0 mixed ?_ | refine wSc (id := 10) qsPe1 mixed ?_ | refine wSc (id := 19) qsPe2 mixed ?_ | refine wSc (id := 21) qsPe2 mixed ?_); refine k_rund ?_; refine k_run ?_)
    clear fx
    rw [hval]
    refine e_ret [] .nil (by simp; rfl) ⟨by simp, (have ow := hO1; OwnW.re ow)⟩
  rw [if_neg (by simpa using hen)] at hval
  obtain rfl : V = W := by
    rcases hcase with e | ⟨e, he, h⟩
    · exact e
    · rw [h] at hen
      exact absurd hen he
  have hl := hlen hen
  have henb : (V.en == 0) = true := by simpa using hen
  have hkc : kd = 0 ∨ kd = 1 ∨ kd = 2 ∨ kd = 3 ∨ kd = 4 ∨ kd = 5 ∨ kd = 6 ∨ kd = 7 := by omega
  rcases hkc with rfl | rfl | rfl | rfl | rfl | rfl | rfl | rfl
  · have hw0 : workW p (runW p n) V a ⟨0, to, sa, sb⟩ vs = (V, (1, sa)) := by simp [workW]
    rw [hw0] at hval
    have fx := And.intro hT <| And.intro hT1 <| And.intro hp1 <| And.intro henb <| @bne_def
    refine k_run ?_
    repeat ((first | refine wSc (id := 8) qsPe0 mixed ?_ | refine wSc (id := 10) qsPe1 mixed ?_ | refine wSc (id := 19) qsPe2 mixed ?_ | refine wSc (id := 21) qsPe2 mixed ?_); refine k_rund ?_; refine k_run ?_)
    clear fx
    rw [hval]
    refine e_ret [] .nil (by simp; rfl) ⟨by simp, (have ow := hO1; OwnW.re ow)⟩
  · obtain ⟨u, rfl⟩ : ∃ u, vs = [u] := by
      match vs, hl with
      | [u], _ => exact ⟨u, rfl⟩
      | [], h => simp [Stm.reads] at h
      | _ :: _ :: _, h => simp [Stm.reads] at h
    have hw0 : workW p (runW p n) V a ⟨1, to, sa, sb⟩ [u] = (V, u) := by simp [workW]
    rw [hw0] at hval
    have fx := And.intro hT <| And.intro hT1 <| And.intro hp1 <| And.intro henb <| @bne_def
    refine k_run ?_
    repeat ((first | refine wSc (id := 8) qsPe0 mixed ?_ | refine wSc (id := 10) qsPe1 mixed ?_ | refine wSc (id := 19) qsPe2 mixed ?_ | refine wSc (id := 21) qsPe2 mixed ?_); refine k_rund ?_; refine k_run ?_)
    clear fx
    rw [hval]
    refine e_ret [] .nil (by simp; rfl) ⟨by simp, (have ow := hO1; OwnW.re ow)⟩
  · obtain ⟨u, v, rfl⟩ : ∃ u v, vs = [u, v] := by
      match vs, hl with
      | [u, v], _ => exact ⟨u, v, rfl⟩
      | [], h => simp [Stm.reads] at h
      | [_], h => simp [Stm.reads] at h
      | _ :: _ :: _ :: _, h => simp [Stm.reads] at h
    have hw0 : workW p (runW p n) V a ⟨2, to, sa, sb⟩ [u, v] = plusW V u v := by simp [workW]
    rw [hw0] at hval
    have fx := And.intro hT <| And.intro hT1 <| And.intro hp1 <| And.intro henb <| @bne_def
    refine k_run ?_
    repeat ((first | refine wSc (id := 8) qsPe0 mixed ?_ | refine wSc (id := 10) qsPe1 mixed ?_ | refine wSc (id := 19) qsPe2 mixed ?_ | refine wSc (id := 21) qsPe2 mixed ?_); refine k_rund ?_; refine k_run ?_)
    clear fx
    intro K hK
    have fx := And.intro hT hT1
    refine x_mut Wn rfl (by simp [hT1]) (hF := plus_fn _ _ p V u v (hvok u (by simp)) (hvok v (by simp)) (have ow := hO1; OwnW.re ow)) (h := ?_)
    rintro y H2 ⟨rfl, hO2⟩
    clear fx
    have hT2 := hO2.top
    simp only [wRow] at hT2
    have fx := And.intro hT <| And.intro hT1 <| And.intro hp1 <| And.intro hT2 <| And.intro henb <| @bne_def
    refine k_run ?_
    repeat ((first | refine wSc (id := 8) qsPe0 mixed ?_ | refine wSc (id := 10) qsPe1 mixed ?_ | refine wSc (id := 19) qsPe2 mixed ?_ | refine wSc (id := 21) qsPe2 mixed ?_); refine k_rund ?_; refine k_run ?_)
    clear fx
    rw [hval]
    refine e_ret [] .nil (by simp; rfl) ⟨by simp, (have ow := hO2; OwnW.re ow)⟩
  · obtain ⟨q, hq1, hq2, hq3, hq4⟩ := StmOk.made hst (.inl rfl)
    simp only at hq3
    obtain ⟨A, rfl⟩ : ∃ A : Nat, sa = A := ⟨sa.toNat, by omega⟩
    have hw0 : workW p (runW p n) V a ⟨3, to, (A : Int), sb⟩ vs = ({ V with funs := V.funs ++ [(A, a)] }, (2, (V.funs.length : Int))) := by simp [workW]
    rw [hw0] at hval
    have hF := hO1.funs
    have hfl := hr.funs
    have hfl' : V.funs.length ≤ 1000 := by omega
    have hwr : IntKind.i64.wrap (V.funs.length : Int) = V.funs.length := wrp (by omega) (by omega)
    have hap : funRows (.c Wn 0 4) V.funs ++ [[iv A, iv a, .hs (.c (.c Wn 0 4) V.funs.length 2) 3 0 0]] = funRows (.c Wn 0 4) (V.funs ++ [(A, a)]) := funRows_app
    have fx := And.intro hT <| And.intro hT1 <| And.intro hp1 <| And.intro henb <| And.intro hF <| And.intro hfl' <| And.intro hwr <| @bne_def
    refine k_run ?_
    repeat ((first | refine wSc (id := 8) qsPe0 mixed ?_ | refine wSc (id := 10) qsPe1 mixed ?_ | refine wSc (id := 19) qsPe2 mixed ?_ | refine wSc (id := 21) qsPe2 mixed ?_); refine k_rund ?_; refine k_run ?_)
    clear fx
    rw [hval]
    refine e_ret [] .nil (by simp; rfl) ⟨by simp, OwnW.fin ⟨by simp [wRow, hT1], by simp [hO1.acts], fun i b hb => by simp [hO1.act i b hb], hO1.stk.imp fun l hl => by simp [hl], by simp [hO1.glob], ?_, by simp [hO1.clss], fun i c hc => by simp [hO1.cls i c hc], by simp [hO1.out], by simp [hO1.trc]⟩⟩
    simp [← hap]
    rw [List.take_of_length_le (by simp)]
    refine funRows_map fun i c hc => ?_
    have hne : ¬ i = V.funs.length := by have := (gS hc).1; omega
    have hne' : ¬ V.funs.length = i := by omega
    simp [hne, hne']
  · obtain ⟨q, hq1, hq2, hq3, hq4⟩ := StmOk.made hst (.inr rfl)
    have hm := stm_made hst ha (.inr rfl)
    simp only at hq1 hq3 hm
    obtain ⟨A, rfl⟩ : ∃ A : Nat, sa = A := ⟨sa.toNat, by omega⟩
    simp only [Int.toNat_natCast] at hq1 hm
    have hpar : parN p A = 0 := by
      have hh := hP.sh.head A q hq1
      have hA0 : ¬ A = 0 := by omega
      simp only [HeadOk, hA0, if_false] at hh
      simp only [parN, hq1]
      simp only at hq4
      omega
    have hw0 : workW p (runW p n) V a ⟨4, to, (A : Int), sb⟩ vs = classW p (runW p n) V A a := by simp [workW]
    rw [hw0] at hval
    have fx := And.intro hT <| And.intro hT1 <| And.intro hp1 <| And.intro henb <| @bne_def
    refine k_run ?_
    repeat ((first | refine wSc (id := 8) qsPe0 mixed ?_ | refine wSc (id := 10) qsPe1 mixed ?_ | refine wSc (id := 19) qsPe2 mixed ?_ | refine wSc (id := 21) qsPe2 mixed ?_); refine k_rund ?_; refine k_run ?_)
    clear fx
    intro K hK
    refine o_mv (.s 67) (.u 2 0 0) (.inl rfl) (.inr (by simp [ctx0, hV])) ?_
    have fx := And.intro hT hT1
    refine x_mut12 (by simp [hT1]) (by simp) (hF := enter_fn _ p n hR _ V A a 0 [] [] hP hw hn h0 hm (by simp) (hr.mono (by omega)) rfl rfl (by rw [hpar]; rfl) (by simp) (have ow := hO1; OwnW.re ow) (by simp)) (h := ?_)
    rintro y H2 ⟨rfl, hp2, hO2⟩
    clear fx
    have hcl : classW p (runW p n) V A a = if (enterW p (runW p n) V A a []).1.en ≠ 0 then ((enterW p (runW p n) V A a []).1, (0, 0)) else
      ({ (enterW p (runW p n) V A a []).1 with classes := (enterW p (runW p n) V A a []).1.classes ++ [(enterW p (runW p n) V A a []).1.vars (some V.acts.length)] }, (3, ((enterW p (runW p n) V A a []).1.classes.length : Int))) := rfl
    rw [hcl] at hval
    obtain ⟨⟨e1, e2, e3⟩, e4⟩ := enterW_ok (vs := []) (runW_ok hP.sh n) hw hn h0 hm (by simp) (hr.mono (by omega))
    have hrc : (enterW p (runW p n) V A a []).1.classes.length ≤ 1000 := by have := e1.ncls; omega
    generalize enterW p (runW p n) V A a [] = q2 at hp2 hO2 hval e1 hrc
    obtain ⟨U, v⟩ := q2
    simp only at hp2 hO2 hval e1 hrc
    have hT2 := hO2.top
    simp only [wRow] at hT2
    by_cases hen2 : U.en = 0
    case neg =>
      rw [if_pos hen2] at hval
      have henb2 : (U.en == 0) = false := by simpa using hen2
      have fx := And.intro hT <| And.intro hT1 <| And.intro hp1 <| And.intro hT2 <| And.intro henb2 <| @bne_def
      refine k_run ?_
      repeat ((first | refine wSc (id := 8) qsPe0 mixed ?_ | refine wSc (id := 10) qsPe1 mixed ?_ | refine wSc (id := 19) qsPe2 mixed ?_ | refine wSc (id := 21) qsPe2 mixed ?_); refine k_rund ?_; refine k_run ?_)
      clear fx
      rw [hval]
      refine e_ret [] .nil (by simp; rfl) ⟨by simp, (have ow := hO2; OwnW.re ow)⟩
    rw [if_neg (by simpa using hen2)] at hval
    have henb2 : (U.en == 0) = true := by simpa using hen2
    generalize U.vars (some V.acts.length) = nv at hp2 hval
    have hC := hO2.clss
    have hwr : IntKind.i64.wrap (U.classes.length : Int) = U.classes.length := wrp (by omega) (by omega)
    have hap : clsRows (.c Wn 0 5) U.classes ++ [[.hs (.c (.c Wn 0 5) U.classes.length 0) 3 0 8]] = clsRows (.c Wn 0 5) (U.classes ++ [nv]) := clsRows_app
    have fx := And.intro hT <| And.intro hT1 <| And.intro hp1 <| And.intro hT2 <| And.intro henb2 <| And.intro hp2 <| And.intro hC <| And.intro hrc <| And.intro hwr <| @bne_def
    refine k_run ?_
    repeat ((first | refine wSc (id := 8) qsPe0 mixed ?_ | refine wSc (id := 10) qsPe1 mixed ?_ | refine wSc (id := 19) qsPe2 mixed ?_ | refine wSc (id := 21) qsPe2 mixed ?_); refine k_rund ?_; refine k_run ?_)
    clear fx
    rw [hval]
    refine e_ret [] .nil (by simp; rfl) ⟨by simp, OwnW.fin ⟨by simp [wRow, hT2], by simp [hO2.acts], fun i b hb => by simp [hO2.act i b hb], hO2.stk.imp fun l hl => by simp [hl], by simp [hO2.glob], by simp [hO2.funs], ?_, fun i c hc => ?_, by simp [hO2.out], by simp [hO2.trc]⟩⟩
    · simp [← hap]
      rw [List.take_of_length_le (by simp)]
      refine clsRows_map fun i c hc => ?_
      have hne : ¬ i = U.classes.length := by have := (gS hc).1; omega
      have hne' : ¬ U.classes.length = i := by omega
      simp [hne, hne']
    · simp only at hc
      rcases Nat.lt_or_ge i U.classes.length with hlt | hge
      · rw [List.getElem?_append_left hlt] at hc
        have hne : ¬ i = U.classes.length := by omega
        have hne' : ¬ U.classes.length = i := by omega
        simp [hO2.cls i c hc, hne, hne']
      · rw [List.getElem?_append_right hge] at hc
        have hi : i = U.classes.length := by
          have := (gS hc).1
          simp at this
          omega
        subst hi
        simp at hc
        subst hc
        simp [hp2]
  · have hpos : 0 < vs.length := by
      rw [hl]
      by_cases e : sb = -1 <;> simp [Stm.reads, e]
    obtain ⟨u, tl, rfl⟩ : ∃ u tl, vs = u :: tl := by
      match vs, hpos with
      | u :: tl, _ => exact ⟨u, tl, rfl⟩
    have htl : tl.length ≤ 1 := by simp at hl; omega
    have hw0 : workW p (runW p n) V a ⟨5, to, sa, sb⟩ (u :: tl) = callW p (runW p n) V u tl := by simp [workW]
    rw [hw0] at hval
    have hle1 : (1 : Int) ≤ (tl.length : Int) + 1 := by omega
    have htn : ((tl.length : Int) + 1).toNat = tl.length + 1 := by omega
    have fx := And.intro hT <| And.intro hT1 <| And.intro hp1 <| And.intro henb <| And.intro htl <| And.intro hle1 <| And.intro htn <| @bne_def
    refine k_run ?_
    repeat ((first | refine wSc (id := 8) qsPe0 mixed ?_ | refine wSc (id := 10) qsPe1 mixed ?_ | refine wSc (id := 19) qsPe2 mixed ?_ | refine wSc (id := 21) qsPe2 mixed ?_); refine k_rund ?_; refine k_run ?_)
    clear fx
    intro K hK
    refine o_mv (.s 7) (.u 2 0 0) (.inl rfl) (.inr (by simp [ctx0, hV])) ?_
    have fx := And.intro hT hT1
    refine x_mut12 (by simp [hT1]) (by simp [hp1]) (hF := call_fn _ p n hR _ V u 1 tl (u :: tl) hP hw hn h0 (hvok u (by simp)) (fun v hv => hvok v (by simp [hv])) (hr.mono (by omega)) rfl (by simp; omega) htl (have ow := hO1; OwnW.re ow) (by simp [hp1])) (h := ?_)
    rintro y H2 ⟨rfl, hO2⟩
    clear fx
    have hT2 := hO2.top
    simp only [wRow] at hT2
    have fx := And.intro hT <| And.intro hT1 <| And.intro hp1 <| And.intro hT2 <| And.intro henb <| And.intro htl <| And.intro hle1 <| And.intro htn <| @bne_def
    refine k_run ?_
    repeat ((first | refine wSc (id := 8) qsPe0 mixed ?_ | refine wSc (id := 10) qsPe1 mixed ?_ | refine wSc (id := 19) qsPe2 mixed ?_ | refine wSc (id := 21) qsPe2 mixed ?_); refine k_rund ?_; refine k_run ?_)
    clear fx
    rw [hval]
    refine e_ret [] .nil (by simp; rfl) ⟨by simp, (have ow := hO2; OwnW.re ow)⟩
  · obtain ⟨u, rfl⟩ : ∃ u, vs = [u] := by
      match vs, hl with
      | [u], _ => exact ⟨u, rfl⟩
      | [], h => simp [Stm.reads] at h
      | _ :: _ :: _, h => simp [Stm.reads] at h
    have hsb : 0 ≤ sb ∧ sb ≤ 7 := by
      simp only [StmOk] at hst
      simp at hst
      omega
    obtain ⟨x, rfl⟩ : ∃ x : Nat, sb = x := ⟨sb.toNat, by omega⟩
    have hw0 : workW p (runW p n) V a ⟨6, to, sa, (x : Int)⟩ [u] = attrW V u x := by simp [workW]
    rw [hw0] at hval
    have fx := And.intro hT <| And.intro hT1 <| And.intro hp1 <| And.intro henb <| @bne_def
    refine k_run ?_
    repeat ((first | refine wSc (id := 8) qsPe0 mixed ?_ | refine wSc (id := 10) qsPe1 mixed ?_ | refine wSc (id := 19) qsPe2 mixed ?_ | refine wSc (id := 21) qsPe2 mixed ?_); refine k_rund ?_; refine k_run ?_)
    clear fx
    intro K hK
    have fx := And.intro hT hT1
    refine x_mut Wn rfl (by simp [hT1]) (hF := attr_fn _ _ p V u x hw (hvok u (by simp)) (by omega) (have ow := hO1; OwnW.re ow)) (h := ?_)
    rintro y H2 ⟨rfl, hO2⟩
    clear fx
    have hT2 := hO2.top
    simp only [wRow] at hT2
    have fx := And.intro hT <| And.intro hT1 <| And.intro hp1 <| And.intro hT2 <| And.intro henb <| @bne_def
    refine k_run ?_
    repeat ((first | refine wSc (id := 8) qsPe0 mixed ?_ | refine wSc (id := 10) qsPe1 mixed ?_ | refine wSc (id := 19) qsPe2 mixed ?_ | refine wSc (id := 21) qsPe2 mixed ?_); refine k_rund ?_; refine k_run ?_)
    clear fx
    rw [hval]
    refine e_ret [] .nil (by simp; rfl) ⟨by simp, (have ow := hO2; OwnW.re ow)⟩
  · obtain ⟨u, rfl⟩ : ∃ u, vs = [u] := by
      match vs, hl with
      | [u], _ => exact ⟨u, rfl⟩
      | [], h => simp [Stm.reads] at h
      | _ :: _ :: _, h => simp [Stm.reads] at h
    have hw0 : workW p (runW p n) V a ⟨7, to, sa, sb⟩ [u] = (V, u) := by simp [workW]
    rw [hw0] at hval
    have fx := And.intro hT <| And.intro hT1 <| And.intro hp1 <| And.intro henb <| @bne_def
    refine k_run ?_
    repeat ((first | refine wSc (id := 8) qsPe0 mixed ?_ | refine wSc (id := 10) qsPe1 mixed ?_ | refine wSc (id := 19) qsPe2 mixed ?_ | refine wSc (id := 21) qsPe2 mixed ?_); refine k_rund ?_; refine k_run ?_)
    clear fx
    rw [hval]
    refine e_ret [] .nil (by simp; rfl) ⟨by simp, (have ow := hO1; OwnW.re ow)⟩
abbrev qsPf0 : Sch := .q 0 <| .q 1 <| .q 2 <| .q 3 <| .q 4 <| .q 5 <| .l 6 [4, 3, 2, 1, 0] <| .l 7 [4, 3, 2, 1, 0] <| .l 8 [3, 2, 1, 0] <| .q 9 <| .q 10 <| .l 11 [9] <| .done
theorem runStmt_fn (gl) (p : Prg) (n : Nat) (hR : RBok gl p n) (H : Nm → Option AO) (W : Wld) (a : Nat) (k : Blk) (s : Stm) (hP : ValP p) (hw : WOk p W) (hn : W.left < n) (h0 : W.en = 0) (ha : a < W.acts.length) (hk : p[W.blk a]? = some k) (hs : s ∈ k.body) (h8 : s.kind ≠ 8) (hr : Room 2 W) (hO : OwnW H p W) (hV : H (.u 2 0 0) = none) :
    FnE Tryz.prog gl 165 (Nm.under Wn) [.pt Wn 0, iv a, s.av] H (fun _ y H' => OwnW H' p (stmW p (runW p n) W a s)) noE := by
  have hT := hO.top
  simp only [wRow] at hT
  have hst := hP.sh.stm _ k hk s hs
  have hnm := hP.sh.names k (List.mem_of_getElem? hk)
  have hkd := hnm.kinds s hs
  have hto := hnm.tos s hs
  have hvl := valueOf_fn gl p n hR
  obtain ⟨kd, to, sa, sb⟩ := s
  simp only at h8 hkd hto
  obtain ⟨x, rfl⟩ : ∃ x : Nat, to = x := ⟨to.toNat, by omega⟩
  refine FnE.of_sem Tryz.func165 rfl (by kernel_rfl) (rs := []) rfl Tryz.ntmps165 (Nat.le_of_ble_eq_true rfl) (fun _ => under_usroot rfl) fun C w g root hroot => ?_
  by_cases h9 : kd = 9
  · subst h9
    have hc : stmW p (runW p n) W a ⟨9, x, sa, sb⟩ = W := by simp [stmW]
    have fx :=  hT
    refine k_run ?_
    repeat ((first | refine wSc (id := 9) qsPf0 mixed ?_); refine k_rund ?_; refine k_run ?_)
    clear fx
    rw [hc]
    refine e_ret [] .nil (by simp; rfl) (have ow := hO; OwnW.re ow)
  by_cases h10 : kd = 10
  · subst h10
    have hc : stmW p (runW p n) W a ⟨10, x, sa, sb⟩ = W := by simp [stmW]
    have fx :=  hT
    refine k_run ?_
    repeat ((first | refine wSc (id := 9) qsPf0 mixed ?_); refine k_rund ?_; refine k_run ?_)
    clear fx
    rw [hc]
    refine e_ret [] .nil (by simp; rfl) (have ow := hO; OwnW.re ow)
  have hb9 : (kd == 9) = false := by simpa using h9
  have hb10 : (kd == 10) = false := by simpa using h10
  by_cases h11 : kd = 11
  · subst h11
    have hc : stmW p (runW p n) W a ⟨11, x, sa, sb⟩ = takeW p W a x := by simp [stmW]
    have fx :=  hT
    refine k_run ?_
    repeat ((first | refine wSc (id := 9) qsPf0 mixed ?_); refine k_rund ?_; refine k_run ?_)
    clear fx
    intro K hK
    have fx := hT
    refine x_mut Wn rfl (by simp [hT]) (hF := take_fn _ _ p W a x hP.sh hw ha (by omega) (have ow := hO; OwnW.re ow)) (h := ?_)
    rintro y H1 hO1
    clear fx
    have hT1 := hO1.top
    simp only [wRow] at hT1
    have fx := And.intro hT <| hT1
    refine k_run ?_
    repeat ((first | refine wSc (id := 9) qsPf0 mixed ?_); refine k_rund ?_; refine k_run ?_)
    clear fx
    rw [hc]
    refine e_ret [] .nil (by simp; rfl) (have ow := hO1; OwnW.re ow)
  have hb11 : (kd == 11) = false := by simpa using h11
  have hc : stmW p (runW p n) W a ⟨kd, x, sa, sb⟩ = if (valueW p (runW p n) W a ⟨kd, x, sa, sb⟩).1.en ≠ 0 then (valueW p (runW p n) W a ⟨kd, x, sa, sb⟩).1
      else if kd = 7 then { (valueW p (runW p n) W a ⟨kd, x, sa, sb⟩).1 with out := (valueW p (runW p n) W a ⟨kd, x, sa, sb⟩).1.out ++ [Hm.shown (valueW p (runW p n) W a ⟨kd, x, sa, sb⟩).2] }
      else storeW p (valueW p (runW p n) W a ⟨kd, x, sa, sb⟩).1 a x (valueW p (runW p n) W a ⟨kd, x, sa, sb⟩).2 := by
    simp only [stmW]
    rw [if_neg (by omega), if_neg h11]
  have fx := And.intro hT <| And.intro hb9 <| And.intro hb10 <| hb11
  refine k_run ?_
  repeat ((first | refine wSc (id := 9) qsPf0 mixed ?_); refine k_rund ?_; refine k_run ?_)
  clear fx
  intro K hK
  have fx := hT
  refine x_mut Wn rfl (by simp [hT]) (hF := hvl _ W a k ⟨kd, x, sa, sb⟩ hP hw hn h0 ha hk hs ⟨by simp only; omega, by simp only; omega⟩ hr (have ow := hO; OwnW.re ow) (by simp)) (h := ?_)
  rintro y H1 ⟨rfl, hO1⟩
  clear fx
  obtain ⟨hA, hvok⟩ := valueW_ok (runW_ok hP.sh n) hw hn h0 ha hst hr
  generalize valueW p (runW p n) W a ⟨kd, x, sa, sb⟩ = q at hO1 hA hvok hc
  obtain ⟨V, v⟩ := q
  simp only at hO1 hA hvok hc
  have hT1 := hO1.top
  simp only [wRow] at hT1
  have haV : a < V.acts.length := Nat.lt_of_lt_of_le ha hA.grow.lacts
  by_cases hen : V.en = 0
  case neg =>
    rw [if_pos hen] at hc
    have henb : (V.en == 0) = false := by simpa using hen
    have fx := And.intro hT <| And.intro hT1 <| And.intro henb <| @bne_def
    refine k_run ?_
    repeat ((first | refine wSc (id := 9) qsPf0 mixed ?_); refine k_rund ?_; refine k_run ?_)
    clear fx
    rw [hc]
    refine e_ret [] .nil (by simp; rfl) (have ow := hO1; OwnW.re ow)
  rw [if_neg (by simpa using hen)] at hc
  have henb : (V.en == 0) = true := by simpa using hen
  by_cases h7 : kd = 7
  · subst h7
    rw [if_pos rfl] at hc
    have hU := hO1.out
    have hol := hA.ok.nout
    have hol' : V.out.length ≤ 1000 := by omega
    have hap : irows V.out ++ [[iv (Hm.shown v)]] = irows (V.out ++ [Hm.shown v]) := by simp [irows]
    have hsh := spec_shown_fn gl v
    obtain ⟨v1, v2⟩ := v
    have fx := And.intro hT <| And.intro hT1 <| And.intro henb <| And.intro hU <| And.intro hol' <| @bne_def
    have c1 := hsh
    refine k_run ?_
    repeat ((first | refine wSc (id := 9) qsPf0 mixed ?_); refine k_rund ?_; refine k_run ?_)
    clear fx c1
    rw [hc]
    refine e_ret [] .nil (by simp; rfl) (OwnW.fin ⟨by simp [wRow, hT1], by simp [hO1.acts], fun i b hb => by simp [hO1.act i b hb], hO1.stk.imp fun l hl => by simp [hl], by simp [hO1.glob], by simp [hO1.funs], by simp [hO1.clss], fun i c hc => by simp [hO1.cls i c hc], ?_, by simp [hO1.trc]⟩)
    simp
  · rw [if_neg h7] at hc
    have hb7 : (kd == 7) = false := by simpa using h7
    have hst2 := store_fn gl (p := p) (W := V) (a := a) (x := x) (v := v)
    obtain ⟨v1, v2⟩ := v
    have fx := And.intro hT <| And.intro hT1 <| And.intro henb <| And.intro hb7 <| @bne_def
    refine k_run ?_
    repeat ((first | refine wSc (id := 9) qsPf0 mixed ?_); refine k_rund ?_; refine k_run ?_)
    clear fx
    intro K hK
    have fx := And.intro hT hT1
    refine x_mut Wn rfl (by simp [hT1]) (hF := hst2 _ hP.sh hA.ok haV (by omega) (have ow := hO1; OwnW.re ow)) (h := ?_)
    rintro y H2 hO2
    clear fx
    have hT2 := hO2.top
    simp only [wRow] at hT2
    have fx := And.intro hT <| And.intro hT1 <| hT2
    refine k_run ?_
    repeat ((first | refine wSc (id := 9) qsPf0 mixed ?_); refine k_rund ?_; refine k_run ?_)
    clear fx
    rw [hc]
    refine e_norm [] .nil (by simp; rfl) (have ow := hO2; OwnW.re ow)
end Go.Proofs.YtmaoicgfcngciaaGreatDoor
end
section
namespace Go.Proofs.YtmaoicgfcngciaaGreatDoor
open Go Go.Hm Go.Proofs
abbrev qsPg0 : Sch := .q 0 <| .q 1 <| .q 2 <| .q 3 <| .q 4 <| .q 5 <| .q 6 <| .q 7 <| .q 8 <| .q 9 <| .q 10 <| .q 11 <| .q 12 <| .q 13 <| .q 14 <| .q 15 <| .l 16 [] <| .done
abbrev qsPg1 : Sch := .q 0 <| .q 1 <| .q 2 <| .q 3 <| .q 4 <| .q 5 <| .q 6 <| .q 7 <| .q 8 <| .q 9 <| .q 10 <| .q 11 <| .q 12 <| .q 13 <| .q 14 <| .l 15 [13, 12, 11, 10, 9, 8, 7, 6, 5, 4, 3, 2, 1, 0] <| .l 16 [13, 12, 11, 10, 9, 8, 7, 6, 5, 3, 2, 1, 0] <| .q 17 <| .q 18 <| .l 19 [17] <| .done
theorem runBlock_step (gl) (p : Prg) (n : Nat) (hR : RBok gl p n) (hP : ValP p) : RBok gl p (n + 1) := by
  intro H W a hO hw hn ha h0 hV
  show FnE Tryz.prog gl 120 (Nm.under Wn) [.pt Wn 0, iv a] H _ noE
  obtain ⟨c, hc⟩ : ∃ c, W.acts[a]? = some c := ⟨_, gE ha⟩
  obtain ⟨_, hcE⟩ := gS hc
  have hbl := hw.blks a c hc
  obtain ⟨k, hk⟩ : ∃ k, p[c.blk]? = some k := ⟨_, gE hbl⟩
  obtain ⟨_, hkE⟩ := gS hk
  have hbk := blk_at hc
  have hT := hO.top
  have hA := hO.acts
  simp only [wRow] at hT
  have hb12 := hP.sh.body k (List.mem_of_getElem? hk)
  have hrun : runW p (n + 1) W a = bodyW p (runW p n) a W 0 k.body := by simp only [runW, hbk, hk]
  refine FnE.of_sem Tryz.func120 rfl (by kernel_rfl) (rs := [.cell 4 171]) rfl Tryz.ntmps120 (Nat.le_of_ble_eq_true rfl) (fun _ => under_usroot rfl) fun C w g root hroot => ?_
  have fx := And.intro hT <| And.intro hA <| And.intro hc <| And.intro hcE <| And.intro ha <| And.intro hk <| And.intro hkE <| hbl
  refine k_run ?_
  repeat ((first | refine wSc (id := 1) qsPg0 mixed ?_ | refine wSc (id := 9) qsPg1 mixed ?_); refine k_rund ?_; refine k_run ?_)
  clear fx
  refine w_loop (fun m st => ∃ (i : Nat) (V : Wld), m = k.body.length - i ∧ i ≤ k.body.length ∧ runW p (n + 1) W a = bodyW p (runW p n) a V i (k.body.drop i) ∧ WOk p V ∧ V.left < n + 1 ∧ a < V.acts.length ∧ V.en = 0 ∧ V.blk a = c.blk ∧ st.tm 0 = .pt Wn 0 ∧ st.tm 1 = iv a ∧ st.tm 4 = .pt (.s 4) 0 ∧ st.hp (.s 4) = some (.row 2 [[iv 0, iv 0]]) ∧ st.tm 5 = ssl k.body ∧ st.tm 6 = iv i ∧ OwnW st.hp p V) k.body.length ?_ ?_
  · exact ⟨0, W, by omega, by omega, by simpa using hrun, hw, hn, ha, h0, hbk, by simp, by simp, by simp, by simp, by simp, by simp, (have ow := hO; OwnW.re ow)⟩
  clear hT hA hO
  rintro m st - - ⟨i, V, rfl, hi, hres, hw', hn', ha', h0', hbV, t0, t1, t4, hp4, t5, t6, hO⟩
  clear hrun h0 hn hw hc hcE ha
  obtain ⟨d, hd⟩ : ∃ d, V.acts[a]? = some d := ⟨_, gE ha'⟩
  obtain ⟨_, hdE⟩ := gS hd
  have hdb : d.blk = c.blk := by rw [← blk_at hd]; exact hbV
  have hT := hO.top
  have hA := hO.acts
  simp only [wRow] at hT
  by_cases hil : i < k.body.length
  case neg =>
    have hge : i = k.body.length := by omega
    rw [hge, List.drop_length] at hres
    simp only [bodyW] at hres
    have fx := And.intro t0 <| And.intro t1 <| And.intro t4 <| And.intro hp4 <| And.intro t5 <| And.intro t6 <| hil
    refine k_run ?_
    repeat ((first | refine wSc (id := 1) qsPg0 mixed ?_ | refine wSc (id := 9) qsPg1 mixed ?_); refine k_rund ?_; refine k_run ?_)
    clear fx
    rw [hres]
    refine e_ret [] .nil (by simp [t4]; rfl) ⟨by simp, (have ow := hO; OwnW.re ow)⟩
  obtain ⟨s, hs⟩ : ∃ s, k.body[i]? = some s := ⟨_, gE hil⟩
  obtain ⟨_, hsE⟩ := gS hs
  have hsm := List.mem_of_getElem? hs
  have hdr : k.body.drop i = s :: k.body.drop (i + 1) := by rw [List.drop_eq_getElem_cons hil, hsE]
  rw [hdr] at hres
  by_cases hl : V.left = 0
  · have hr2 : bodyW p (runW p n) a V i (s :: k.body.drop (i + 1)) = ({ V with en := 1 }, (0, 0)) := by simp only [bodyW, hl, if_true]
    rw [hr2] at hres
    have fx := And.intro t0 <| And.intro t1 <| And.intro t4 <| And.intro hp4 <| And.intro t5 <| And.intro t6 <| And.intro hil <| And.intro hT <| hl
    refine k_run ?_
    repeat ((first | refine wSc (id := 1) qsPg0 mixed ?_ | refine wSc (id := 9) qsPg1 mixed ?_); refine k_rund ?_; refine k_run ?_)
    clear fx
    rw [hres]
    refine e_ret [] .nil (by simp [t4]; rfl) ⟨by simp, ⟨by simp [hO.top, wRow, hT, hl], by simp [hO.acts, hT, hl], fun i a ha => by simp [hO.act i a ha, hT, hl], hO.stk.imp fun l hl => by simp [hl, hT, hl], by simp [hO.glob, hT, hl], by simp [hO.funs, hT, hl], by simp [hO.clss, hT, hl], fun i c hc => by simp [hO.cls i c hc, hT, hl], by simp [hO.out, hT, hl], by simp [hO.trc, hT, hl]⟩⟩
  obtain ⟨l, hll⟩ : ∃ l, V.left = l + 1 := ⟨V.left - 1, by omega⟩
  have hr2 : bodyW p (runW p n) a V i (s :: k.body.drop (i + 1)) = if s.kind = 8 then loadW p (tickW V a i) a s.a else if (stmW p (runW p n) (tickW V a i) a s).en ≠ 0 then (stmW p (runW p n) (tickW V a i) a s, (0, 0)) else bodyW p (runW p n) a (stmW p (runW p n) (tickW V a i) a s) (i + 1) (k.body.drop (i + 1)) := by
    simp only [bodyW, hl, if_false]
  rw [hr2] at hres
  clear hr2
  obtain ⟨tk1, tk2⟩ := tickW_ok (a := a) (i := i) hw' hl
  have hTt : tickW V a i = { V with left := l, trace := V.trace ++ [(d.blk, i)] } := by simp only [tickW, blk_at hd]; rw [hll]; rfl
  have hbV2 : (tickW V a i).blk a = d.blk := by rw [show (tickW V a i).blk a = V.blk a from rfl, blk_at hd]
  have hleft : (tickW V a i).left < n := by simp only [tickW]; omega
  have hTr := hO.trc
  have hnt := hw'.ntr
  have hnl := hw'.nacts
  have htl' : V.trace.length ≤ 1000 := by omega
  have hl8 : l ≤ 1000 := by omega
  have hlb : ((l : Int) + 1 == 0) = false := by rw [beq_eq_false_iff_ne]; omega
  have hwl : IntKind.i64.wrap (l : Int) = l := wrp (by omega) (by omega)
  have hap : nrows V.trace ++ [[iv d.blk, iv i]] = nrows (V.trace ++ [(d.blk, i)]) := nrows_app1
  by_cases h8 : s.kind = 8
  · rw [if_pos h8] at hres
    have hb8 : (s.kind == 8) = true := by simpa using h8
    have hrs := (hP.sh.names k (List.mem_of_getElem? hk)).reads s hsm s.a (by simp [Stm.reads, h8])
    obtain ⟨x, hx⟩ : ∃ x : Nat, s.a = x := ⟨s.a.toNat, by omega⟩
    rw [hx] at hres
    have fx := And.intro t0 <| And.intro t1 <| And.intro t4 <| And.intro hp4 <| And.intro t5 <| And.intro t6 <| And.intro hil <| And.intro hT <| And.intro hll <| And.intro hlb <| And.intro hwl <| And.intro hTr <| And.intro htl' <| And.intro hA <| And.intro hd <| And.intro hdE <| And.intro ha' <| And.intro hs <| And.intro hsE <| And.intro hb8 <| hx
    refine k_run ?_
    repeat ((first | refine wSc (id := 1) qsPg0 mixed ?_ | refine wSc (id := 9) qsPg1 mixed ?_); refine k_rund ?_; refine k_run ?_)
    clear fx
    intro K hK
    have fx := And.intro t0 (And.intro t1 hT)
    refine x_mut Wn rfl (by simp [hT]) (hF := load_fn _ _ p (tickW V a i) a x hP.sh tk1 ha' (by omega) (by rw [hTt]; exact ⟨by simp [wRow, hT], by simp [hO.acts], fun j b hb => by simp [hO.act j b hb], hO.stk.imp fun l hl => by simp [hl], by simp [hO.glob], by simp [hO.funs], by simp [hO.clss], fun j b hb => by simp [hO.cls j b hb], by simp [hO.out], by simp [← hap]⟩)) (h := ?_)
    rintro y H1 ⟨rfl, hO1⟩
    clear fx
    generalize loadW p (tickW V a i) a x = q at hO1 hres
    obtain ⟨U, v1, v2⟩ := q
    have hT1 := hO1.top
    simp only [wRow] at hT1
    have fx := And.intro t0 <| And.intro t1 <| And.intro t4 <| And.intro hp4 <| And.intro t5 <| And.intro t6 <| And.intro hT <| hT1
    refine k_run ?_
    repeat ((first | refine wSc (id := 1) qsPg0 mixed ?_ | refine wSc (id := 9) qsPg1 mixed ?_); refine k_rund ?_; refine k_run ?_)
    clear fx
    rw [hres]
    refine e_ret [] .nil (by simp [t4]; rfl) ⟨by simp, (have ow := hO1; OwnW.re ow)⟩
  · rw [if_neg h8] at hres
    have hb8 : (s.kind == 8) = false := by simpa using h8
    have hk' : p[(tickW V a i).blk a]? = some k := by rw [hbV2, hdb]; exact hk
    have hst := hP.sh.stm _ k hk s hsm
    have hSo := stmW_ok (s := s) (k := k) (runW_ok hP.sh n) tk1 hleft h0' ha' (by rw [hbV2, hdb]; exact hst) tk2
    have fx := And.intro t0 <| And.intro t1 <| And.intro t4 <| And.intro hp4 <| And.intro t5 <| And.intro t6 <| And.intro hil <| And.intro hT <| And.intro hll <| And.intro hlb <| And.intro hwl <| And.intro hTr <| And.intro htl' <| And.intro hA <| And.intro hd <| And.intro hdE <| And.intro ha' <| And.intro hs <| And.intro hsE <| hb8
    refine k_run ?_
    repeat ((first | refine wSc (id := 1) qsPg0 mixed ?_ | refine wSc (id := 9) qsPg1 mixed ?_); refine k_rund ?_; refine k_run ?_)
    clear fx
    intro K hK
    have fx := And.intro t0 (And.intro t1 hT)
    refine x_mut Wn rfl (by simp [hT]) (hF := runStmt_fn gl p n hR _ (tickW V a i) a k s hP tk1 hleft h0' ha' hk' hsm h8 tk2 (by rw [hTt]; exact ⟨by simp [wRow, hT], by simp [hO.acts], fun j b hb => by simp [hO.act j b hb], hO.stk.imp fun l hl => by simp [hl], by simp [hO.glob], by simp [hO.funs], by simp [hO.clss], fun j b hb => by simp [hO.cls j b hb], by simp [hO.out], by simp [← hap]⟩) (by simp)) (h := ?_)
    rintro y H1 hO1
    clear fx
    have hAf := hSo.tick hl
    generalize stmW p (runW p n) (tickW V a i) a s = U at hO1 hAf hres hSo
    have hT1 := hO1.top
    simp only [wRow] at hT1
    by_cases hen : U.en = 0
    · rw [if_neg (by simpa using hen)] at hres
      have henb : (U.en == 0) = true := by simpa using hen
      have fx := And.intro t0 <| And.intro t1 <| And.intro t4 <| And.intro hp4 <| And.intro t5 <| And.intro t6 <| And.intro hT <| And.intro hT1 <| And.intro henb <| @bne_def
      refine k_run ?_
      repeat ((first | refine wSc (id := 1) qsPg0 mixed ?_ | refine wSc (id := 9) qsPg1 mixed ?_); refine k_rund ?_; refine k_run ?_)
      clear fx
      exact ⟨k.body.length - (i + 1), by omega, i + 1, U, rfl, by omega, hres, hAf.ok, by have := hAf.grow.left; omega, Nat.lt_of_lt_of_le ha' hAf.grow.lacts, hen, by rw [hAf.grow.blk hd]; exact hbV, by simp [t0, hT], by simp [t1], by simp [t4], by simp [hp4], by simp [t5], by simp [t6]; exact wrp (by omega) (by omega), (have ow := hO1; OwnW.re ow)⟩
    · rw [if_pos (by simpa using hen)] at hres
      have henb : (U.en == 0) = false := by simpa using hen
      have fx := And.intro t0 <| And.intro t1 <| And.intro t4 <| And.intro hp4 <| And.intro t5 <| And.intro t6 <| And.intro hT <| And.intro hT1 <| And.intro henb <| @bne_def
      refine k_run ?_
      repeat ((first | refine wSc (id := 1) qsPg0 mixed ?_ | refine wSc (id := 9) qsPg1 mixed ?_); refine k_rund ?_; refine k_run ?_)
      clear fx
      rw [hres]
      refine e_ret [] .nil (by simp [t4]; rfl) ⟨by simp, (have ow := hO1; OwnW.re ow)⟩
theorem runBlock_fn (gl) (p : Prg) (hP : ValP p) : ∀ n, RBok gl p n
  | 0 => fun H W a _ _ h => absurd h (by omega)
  | n + 1 => runBlock_step gl p n (runBlock_fn gl p hP n) hP
abbrev qsPh0 : Sch := .q 0 <| .q 2 <| .l 1 [2, 0] <| .q 3 <| .l 4 [2, 0] <| .l 5 [] <| .done
theorem meant_fn (gl) (H : Nm → Option AO) (p : Prg) (f : Nat) (hP : ValP p) (hf : f ≤ 150) (h1 : H (.u 1 0 0) = none) :
    FnE Tryz.prog gl 65 (Nm.under Wn) [pav p, iv f] H (fun _ y H' => y = .pt Wn 0 ∧ OwnW H' p (meantW p f)) noE := by
  have hw := startW_ok hP.sh hf
  refine FnE.of_sem Tryz.func65 rfl (by kernel_rfl) (rs := [.tmp 4]) rfl Tryz.ntmps65 (Nat.le_of_ble_eq_true rfl) (fun _ => under_usroot rfl) fun C w g root hroot => ?_
  have fx := fx0
  have d1 := emptySlots_fn gl
  refine k_run ?_
  repeat ((first | refine wSc (id := 1) qsPh0 mixed ?_); refine k_rund ?_; refine k_run ?_)
  clear fx d1
  intro K hK
  refine o_mv (.s 5) (.u 1 0 0) (.inl rfl) (.inr (by simp [ctx0, h1])) ?_
  have fx := fx0
  refine x_mut Wn rfl (by simp) (hF := runBlock_fn gl p hP 151 _ (startW f) 0 ?_ hw (by simp only [startW]; omega) (by simp [startW]) rfl (by simp)) (h := ?_)
  · have e1 : irows (nints [0] ++ []) = [[iv 0]] := rfl
    have hsl : slrows noSlots = slrows (startW f).globals := rfl
    refine ⟨by simp [wRow, startW], by simp [startW, actRows, outI], fun i a ha => ?_, ⟨[], by simp [startW, nints, irows]⟩, by simp [startW], by simp [startW, funRows], by simp [startW, clsRows], fun i c hc => by simp [startW] at hc, by simp [startW], by simp [startW]⟩
    have hi : i = 0 := by
      have := (gS ha).1
      simp [startW] at this
      omega
    subst hi
    have ha' : a = ⟨0, 0, noSlots⟩ := by simpa [startW] using ha.symm
    subst ha'
    simp
  rintro y H1 ⟨rfl, hO1⟩
  clear fx
  have hT1 := hO1.top
  simp only [wRow] at hT1
  have hme : (runW p 151 (startW f) 0).1 = meantW p f := rfl
  rw [hme] at hO1 hT1
  have fx :=  hT1
  refine k_run ?_
  repeat ((first | refine wSc (id := 1) qsPh0 mixed ?_); refine k_rund ?_; refine k_run ?_)
  clear fx
  refine e_ret [] .nil (by simp; rfl) ⟨by simp, (have ow := hO1; OwnW.re ow)⟩
end Go.Proofs.YtmaoicgfcngciaaGreatDoor
end
section
namespace Go.Proofs.YtmaoicgfcngciaaGreatDoor
open Go Go.Hm Go.Proofs
abbrev qsXg0 : Sch := .q 0 <| .q 2 <| .q 3 <| .q 4 <| .q 5 <| .l 1 [5, 4, 3, 2, 0] <| .q 6 <| .q 7 <| .q 8 <| .q 9 <| .l 10 [] <| .done
theorem endWords_fn (gl) : FnOk Tryz.prog gl 66 [] (fun r y H' => y = .hs r 1 0 endTx.length ∧ H' r = some (.row 1 (xrows endTx))) := by
  refine FnOk.of_sem Tryz.func66 rfl (by kernel_rfl) (rs := [.tmp 0]) rfl Tryz.ntmps66 (Nat.le_of_ble_eq_true rfl) fun C w g root => ?_
  have fx := fx0
  refine k_run ?_
  clear fx
  exact e_list (t := 0) (by first | (simp []; done) | (simp []; rfl)) (by first | (simp []; done) | (simp []; rfl)) (by simp)
theorem endWords_sl (gl) : FnOk Tryz.prog gl 66 [] (fun _ y _ => y = xsl endTx) :=
  (endWords_fn gl).settle fun r y H' h => ⟨xsl endTx, by rw [h.1]; exact bw_list h.2 (by simp) xrows_uni, rfl⟩
theorem numI_lenI {x : Int} (h : -3 ≤ x ∧ x ≤ 1000) : (numI x).length ≤ 1002 := by
  have := numN_len x.natAbs
  unfold numI
  split
  · simp only [List.length_cons]; omega
  · omega
theorem lines_lenI {l : List Int} (h : ∀ x ∈ l, -3 ≤ x ∧ x ≤ 1000) : (linesL 10 (l.map numI)).length ≤ 1003 * l.length := by
  induction l with
  | nil => simp [linesL]
  | cons x l ih =>
    have h1 := ih fun y hy => h y (by simp [hy])
    have h2 := numI_lenI (h x (by simp))
    rw [List.map_cons, linesL_cons]
    simp only [List.length_append, List.length_cons] at h1 ⊢
    omega
theorem lines_next {l : List Int} {i : Nat} {x : Int} (h : l[i]? = some x) : linesL 10 ((l.take (i + 1)).map numI) = linesL 10 ((l.take i).map numI) ++ (numI x ++ [10]) := by
  rw [List.take_add_one, h, List.map_append]
  exact linesL_snoc
theorem runText_ok {s : Txt} {n : Nat} (h : n ≤ 150) : runText s (n : Int) = match parseT s with
    | some p => linesL 10 (runLines p n)
    | none => linesL 10 [tWrong] := by
  unfold runText
  rw [if_pos ⟨by omega, by omega⟩]
  rfl
theorem runText_no {s : Txt} {f : Int} (h : (decide (0 ≤ f) && decide (f ≤ 150)) = false) : runText s f = [] := by
  unfold runText
  rw [if_neg]
  rintro ⟨h1, h2⟩
  simp [h1, h2] at h
theorem parse_sl (gl) (s : Txt) (q : Prg) (hs : s.length ≤ 1048576) (hq : parseT s = some q) : FnOk Tryz.prog gl 31 [tx s] (fun _ y _ => y = .tup [pav q, bv true]) :=
  (spec_parse_fn gl s hs).settle fun r y H' ⟨p, h1, h2, h3⟩ => ⟨.tup [pav q, bv true], by rw [h1, hq, ← h3 q hq]; exact bw_progB h2, rfl⟩
theorem spec_RunText_fn (gl) (s : Txt) (f : Int) (hs : s.length ≤ 1048576) : FnOk Tryz.prog gl 29 [tx s, iv f] (fun _ y _ => y = tx (runText s f)) := by
  refine FnOk.of_sem Tryz.func29 rfl (by kernel_rfl) (rs := [.tmp 4]) rfl Tryz.ntmps29 (Nat.le_of_ble_eq_true rfl) fun C w g root => ?_
  cases hr : (decide (0 ≤ f) && decide (f ≤ 150))
  · rw [runText_no hr]
    have fx :=  hr
    have c1 := hr ▸ inRange_fn gl f 0 150
    refine k_run ?_
    repeat ((first | refine wSc (id := 12) qsXg0 mixed ?_); refine k_rund ?_; refine k_run ?_)
    clear fx c1
    refine e_ret [] .nil (by simp; rfl) (by simp)
  obtain ⟨h0, h1⟩ : 0 ≤ f ∧ f ≤ 150 := by simpa using hr
  obtain ⟨n, rfl⟩ : ∃ n : Nat, f = n := ⟨f.toNat, by omega⟩
  have hn : n ≤ 150 := by omega
  rw [runText_ok hn]
  cases hp : parseT s with
  | none =>
    have hpa := spec_parse_fn gl s hs
    rw [hp] at hpa
    have fx :=  hr
    have c1 := hr ▸ inRange_fn gl n 0 150
    have e1 := hpa
    refine k_run ?_
    repeat ((first | refine wSc (id := 12) qsXg0 mixed ?_); refine k_rund ?_; refine k_run ?_)
    clear fx c1 e1
    rintro K hK y H1 ⟨p, rfl, hO, _⟩
    obtain ⟨ho1, ho2, ho3⟩ := hO.hcln
    refine ⟨by simp, ?_⟩
    have fx :=  ho1
    refine k_run ?_
    repeat ((first | refine wSc (id := 12) qsXg0 mixed ?_); refine k_rund ?_; refine k_run ?_)
    clear fx
    refine e_ret [] .nil (by simp; rfl) (by simp [linesL, tWrong])
  | some q =>
    have hpa := parse_sl gl s q hs hp
    have hpo : progOk q = true := (write_back hp).2.1
    have hP := ValP.of (progOk_sml hpo) hpo
    have hm := meantOk hP.sh hn
    have hol := hm.ok.nout
    have hor := hm.ok.outr
    have her := hm.ok.enr
    have hmf := fun gl H (h1 : H (.u 1 0 0) = none) => meant_fn gl H q n hP hn h1
    have hrl : runLines q n = (meantW q n).out.map numI ++ [endTx.getD (meantW q n).en.toNat []] := rfl
    simp only [hrl]
    clear hrl hm
    generalize meantW q n = W at hol hor her hmf ⊢
    obtain ⟨e, hen⟩ : ∃ e : Nat, W.en = e := ⟨W.en.toNat, by omega⟩
    have he8 : e < 8 := by omega
    have he8l : e < endTx.length := he8
    obtain ⟨u, hu⟩ : ∃ u, endTx[e]? = some u := ⟨_, gE he8l⟩
    obtain ⟨_, huE⟩ := gS hu
    have hug : endTx.getD W.en.toNat [] = u := by rw [hen]; simp [List.getD_eq_getElem?_getD, hu]
    have hul : u.length ≤ 10 := by
      have : ∀ w ∈ endTx, w.length ≤ 10 := by decide
      exact this u (List.mem_of_getElem? hu)
    rw [hug, linesL_snoc]
    have fx :=  hr
    have c1 := hr ▸ inRange_fn gl n 0 150
    have p1 := hpa
    refine k_runp ?_
    repeat ((first | refine wSc (id := 12) qsXg0 mixed ?_); refine k_rundp ?_; refine k_runp ?_)
    clear fx c1 p1
    intro K hK
    have fx := fx0
    refine x_mut Wn rfl (by simp [ctx0, noH]) (hF := hmf gl _ (by simp)) (h := ?_)
    rintro y H2 ⟨rfl, hO⟩
    clear fx
    have hT := hO.top
    simp only [wRow] at hT
    have fx :=  hT
    refine k_run ?_
    repeat ((first | refine wSc (id := 12) qsXg0 mixed ?_); refine k_rund ?_; refine k_run ?_)
    clear fx
    refine w_loop (fun n st => ∃ i : Nat, n = W.out.length - i ∧ i ≤ W.out.length ∧ st.tm 7 = .pt Wn 0 ∧ st.tm 8 = tx (linesL 10 ((W.out.take i).map numI)) ∧ st.tm 9 = iv i ∧ OwnW st.hp q W) W.out.length ?_ ?_
    · exact ⟨0, by omega, by omega, by simp [hT], by simp [linesL], by simp, (have ow := hO; OwnW.re ow)⟩
    clear hO hT
    rintro n st - - ⟨i, rfl, hi, h7, h8, h9, hO⟩
    have hT := hO.top
    have hU := hO.out
    simp only [wRow] at hT
    have hLl : (linesL 10 ((W.out.take i).map numI)).length ≤ 1003000 := by
      have := lines_lenI (l := W.out.take i) fun x hx => hor x (List.mem_of_mem_take hx)
      rw [List.length_take] at this
      omega
    by_cases hil : i < W.out.length
    · obtain ⟨x, hx⟩ : ∃ x, W.out[i]? = some x := ⟨_, gE hil⟩
      obtain ⟨_, hxE⟩ := gS hx
      have hxr := hor x (List.mem_of_getElem? hx)
      have hxl := numI_lenI hxr
      have hnext := lines_next hx
      have hw1 : IntKind.i64.wrap ((i : Int) + 1) = (i : Int) + 1 := wrp (by omega) (by omega)
      generalize linesL 10 ((W.out.take i).map numI) = L at h8 hLl hnext
      have hl1 : ∀ c, 2000000000 ≤ c → L.length + (numI x).length ≤ c := fun c hc => by omega
      have hl2 : ∀ c, 2000000000 ≤ c → L.length + (numI x).length + 1 ≤ c := fun c hc => by omega
      have hl3 : ∀ c, 2000000000 ≤ c → L.length + ((numI x).length + 1) ≤ c := fun c hc => by omega
      have fx := And.intro h7 <| And.intro h8 <| And.intro h9 <| And.intro hT <| And.intro hU <| And.intro hil <| And.intro hx <| And.intro hxE <| And.intro hw1 <| And.intro hl1 <| And.intro hl2 <| hl3
      have c1 := number_fn gl x (by omega) (by omega)
      refine k_run ?_
      repeat ((first | refine wSc (id := 12) qsXg0 mixed ?_); refine k_rund ?_; refine k_run ?_)
      clear fx c1
      exact ⟨W.out.length - (i + 1), by omega, i + 1, rfl, by omega, by simp [h7, hT], by rw [hnext]; simp, by simp [hw1], (have ow := hO; OwnW.re ow)⟩
    · have hge : i = W.out.length := by omega
      subst hge
      rw [List.take_length] at h8 hLl
      generalize linesL 10 (W.out.map numI) = L at h8 hLl ⊢
      have hl1 : ∀ c, 2000000000 ≤ c → L.length + u.length ≤ c := fun c hc => by omega
      have hl2 : ∀ c, 2000000000 ≤ c → L.length + u.length + 1 ≤ c := fun c hc => by omega
      have hl3 : ∀ c, 2000000000 ≤ c → L.length + (u.length + 1) ≤ c := fun c hc => by omega
      have fx := And.intro h7 <| And.intro h8 <| And.intro h9 <| And.intro hT <| And.intro hil <| And.intro hen <| And.intro hu <| And.intro huE <| And.intro he8l <| And.intro hl1 <| And.intro hl2 <| hl3
      have p1 := endWords_sl gl
      refine k_runp ?_
      repeat ((first | refine wSc (id := 12) qsXg0 mixed ?_); refine k_rundp ?_; refine k_runp ?_)
      clear fx p1
      refine e_ret [] .nil (by simp; rfl) (by simp)
abbrev qsQa0 : Sch := .q 0 <| .q 1 <| .q 2 <| .q 3 <| .q 4 <| .q 5 <| .q 6 <| .q 7 <| .q 8 <| .q 9 <| .q 10 <| .l 11 [8, 7, 6, 5, 4, 3, 2, 1, 0] <| .l 12 [] <| .done
theorem impl_ShownOf_fn (gl) (v : Val) : FnOk Tryz.prog gl 122 [Val.av v] (fun _ y _ => y = iv (Hm.shown v)) := by
  refine FnOk.of_sem Tryz.func122 rfl (by kernel_rfl) (rs := [.tmp 2]) rfl Tryz.ntmps122 (Nat.le_of_ble_eq_true rfl) fun C w g root => ?_
  by_cases h1 : v.1 = 1
  · skip
    have fx :=  h1
    refine k_run ?_
    clear fx
    refine e_ret [] .nil (by simp; rfl) (by simp [Hm.shown, h1])
  by_cases h2 : v.1 = 2
  · skip
    have fx := And.intro h1 <| h2
    refine k_run ?_
    clear fx
    refine e_ret [] .nil (by simp; rfl) (by simp [Hm.shown, h1, h2])
  by_cases h3 : v.1 = 3
  · skip
    have fx := And.intro h1 <| And.intro h2 <| h3
    refine k_run ?_
    clear fx
    refine e_ret [] .nil (by simp; rfl) (by simp [Hm.shown, h1, h2, h3])
  · skip
    have fx := And.intro h1 <| And.intro h2 <| h3
    refine k_run ?_
    clear fx
    refine e_ret [] .nil (by simp; rfl) (by simp [Hm.shown, h1, h2, h3])
theorem stop_fn (gl) (H : Nm → Option AO) (F : Nat) (p : Prg) (W : Wld) (e : Int) (hO : OwnM H F p W) :
    FnE Tryz.prog gl 166 DM [.pt Mn 0, iv e] H (fun _ y H' => y = bv false ∧ OwnM H' F p { W with en := e }) noE := by
  have hT := hO.top
  simp only [mRow] at hT
  refine FnE.of_sem Tryz.func166 rfl (by kernel_rfl) (rs := [.tmp 4]) rfl Tryz.ntmps166 (Nat.le_of_ble_eq_true rfl) (fun _ => DM_root) fun C w g root hroot => ?_
  have fx :=  hT
  refine k_run ?_
  clear fx
  refine e_ret [] .nil (by simp; rfl) ⟨by simp, OwnM.fin ⟨by simp [hO.top, mRow, hT], ⟨by simp [hO.scs.top, hT], fun j k hj hk => by simp [hO.scs.sc j k hj hk, hT]⟩, by simp [hO.out, hT], by simp [hO.trc, hT], hO.run.imp fun l hl => ⟨hl.1, by simp [hl.2, hT]⟩, by simp [hO.funs, hT], fun k g hg => by simp [hO.bx k g hg, hT], by simp [hO.clss, hT], fun k c hc => (hO.cls k c hc).imp fun ms hm => ⟨by simp [hm.1, hT], hm.2⟩, fun i a ha => by simp [hO.env i a ha, hT], fun i hi => (hO.nms i hi).imp fun ms hm => ⟨by simp [hm.1, hT], hm.2⟩, fun k i j hk hn => if e : k = 1 ∧ i = 0 ∧ j = 0 then .inl e else hO.only k i j hk (by simpa [hk, e] using hn)⟩⟩
theorem holderOf_fn (gl) (H : Nm → Option AO) (F : Nat) (p : Prg) (W : Wld) (a x : Nat) (hP : ShapeP p) (hw : WOk p W) (ha : a < W.acts.length) (hx : x < 8) (hO : OwnM H F p W) :
    FnE Tryz.prog gl 197 DM [.pt Mn 0, ptE a, iv x] H (fun _ y H' => y = .tup [ptE (hIdx (W.loc p a x)), iv (Hm.lack p (W.blk a) (owner p (W.blk a) x))] ∧ OwnM H' F p W) noE := by
  have hh := hP.heads
  obtain ⟨c, hc⟩ : ∃ c, W.acts[a]? = some c := ⟨_, gE ha⟩
  have hbl := hw.blks a c hc
  obtain ⟨k, hk⟩ : ∃ k, p[c.blk]? = some k := ⟨_, gE hbl⟩
  obtain ⟨_, hkE⟩ := gS hk
  have hbk := blk_at hc
  have hT := hO.top
  have hc1 := hO.scs.top
  have hc2 := hO.scs.sc
  have hE := hO.env a c hc
  simp only [mRow] at hT
  simp only [envRow] at hE
  have hsr := sRows_get (n := .c Mn 0 1) (len := p.length) (i := p.length) hbl
  rw [if_pos hbl] at hsr
  obtain ⟨_, hsE⟩ := gS hsr
  have hka : kindAt p c.blk = k.kind := by simp [kindAt, hk]
  refine FnE.of_sem Tryz.func197 rfl (by kernel_rfl) (rs := [.tmp 6, .tmp 7]) rfl Tryz.ntmps197 (Nat.le_of_ble_eq_true rfl) (fun _ => DM_root) fun C w g root hroot => ?_
  rcases loc_spec (x := (x : Int)) hh hw ha with ⟨h1, h2⟩ | ⟨o, i, d, ho, h1, h2, h3, hd, hdb, hins⟩
  · rw [hbk] at h1
    have hl : Hm.lack p (W.blk a) (owner p (W.blk a) x) = 4 := by rw [hbk, h1]; simp [Hm.lack]
    rw [hl, h2]
    have fx := And.intro hT <| And.intro hE <| And.intro hc1 <| And.intro hsr <| And.intro hsE <| And.intro hbl <| h1
    have c1 := scope_owner_fn gl p hP c.blk k hk x hx
    refine k_run ?_
    repeat ((first | refine wSc (id := 1) qsQa0 mixed ?_); refine k_rund ?_; refine k_run ?_)
    clear fx c1
    refine e_ret [] .nil (by simp; rfl) ⟨by simp [hIdx], OwnM.fin (have om := hO; OwnM.re om)⟩
  · rw [hbk] at h1
    have hon : ((o : Int) == -1) = false := by rw [beq_eq_false_iff_ne]; omega
    have hol : o < p.length := by rw [← hdb]; exact hw.blks i d hd
    rw [h2]
    by_cases hob : o = c.blk
    · have hai : i = a := by rw [h3, climb_here hc hob.symm]
      have hsame : ((c.blk : Int) == (c.blk : Int)) = true := by simp
      subst hob
      by_cases hk2 : k.kind = 2
      · have hl : Hm.lack p (W.blk a) (owner p (W.blk a) x) = 4 := by
          rw [hbk, h1]
          simp [Hm.lack, hka, hk2]
        rw [hl]
        have hkb : (k.kind == 2) = true := by simpa using hk2
        have hsc := hc2 c.blk k hbl hk
        have fx := And.intro hT <| And.intro hE <| And.intro hc1 <| And.intro hsr <| And.intro hsE <| And.intro hbl <| And.intro h1 <| And.intro hon <| And.intro hsame <| And.intro hsc <| And.intro hkb <| @bne_def
        have c1 := scope_owner_fn gl p hP c.blk k hk x hx
        refine k_run ?_
        repeat ((first | refine wSc (id := 1) qsQa0 mixed ?_); refine k_rund ?_; refine k_run ?_)
        clear fx c1
        refine e_ret [] .nil (by simp; rfl) ⟨by simp [hIdx, hai], OwnM.fin (have om := hO; OwnM.re om)⟩
      · have hl : Hm.lack p (W.blk a) (owner p (W.blk a) x) = 2 := by
          rw [hbk, h1]
          simp [Hm.lack, hka, hk2]
        rw [hl]
        have hkb : (k.kind == 2) = false := by simpa using hk2
        have hsc := hc2 c.blk k hbl hk
        have fx := And.intro hT <| And.intro hE <| And.intro hc1 <| And.intro hsr <| And.intro hsE <| And.intro hbl <| And.intro h1 <| And.intro hon <| And.intro hsame <| And.intro hsc <| And.intro hkb <| @bne_def
        have c1 := scope_owner_fn gl p hP c.blk k hk x hx
        refine k_run ?_
        repeat ((first | refine wSc (id := 1) qsQa0 mixed ?_); refine k_rund ?_; refine k_run ?_)
        clear fx c1
        refine e_ret [] .nil (by simp; rfl) ⟨by simp [hIdx, hai], OwnM.fin (have om := hO; OwnM.re om)⟩
    · have hl : Hm.lack p (W.blk a) (owner p (W.blk a) x) = 3 := by
        have e1 : ¬ (o : Int) < 0 := by omega
        have e2 : ¬ (o : Int) = c.blk := by omega
        rw [hbk, h1]
        simp [Hm.lack, e1, e2]
      rw [hl]
      have hne : ((o : Int) == (c.blk : Int)) = false := by rw [beq_eq_false_iff_ne]; omega
      obtain ⟨u1, u2, u3⟩ := inside_up hh hw hc (fun e => hob e.symm) ho hins
      have ha0 : ¬ a = 0 := by omega
      rw [if_neg ha0] at hE
      have fx := And.intro hT <| And.intro hE <| And.intro hc1 <| And.intro hsr <| And.intro hsE <| And.intro hbl <| And.intro h1 <| And.intro hon <| And.intro hne <| @bne_def
      have c1 := scope_owner_fn gl p hP c.blk k hk x hx
      refine k_run ?_
      repeat ((first | refine wSc (id := 1) qsQa0 mixed ?_); refine k_rund ?_; refine k_run ?_)
      clear fx c1
      refine w_loop (fun n st => ∃ b : Nat, n = b ∧ b < W.acts.length ∧ climb W.acts o b b = i ∧ inside p (W.blk b) o = true ∧ st.tm 8 = iv o ∧ st.tm 9 = ptE b ∧ OwnM st.hp F p W) c.up ?_ ?_
      · exact ⟨c.up, rfl, by omega, by rw [← climb_up hh hw ho hc (fun e => hob e.symm) hins]; exact h3.symm, u3, by simp, by simp, (have om := hO; OwnM.re om)⟩
      clear hT hc1 hc2 hE hO
      rintro n st - - ⟨b, rfl, hb, hcl, hib, t8, t9, hO⟩
      obtain ⟨e, he⟩ : ∃ e, W.acts[n]? = some e := ⟨_, gE hb⟩
      have hE := hO.env n e he
      simp only [envRow] at hE
      by_cases heb : e.blk = o
      · have hni : n = i := by rw [← hcl, climb_here he heb]
        subst hni
        subst heb
        have hsame : ((e.blk : Int) == (e.blk : Int)) = true := by simp
        have fx := And.intro t8 <| And.intro t9 <| And.intro hE <| And.intro hsame <| @bne_def
        refine k_run ?_
        repeat ((first | refine wSc (id := 1) qsQa0 mixed ?_); refine k_rund ?_; refine k_run ?_)
        clear fx
        refine e_ret [] .nil (by simp; rfl) ⟨by simp [hIdx], OwnM.fin (have om := hO; OwnM.re om)⟩
      · obtain ⟨e1, e2, e3⟩ := inside_up hh hw he heb ho hib
        have hneb : ((e.blk : Int) == (o : Int)) = false := by rw [beq_eq_false_iff_ne]; omega
        have hn0 : ¬ n = 0 := by omega
        rw [if_neg hn0] at hE
        have fx := And.intro t8 <| And.intro t9 <| And.intro hE <| And.intro hneb <| @bne_def
        refine k_run ?_
        repeat ((first | refine wSc (id := 1) qsQa0 mixed ?_); refine k_rund ?_; refine k_run ?_)
        clear fx
        refine ⟨e.up, by omega, e.up, rfl, by omega, ?_, e3, by simp [t8], by simp, (have om := hO; OwnM.re om)⟩
        rw [← hcl, climb_up hh hw ho he heb hib]
end Go.Proofs.YtmaoicgfcngciaaGreatDoor
end
