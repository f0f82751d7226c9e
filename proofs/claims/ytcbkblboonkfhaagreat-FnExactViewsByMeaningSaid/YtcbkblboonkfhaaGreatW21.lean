/-
  Own texts, joined by mkclaim.py: Pe, Pf, Pg, Ph, Wc.
-/
import Derived.Test.YtcbkblboonkfhaaGreatW20
import Derived.Test.YtcbkblboonkfhaaGreatW18
import Derived.Test.YtcbkblboonkfhaaGreatW14
import Derived.Test.YtcbkblboonkfhaaGreatW19
set_option linter.unusedSimpArgs false
set_option linter.unusedVariables false
set_option maxRecDepth 100000
set_option maxHeartbeats 4000000

section
namespace Go.Proofs.YtcbkblboonkfhaaGreat
open Go Go.Hm Go.Proofs
abbrev qsPe0 : Sch := .q 0 <| .q 1 <| .q 2 <| .q 3 <| .q 4 <| .q 5 <| .q 6 <| .l 7 [5, 4, 2, 1] <| .l 8 [] <| .done
abbrev qsPe1 : Sch := .q 0 <| .q 1 <| .q 2 <| .q 3 <| .q 4 <| .q 5 <| .q 6 <| .q 7 <| .q 8 <| .l 9 [7, 6, 5, 4, 3, 2, 1, 0] <| .l 10 [7, 6, 5, 3, 2, 1, 0] <| .q 11 <| .q 12 <| .l 13 [11] <| .done
abbrev qsPe2 : Sch := .q 0 <| .q 1 <| .q 2 <| .q 3 <| .q 4 <| .q 5 <| .l 6 [4, 2, 1] <| .l 7 [] <| .done
theorem valueOf_fn (gl) (p : Prg) (n : Nat) (hR : RBok gl p n) (H : Nm → Option AO) (W : Wld) (a : Nat) (k : Blk) (s : Stm) (hP : ValP p) (hw : WOk p W) (hn : W.left < n) (h0 : W.en = 0) (ha : a < W.acts.length) (hk : p[W.blk a]? = some k) (hs : s ∈ k.body) (hkd : 0 ≤ s.kind ∧ s.kind ≤ 7) (hr : Room 2 W) (hO : OwnW H p W) (hV : H (.u 2 0 0) = none) :
    FnE Tryz.prog gl 177 (Nm.under Wn) [.pt Wn 0, iv a, s.av] H (fun _ y H' => y = Val.av (valueW p (runW p n) W a s).2 ∧ OwnW H' p (valueW p (runW p n) W a s).1) noE := by
  have hT := hO.top
  simp only [wRow] at hT
  have hst := hP.sh.stm _ k hk s hs
  have hnm := hP.sh.names k (List.mem_of_getElem? hk)
  have hrd := hnm.reads s hs
  have hrl := Stm.reads_len s
  refine FnE.of_sem Tryz.func177 rfl (by kernel_rfl) (rs := [.cell 6 117]) rfl Tryz.ntmps177 (Nat.le_of_ble_eq_true rfl) (fun _ => under_usroot rfl) fun C w g root hroot => ?_
  have fx :=  hT
  have d1 := readsOf_fn gl s
  refine k_run ?_
  repeat ((first | refine wSc (id := 8) qsPe0 mixed ?_ | refine wSc (id := 10) qsPe1 mixed ?_ | refine wSc (id := 19) qsPe2 mixed ?_ | refine wSc (id := 21) qsPe2 mixed ?_); refine k_rund ?_; refine k_run ?_)
  clear fx d1
  intro K hK
  refine o_mv (.s 13) (.u 2 0 0) (.inl rfl) (.inr (by simp [ctx0, hV])) ?_
  have fx := hT
  refine x_mut12 (by simp [hT]) (by simp) (hF := loads_fn _ _ p W a s.reads hP.sh hw ha hrd hrl (have ow := hO; OwnW.re ow) (by simp)) (h := ?_)
  rintro y H1 ⟨rfl, hp1, hO1⟩
  clear fx
  obtain ⟨hA, hvok, hcase, hlen, _⟩ := loadsW_ok (a := a) (l := s.reads) hw
  have hval : valueW p (runW p n) W a s = if (loadsW p W a s.reads).1.en ≠ 0 then ((loadsW p W a s.reads).1, (0, 0)) else workW p (runW p n) (loadsW p W a s.reads).1 a s (loadsW p W a s.reads).2 := rfl
  generalize loadsW p W a s.reads = q at hp1 hO1 hA hvok hcase hlen hval
  obtain ⟨V, vs⟩ := q
  simp only at hp1 hO1 hA hvok hcase hlen hval
  have hT1 := hO1.top
  simp only [wRow] at hT1
  obtain ⟨kd, to, sa, sb⟩ := s
  simp only at hkd
  by_cases hen : V.en = 0
  case neg =>
    rw [if_pos hen] at hval
    have henb : (V.en == 0) = false := by simpa using hen
    have fx := And.intro hT <| And.intro hT1 <| And.intro hp1 <| And.intro henb <| @bne_def
    refine k_run ?_
    repeat ((first | refine wSc (id := 8) qsPe0 mixed ?_ | refine wSc (id := 10) qsPe1 mixed ?_ | refine wSc (id := 19) qsPe2 mixed ?_ | refine wSc (id := 21) qsPe2 mixed ?_); refine k_rund ?_; refine k_run ?_)
    clear fx
    rw [hval]
    refine e_ret [] .nil (by simp; rfl) ⟨by simp, (have ow := hO1; OwnW.re ow)⟩
  rw [if_neg (by simpa using hen)] at hval
  obtain rfl : V = W := by
    rcases hcase with e | ⟨e, he, h⟩
    · exact e
    · rw [h] at hen
      exact absurd hen he
  have hl := hlen hen
  have henb : (V.en == 0) = true := by simpa using hen
  have hkc : kd = 0 ∨ kd = 1 ∨ kd = 2 ∨ kd = 3 ∨ kd = 4 ∨ kd = 5 ∨ kd = 6 ∨ kd = 7 := by omega
  rcases hkc with rfl | rfl | rfl | rfl | rfl | rfl | rfl | rfl
  · have hw0 : workW p (runW p n) V a ⟨0, to, sa, sb⟩ vs = (V, (1, sa)) := by simp [workW]
    rw [hw0] at hval
    have fx := And.intro hT <| And.intro hT1 <| And.intro hp1 <| And.intro henb <| @bne_def
    refine k_run ?_
    repeat ((first | refine wSc (id := 8) qsPe0 mixed ?_ | refine wSc (id := 10) qsPe1 mixed ?_ | refine wSc (id := 19) qsPe2 mixed ?_ | refine wSc (id := 21) qsPe2 mixed ?_); refine k_rund ?_; refine k_run ?_)
    clear fx
    rw [hval]
    refine e_ret [] .nil (by simp; rfl) ⟨by simp, (have ow := hO1; OwnW.re ow)⟩
  · obtain ⟨u, rfl⟩ : ∃ u, vs = [u] := by
      match vs, hl with
      | [u], _ => exact ⟨u, rfl⟩
      | [], h => simp [Stm.reads] at h
      | _ :: _ :: _, h => simp [Stm.reads] at h
    have hw0 : workW p (runW p n) V a ⟨1, to, sa, sb⟩ [u] = (V, u) := by simp [workW]
    rw [hw0] at hval
    have fx := And.intro hT <| And.intro hT1 <| And.intro hp1 <| And.intro henb <| @bne_def
    refine k_run ?_
    repeat ((first | refine wSc (id := 8) qsPe0 mixed ?_ | refine wSc (id := 10) qsPe1 mixed ?_ | refine wSc (id := 19) qsPe2 mixed ?_ | refine wSc (id := 21) qsPe2 mixed ?_); refine k_rund ?_; refine k_run ?_)
    clear fx
    rw [hval]
    refine e_ret [] .nil (by simp; rfl) ⟨by simp, (have ow := hO1; OwnW.re ow)⟩
  · obtain ⟨u, v, rfl⟩ : ∃ u v, vs = [u, v] := by
      match vs, hl with
      | [u, v], _ => exact ⟨u, v, rfl⟩
      | [], h => simp [Stm.reads] at h
      | [_], h => simp [Stm.reads] at h
      | _ :: _ :: _ :: _, h => simp [Stm.reads] at h
    have hw0 : workW p (runW p n) V a ⟨2, to, sa, sb⟩ [u, v] = plusW V u v := by simp [workW]
    rw [hw0] at hval
    have fx := And.intro hT <| And.intro hT1 <| And.intro hp1 <| And.intro henb <| @bne_def
    refine k_run ?_
    repeat ((first | refine wSc (id := 8) qsPe0 mixed ?_ | refine wSc (id := 10) qsPe1 mixed ?_ | refine wSc (id := 19) qsPe2 mixed ?_ | refine wSc (id := 21) qsPe2 mixed ?_); refine k_rund ?_; refine k_run ?_)
    clear fx
    intro K hK
    have fx := And.intro hT hT1
    refine x_mut Wn rfl (by simp [hT1]) (hF := plus_fn _ _ p V u v (hvok u (by simp)) (hvok v (by simp)) (have ow := hO1; OwnW.re ow)) (h := ?_)
    rintro y H2 ⟨rfl, hO2⟩
    clear fx
    have hT2 := hO2.top
    simp only [wRow] at hT2
    have fx := And.intro hT <| And.intro hT1 <| And.intro hp1 <| And.intro hT2 <| And.intro henb <| @bne_def
    refine k_run ?_
    repeat ((first | refine wSc (id := 8) qsPe0 mixed ?_ | refine wSc (id := 10) qsPe1 mixed ?_ | refine wSc (id := 19) qsPe2 mixed ?_ | refine wSc (id := 21) qsPe2 mixed ?_); refine k_rund ?_; refine k_run ?_)
    clear fx
    rw [hval]
    refine e_ret [] .nil (by simp; rfl) ⟨by simp, (have ow := hO2; OwnW.re ow)⟩
  · obtain ⟨q, hq1, hq2, hq3, hq4⟩ := StmOk.made hst (.inl rfl)
    simp only at hq3
    obtain ⟨A, rfl⟩ : ∃ A : Nat, sa = A := ⟨sa.toNat, by omega⟩
    have hw0 : workW p (runW p n) V a ⟨3, to, (A : Int), sb⟩ vs = ({ V with funs := V.funs ++ [(A, a)] }, (2, (V.funs.length : Int))) := by simp [workW]
    rw [hw0] at hval
    have hF := hO1.funs
    have hfl := hr.funs
    have hfl' : V.funs.length ≤ 1000 := by omega
    have hwr : IntKind.i64.wrap (V.funs.length : Int) = V.funs.length := wrp (by omega) (by omega)
    have hap : funRows (.c Wn 0 4) V.funs ++ [[iv A, iv a, .hs (.c (.c Wn 0 4) V.funs.length 2) 3 0 0]] = funRows (.c Wn 0 4) (V.funs ++ [(A, a)]) := funRows_app
    have fx := And.intro hT <| And.intro hT1 <| And.intro hp1 <| And.intro henb <| And.intro hF <| And.intro hfl' <| And.intro hwr <| @bne_def
    refine k_run ?_
    repeat ((first | refine wSc (id := 8) qsPe0 mixed ?_ | refine wSc (id := 10) qsPe1 mixed ?_ | refine wSc (id := 19) qsPe2 mixed ?_ | refine wSc (id := 21) qsPe2 mixed ?_); refine k_rund ?_; refine k_run ?_)
    clear fx
    rw [hval]
    refine e_ret [] .nil (by simp; rfl) ⟨by simp, OwnW.fin ⟨by simp [wRow, hT1], by simp [hO1.acts], fun i b hb => by simp [hO1.act i b hb], hO1.stk.imp fun l hl => by simp [hl], by simp [hO1.glob], ?_, by simp [hO1.clss], fun i c hc => by simp [hO1.cls i c hc], by simp [hO1.out], by simp [hO1.trc]⟩⟩
    simp [← hap]
    rw [List.take_of_length_le (by simp)]
    refine funRows_map fun i c hc => ?_
    have hne : ¬ i = V.funs.length := by have := (gS hc).1; omega
    have hne' : ¬ V.funs.length = i := by omega
    simp [hne, hne']
  · obtain ⟨q, hq1, hq2, hq3, hq4⟩ := StmOk.made hst (.inr rfl)
    have hm := stm_made hst ha (.inr rfl)
    simp only at hq1 hq3 hm
    obtain ⟨A, rfl⟩ : ∃ A : Nat, sa = A := ⟨sa.toNat, by omega⟩
    simp only [Int.toNat_natCast] at hq1 hm
    have hpar : parN p A = 0 := by
      have hh := hP.sh.head A q hq1
      have hA0 : ¬ A = 0 := by omega
      simp only [HeadOk, hA0, if_false] at hh
      simp only [parN, hq1]
      simp only at hq4
      omega
    have hw0 : workW p (runW p n) V a ⟨4, to, (A : Int), sb⟩ vs = classW p (runW p n) V A a := by simp [workW]
    rw [hw0] at hval
    have fx := And.intro hT <| And.intro hT1 <| And.intro hp1 <| And.intro henb <| @bne_def
    refine k_run ?_
    repeat ((first | refine wSc (id := 8) qsPe0 mixed ?_ | refine wSc (id := 10) qsPe1 mixed ?_ | refine wSc (id := 19) qsPe2 mixed ?_ | refine wSc (id := 21) qsPe2 mixed ?_); refine k_rund ?_; refine k_run ?_)
    clear fx
    intro K hK
    refine o_mv (.s 67) (.u 2 0 0) (.inl rfl) (.inr (by simp [ctx0, hV])) ?_
    have fx := And.intro hT hT1
    refine x_mut12 (by simp [hT1]) (by simp) (hF := enter_fn _ p n hR _ V A a 0 [] [] hP hw hn h0 hm (by simp) (hr.mono (by omega)) rfl rfl (by rw [hpar]; rfl) (by simp) (have ow := hO1; OwnW.re ow) (by simp)) (h := ?_)
    rintro y H2 ⟨rfl, hp2, hO2⟩
    clear fx
    have hcl : classW p (runW p n) V A a = if (enterW p (runW p n) V A a []).1.en ≠ 0 then ((enterW p (runW p n) V A a []).1, (0, 0)) else
      ({ (enterW p (runW p n) V A a []).1 with classes := (enterW p (runW p n) V A a []).1.classes ++ [(enterW p (runW p n) V A a []).1.vars (some V.acts.length)] }, (3, ((enterW p (runW p n) V A a []).1.classes.length : Int))) := rfl
    rw [hcl] at hval
    obtain ⟨⟨e1, e2, e3⟩, e4⟩ := enterW_ok (vs := []) (runW_ok hP.sh n) hw hn h0 hm (by simp) (hr.mono (by omega))
    have hrc : (enterW p (runW p n) V A a []).1.classes.length ≤ 1000 := by have := e1.ncls; omega
    generalize enterW p (runW p n) V A a [] = q2 at hp2 hO2 hval e1 hrc
    obtain ⟨U, v⟩ := q2
    simp only at hp2 hO2 hval e1 hrc
    have hT2 := hO2.top
    simp only [wRow] at hT2
    by_cases hen2 : U.en = 0
    case neg =>
      rw [if_pos hen2] at hval
      have henb2 : (U.en == 0) = false := by simpa using hen2
      have fx := And.intro hT <| And.intro hT1 <| And.intro hp1 <| And.intro hT2 <| And.intro henb2 <| @bne_def
      refine k_run ?_
      repeat ((first | refine wSc (id := 8) qsPe0 mixed ?_ | refine wSc (id := 10) qsPe1 mixed ?_ | refine wSc (id := 19) qsPe2 mixed ?_ | refine wSc (id := 21) qsPe2 mixed ?_); refine k_rund ?_; refine k_run ?_)
      clear fx
      rw [hval]
      refine e_ret [] .nil (by simp; rfl) ⟨by simp, (have ow := hO2; OwnW.re ow)⟩
    rw [if_neg (by simpa using hen2)] at hval
    have henb2 : (U.en == 0) = true := by simpa using hen2
    generalize U.vars (some V.acts.length) = nv at hp2 hval
    have hC := hO2.clss
    have hwr : IntKind.i64.wrap (U.classes.length : Int) = U.classes.length := wrp (by omega) (by omega)
    have hap : clsRows (.c Wn 0 5) U.classes ++ [[.hs (.c (.c Wn 0 5) U.classes.length 0) 3 0 8]] = clsRows (.c Wn 0 5) (U.classes ++ [nv]) := clsRows_app
    have fx := And.intro hT <| And.intro hT1 <| And.intro hp1 <| And.intro hT2 <| And.intro henb2 <| And.intro hp2 <| And.intro hC <| And.intro hrc <| And.intro hwr <| @bne_def
    refine k_run ?_
    repeat ((first | refine wSc (id := 8) qsPe0 mixed ?_ | refine wSc (id := 10) qsPe1 mixed ?_ | refine wSc (id := 19) qsPe2 mixed ?_ | refine wSc (id := 21) qsPe2 mixed ?_); refine k_rund ?_; refine k_run ?_)
    clear fx
    rw [hval]
    refine e_ret [] .nil (by simp; rfl) ⟨by simp, OwnW.fin ⟨by simp [wRow, hT2], by simp [hO2.acts], fun i b hb => by simp [hO2.act i b hb], hO2.stk.imp fun l hl => by simp [hl], by simp [hO2.glob], by simp [hO2.funs], ?_, fun i c hc => ?_, by simp [hO2.out], by simp [hO2.trc]⟩⟩
    · simp [← hap]
      rw [List.take_of_length_le (by simp)]
      refine clsRows_map fun i c hc => ?_
      have hne : ¬ i = U.classes.length := by have := (gS hc).1; omega
      have hne' : ¬ U.classes.length = i := by omega
      simp [hne, hne']
    · simp only at hc
      rcases Nat.lt_or_ge i U.classes.length with hlt | hge
      · rw [List.getElem?_append_left hlt] at hc
        have hne : ¬ i = U.classes.length := by omega
        have hne' : ¬ U.classes.length = i := by omega
        simp [hO2.cls i c hc, hne, hne']
      · rw [List.getElem?_append_right hge] at hc
        have hi : i = U.classes.length := by
          have := (gS hc).1
          simp at this
          omega
        subst hi
        simp at hc
        subst hc
        simp [hp2]
  · have hpos : 0 < vs.length := by
      rw [hl]
      by_cases e : sb = -1 <;> simp [Stm.reads, e]
    obtain ⟨u, tl, rfl⟩ : ∃ u tl, vs = u :: tl := by
      match vs, hpos with
      | u :: tl, _ => exact ⟨u, tl, rfl⟩
    have htl : tl.length ≤ 1 := by simp at hl; omega
    have hw0 : workW p (runW p n) V a ⟨5, to, sa, sb⟩ (u :: tl) = callW p (runW p n) V u tl := by simp [workW]
    rw [hw0] at hval
    have hle1 : (1 : Int) ≤ (tl.length : Int) + 1 := by omega
    have htn : ((tl.length : Int) + 1).toNat = tl.length + 1 := by omega
    have fx := And.intro hT <| And.intro hT1 <| And.intro hp1 <| And.intro henb <| And.intro htl <| And.intro hle1 <| And.intro htn <| @bne_def
    refine k_run ?_
    repeat ((first | refine wSc (id := 8) qsPe0 mixed ?_ | refine wSc (id := 10) qsPe1 mixed ?_ | refine wSc (id := 19) qsPe2 mixed ?_ | refine wSc (id := 21) qsPe2 mixed ?_); refine k_rund ?_; refine k_run ?_)
    clear fx
    intro K hK
    refine o_mv (.s 7) (.u 2 0 0) (.inl rfl) (.inr (by simp [ctx0, hV])) ?_
    have fx := And.intro hT hT1
    refine x_mut12 (by simp [hT1]) (by simp [hp1]) (hF := call_fn _ p n hR _ V u 1 tl (u :: tl) hP hw hn h0 (hvok u (by simp)) (fun v hv => hvok v (by simp [hv])) (hr.mono (by omega)) rfl (by simp; omega) htl (have ow := hO1; OwnW.re ow) (by simp [hp1])) (h := ?_)
    rintro y H2 ⟨rfl, hO2⟩
    clear fx
    have hT2 := hO2.top
    simp only [wRow] at hT2
    have fx := And.intro hT <| And.intro hT1 <| And.intro hp1 <| And.intro hT2 <| And.intro henb <| And.intro htl <| And.intro hle1 <| And.intro htn <| @bne_def
    refine k_run ?_
    repeat ((first | refine wSc (id := 8) qsPe0 mixed ?_ | refine wSc (id := 10) qsPe1 mixed ?_ | refine wSc (id := 19) qsPe2 mixed ?_ | refine wSc (id := 21) qsPe2 mixed ?_); refine k_rund ?_; refine k_run ?_)
    clear fx
    rw [hval]
    refine e_ret [] .nil (by simp; rfl) ⟨by simp, (have ow := hO2; OwnW.re ow)⟩
  · obtain ⟨u, rfl⟩ : ∃ u, vs = [u] := by
      match vs, hl with
      | [u], _ => exact ⟨u, rfl⟩
      | [], h => simp [Stm.reads] at h
      | _ :: _ :: _, h => simp [Stm.reads] at h
    have hsb : 0 ≤ sb ∧ sb ≤ 7 := by
      simp only [StmOk] at hst
      simp at hst
      omega
    obtain ⟨x, rfl⟩ : ∃ x : Nat, sb = x := ⟨sb.toNat, by omega⟩
    have hw0 : workW p (runW p n) V a ⟨6, to, sa, (x : Int)⟩ [u] = attrW V u x := by simp [workW]
    rw [hw0] at hval
    have fx := And.intro hT <| And.intro hT1 <| And.intro hp1 <| And.intro henb <| @bne_def
    refine k_run ?_
    repeat ((first | refine wSc (id := 8) qsPe0 mixed ?_ | refine wSc (id := 10) qsPe1 mixed ?_ | refine wSc (id := 19) qsPe2 mixed ?_ | refine wSc (id := 21) qsPe2 mixed ?_); refine k_rund ?_; refine k_run ?_)
    clear fx
    intro K hK
    have fx := And.intro hT hT1
    refine x_mut Wn rfl (by simp [hT1]) (hF := attr_fn _ _ p V u x hw (hvok u (by simp)) (by omega) (have ow := hO1; OwnW.re ow)) (h := ?_)
    rintro y H2 ⟨rfl, hO2⟩
    clear fx
    have hT2 := hO2.top
    simp only [wRow] at hT2
    have fx := And.intro hT <| And.intro hT1 <| And.intro hp1 <| And.intro hT2 <| And.intro henb <| @bne_def
    refine k_run ?_
    repeat ((first | refine wSc (id := 8) qsPe0 mixed ?_ | refine wSc (id := 10) qsPe1 mixed ?_ | refine wSc (id := 19) qsPe2 mixed ?_ | refine wSc (id := 21) qsPe2 mixed ?_); refine k_rund ?_; refine k_run ?_)
    clear fx
    rw [hval]
    refine e_ret [] .nil (by simp; rfl) ⟨by simp, (have ow := hO2; OwnW.re ow)⟩
  · obtain ⟨u, rfl⟩ : ∃ u, vs = [u] := by
      match vs, hl with
      | [u], _ => exact ⟨u, rfl⟩
      | [], h => simp [Stm.reads] at h
      | _ :: _ :: _, h => simp [Stm.reads] at h
    have hw0 : workW p (runW p n) V a ⟨7, to, sa, sb⟩ [u] = (V, u) := by simp [workW]
    rw [hw0] at hval
    have fx := And.intro hT <| And.intro hT1 <| And.intro hp1 <| And.intro henb <| @bne_def
    refine k_run ?_
    repeat ((first | refine wSc (id := 8) qsPe0 mixed ?_ | refine wSc (id := 10) qsPe1 mixed ?_ | refine wSc (id := 19) qsPe2 mixed ?_ | refine wSc (id := 21) qsPe2 mixed ?_); refine k_rund ?_; refine k_run ?_)
    clear fx
    rw [hval]
    refine e_ret [] .nil (by simp; rfl) ⟨by simp, (have ow := hO1; OwnW.re ow)⟩
abbrev qsPf0 : Sch := .q 0 <| .q 1 <| .q 2 <| .q 3 <| .q 4 <| .q 5 <| .l 6 [4, 3, 2, 1, 0] <| .l 7 [4, 3, 2, 1, 0] <| .l 8 [3, 2, 1, 0] <| .q 9 <| .q 10 <| .l 11 [9] <| .done
theorem runStmt_fn (gl) (p : Prg) (n : Nat) (hR : RBok gl p n) (H : Nm → Option AO) (W : Wld) (a : Nat) (k : Blk) (s : Stm) (hP : ValP p) (hw : WOk p W) (hn : W.left < n) (h0 : W.en = 0) (ha : a < W.acts.length) (hk : p[W.blk a]? = some k) (hs : s ∈ k.body) (h8 : s.kind ≠ 8) (hr : Room 2 W) (hO : OwnW H p W) (hV : H (.u 2 0 0) = none) :
    FnE Tryz.prog gl 149 (Nm.under Wn) [.pt Wn 0, iv a, s.av] H (fun _ y H' => OwnW H' p (stmW p (runW p n) W a s)) noE := by
  have hT := hO.top
  simp only [wRow] at hT
  have hst := hP.sh.stm _ k hk s hs
  have hnm := hP.sh.names k (List.mem_of_getElem? hk)
  have hkd := hnm.kinds s hs
  have hto := hnm.tos s hs
  have hvl := valueOf_fn gl p n hR
  obtain ⟨kd, to, sa, sb⟩ := s
  simp only at h8 hkd hto
  obtain ⟨x, rfl⟩ : ∃ x : Nat, to = x := ⟨to.toNat, by omega⟩
  refine FnE.of_sem Tryz.func149 rfl (by kernel_rfl) (rs := []) rfl Tryz.ntmps149 (Nat.le_of_ble_eq_true rfl) (fun _ => under_usroot rfl) fun C w g root hroot => ?_
  by_cases h9 : kd = 9
  · subst h9
    have hc : stmW p (runW p n) W a ⟨9, x, sa, sb⟩ = W := by simp [stmW]
    have fx :=  hT
    refine k_run ?_
    repeat ((first | refine wSc (id := 9) qsPf0 mixed ?_); refine k_rund ?_; refine k_run ?_)
    clear fx
    rw [hc]
    refine e_ret [] .nil (by simp; rfl) (have ow := hO; OwnW.re ow)
  by_cases h10 : kd = 10
  · subst h10
    have hc : stmW p (runW p n) W a ⟨10, x, sa, sb⟩ = W := by simp [stmW]
    have fx :=  hT
    refine k_run ?_
    repeat ((first | refine wSc (id := 9) qsPf0 mixed ?_); refine k_rund ?_; refine k_run ?_)
    clear fx
    rw [hc]
    refine e_ret [] .nil (by simp; rfl) (have ow := hO; OwnW.re ow)
  have hb9 : (kd == 9) = false := by simpa using h9
  have hb10 : (kd == 10) = false := by simpa using h10
  by_cases h11 : kd = 11
  · subst h11
    have hc : stmW p (runW p n) W a ⟨11, x, sa, sb⟩ = takeW p W a x := by simp [stmW]
    have fx :=  hT
    refine k_run ?_
    repeat ((first | refine wSc (id := 9) qsPf0 mixed ?_); refine k_rund ?_; refine k_run ?_)
    clear fx
    intro K hK
    have fx := hT
    refine x_mut Wn rfl (by simp [hT]) (hF := take_fn _ _ p W a x hP.sh hw ha (by omega) (have ow := hO; OwnW.re ow)) (h := ?_)
    rintro y H1 hO1
    clear fx
    have hT1 := hO1.top
    simp only [wRow] at hT1
    have fx := And.intro hT <| hT1
    refine k_run ?_
    repeat ((first | refine wSc (id := 9) qsPf0 mixed ?_); refine k_rund ?_; refine k_run ?_)
    clear fx
    rw [hc]
    refine e_ret [] .nil (by simp; rfl) (have ow := hO1; OwnW.re ow)
  have hb11 : (kd == 11) = false := by simpa using h11
  have hc : stmW p (runW p n) W a ⟨kd, x, sa, sb⟩ = if (valueW p (runW p n) W a ⟨kd, x, sa, sb⟩).1.en ≠ 0 then (valueW p (runW p n) W a ⟨kd, x, sa, sb⟩).1
      else if kd = 7 then { (valueW p (runW p n) W a ⟨kd, x, sa, sb⟩).1 with out := (valueW p (runW p n) W a ⟨kd, x, sa, sb⟩).1.out ++ [Hm.shown (valueW p (runW p n) W a ⟨kd, x, sa, sb⟩).2] }
      else storeW p (valueW p (runW p n) W a ⟨kd, x, sa, sb⟩).1 a x (valueW p (runW p n) W a ⟨kd, x, sa, sb⟩).2 := by
    simp only [stmW]
    rw [if_neg (by omega), if_neg h11]
  have fx := And.intro hT <| And.intro hb9 <| And.intro hb10 <| hb11
  refine k_run ?_
  repeat ((first | refine wSc (id := 9) qsPf0 mixed ?_); refine k_rund ?_; refine k_run ?_)
  clear fx
  intro K hK
  have fx := hT
  refine x_mut Wn rfl (by simp [hT]) (hF := hvl _ W a k ⟨kd, x, sa, sb⟩ hP hw hn h0 ha hk hs ⟨by simp only; omega, by simp only; omega⟩ hr (have ow := hO; OwnW.re ow) (by simp)) (h := ?_)
  rintro y H1 ⟨rfl, hO1⟩
  clear fx
  obtain ⟨hA, hvok⟩ := valueW_ok (runW_ok hP.sh n) hw hn h0 ha hst hr
  generalize valueW p (runW p n) W a ⟨kd, x, sa, sb⟩ = q at hO1 hA hvok hc
  obtain ⟨V, v⟩ := q
  simp only at hO1 hA hvok hc
  have hT1 := hO1.top
  simp only [wRow] at hT1
  have haV : a < V.acts.length := Nat.lt_of_lt_of_le ha hA.grow.lacts
  by_cases hen : V.en = 0
  case neg =>
    rw [if_pos hen] at hc
    have henb : (V.en == 0) = false := by simpa using hen
    have fx := And.intro hT <| And.intro hT1 <| And.intro henb <| @bne_def
    refine k_run ?_
    repeat ((first | refine wSc (id := 9) qsPf0 mixed ?_); refine k_rund ?_; refine k_run ?_)
    clear fx
    rw [hc]
    refine e_ret [] .nil (by simp; rfl) (have ow := hO1; OwnW.re ow)
  rw [if_neg (by simpa using hen)] at hc
  have henb : (V.en == 0) = true := by simpa using hen
  by_cases h7 : kd = 7
  · subst h7
    rw [if_pos rfl] at hc
    have hU := hO1.out
    have hol := hA.ok.nout
    have hol' : V.out.length ≤ 1000 := by omega
    have hap : irows V.out ++ [[iv (Hm.shown v)]] = irows (V.out ++ [Hm.shown v]) := by simp [irows]
    have hsh := spec_shown_fn gl v
    obtain ⟨v1, v2⟩ := v
    have fx := And.intro hT <| And.intro hT1 <| And.intro henb <| And.intro hU <| And.intro hol' <| @bne_def
    have c1 := hsh
    refine k_run ?_
    repeat ((first | refine wSc (id := 9) qsPf0 mixed ?_); refine k_rund ?_; refine k_run ?_)
    clear fx c1
    rw [hc]
    refine e_ret [] .nil (by simp; rfl) (OwnW.fin ⟨by simp [wRow, hT1], by simp [hO1.acts], fun i b hb => by simp [hO1.act i b hb], hO1.stk.imp fun l hl => by simp [hl], by simp [hO1.glob], by simp [hO1.funs], by simp [hO1.clss], fun i c hc => by simp [hO1.cls i c hc], ?_, by simp [hO1.trc]⟩)
    simp
  · rw [if_neg h7] at hc
    have hb7 : (kd == 7) = false := by simpa using h7
    have hst2 := store_fn gl (p := p) (W := V) (a := a) (x := x) (v := v)
    obtain ⟨v1, v2⟩ := v
    have fx := And.intro hT <| And.intro hT1 <| And.intro henb <| And.intro hb7 <| @bne_def
    refine k_run ?_
    repeat ((first | refine wSc (id := 9) qsPf0 mixed ?_); refine k_rund ?_; refine k_run ?_)
    clear fx
    intro K hK
    have fx := And.intro hT hT1
    refine x_mut Wn rfl (by simp [hT1]) (hF := hst2 _ hP.sh hA.ok haV (by omega) (have ow := hO1; OwnW.re ow)) (h := ?_)
    rintro y H2 hO2
    clear fx
    have hT2 := hO2.top
    simp only [wRow] at hT2
    have fx := And.intro hT <| And.intro hT1 <| hT2
    refine k_run ?_
    repeat ((first | refine wSc (id := 9) qsPf0 mixed ?_); refine k_rund ?_; refine k_run ?_)
    clear fx
    rw [hc]
    refine e_norm [] .nil (by simp; rfl) (have ow := hO2; OwnW.re ow)
end Go.Proofs.YtcbkblboonkfhaaGreat
end
section
namespace Go.Proofs.YtcbkblboonkfhaaGreat
open Go Go.Hm Go.Proofs
abbrev qsPg0 : Sch := .q 0 <| .q 1 <| .q 2 <| .q 3 <| .q 4 <| .q 5 <| .q 6 <| .q 7 <| .q 8 <| .q 9 <| .q 10 <| .q 11 <| .q 12 <| .q 13 <| .q 14 <| .q 15 <| .l 16 [] <| .done
abbrev qsPg1 : Sch := .q 0 <| .q 1 <| .q 2 <| .q 3 <| .q 4 <| .q 5 <| .q 6 <| .q 7 <| .q 8 <| .q 9 <| .q 10 <| .q 11 <| .q 12 <| .q 13 <| .q 14 <| .l 15 [13, 12, 11, 10, 9, 8, 7, 6, 5, 4, 3, 2, 1, 0] <| .l 16 [13, 12, 11, 10, 9, 8, 7, 6, 5, 3, 2, 1, 0] <| .q 17 <| .q 18 <| .l 19 [17] <| .done
theorem runBlock_step (gl) (p : Prg) (n : Nat) (hR : RBok gl p n) (hP : ValP p) : RBok gl p (n + 1) := by
  intro H W a hO hw hn ha h0 hV
  show FnE Tryz.prog gl 102 (Nm.under Wn) [.pt Wn 0, iv a] H _ noE
  obtain ⟨c, hc⟩ : ∃ c, W.acts[a]? = some c := ⟨_, gE ha⟩
  obtain ⟨_, hcE⟩ := gS hc
  have hbl := hw.blks a c hc
  obtain ⟨k, hk⟩ : ∃ k, p[c.blk]? = some k := ⟨_, gE hbl⟩
  obtain ⟨_, hkE⟩ := gS hk
  have hbk := blk_at hc
  have hT := hO.top
  have hA := hO.acts
  simp only [wRow] at hT
  have hb12 := hP.sh.body k (List.mem_of_getElem? hk)
  have hrun : runW p (n + 1) W a = bodyW p (runW p n) a W 0 k.body := by simp only [runW, hbk, hk]
  refine FnE.of_sem Tryz.func102 rfl (by kernel_rfl) (rs := [.cell 4 117]) rfl Tryz.ntmps102 (Nat.le_of_ble_eq_true rfl) (fun _ => under_usroot rfl) fun C w g root hroot => ?_
  have fx := And.intro hT <| And.intro hA <| And.intro hc <| And.intro hcE <| And.intro ha <| And.intro hk <| And.intro hkE <| hbl
  refine k_run ?_
  repeat ((first | refine wSc (id := 1) qsPg0 mixed ?_ | refine wSc (id := 9) qsPg1 mixed ?_); refine k_rund ?_; refine k_run ?_)
  clear fx
  refine w_loop (fun m st => ∃ (i : Nat) (V : Wld), m = k.body.length - i ∧ i ≤ k.body.length ∧ runW p (n + 1) W a = bodyW p (runW p n) a V i (k.body.drop i) ∧ WOk p V ∧ V.left < n + 1 ∧ a < V.acts.length ∧ V.en = 0 ∧ V.blk a = c.blk ∧ st.tm 0 = .pt Wn 0 ∧ st.tm 1 = iv a ∧ st.tm 4 = .pt (.s 4) 0 ∧ st.hp (.s 4) = some (.row 2 [[iv 0, iv 0]]) ∧ st.tm 5 = ssl k.body ∧ st.tm 6 = iv i ∧ OwnW st.hp p V) k.body.length ?_ ?_
  · exact ⟨0, W, by omega, by omega, by simpa using hrun, hw, hn, ha, h0, hbk, by simp, by simp, by simp, by simp, by simp, by simp, (have ow := hO; OwnW.re ow)⟩
  clear hT hA hO
  rintro m st - - ⟨i, V, rfl, hi, hres, hw', hn', ha', h0', hbV, t0, t1, t4, hp4, t5, t6, hO⟩
  clear hrun h0 hn hw hc hcE ha
  obtain ⟨d, hd⟩ : ∃ d, V.acts[a]? = some d := ⟨_, gE ha'⟩
  obtain ⟨_, hdE⟩ := gS hd
  have hdb : d.blk = c.blk := by rw [← blk_at hd]; exact hbV
  have hT := hO.top
  have hA := hO.acts
  simp only [wRow] at hT
  by_cases hil : i < k.body.length
  case neg =>
    have hge : i = k.body.length := by omega
    rw [hge, List.drop_length] at hres
    simp only [bodyW] at hres
    have fx := And.intro t0 <| And.intro t1 <| And.intro t4 <| And.intro hp4 <| And.intro t5 <| And.intro t6 <| hil
    refine k_run ?_
    repeat ((first | refine wSc (id := 1) qsPg0 mixed ?_ | refine wSc (id := 9) qsPg1 mixed ?_); refine k_rund ?_; refine k_run ?_)
    clear fx
    rw [hres]
    refine e_ret [] .nil (by simp [t4]; rfl) ⟨by simp, (have ow := hO; OwnW.re ow)⟩
  obtain ⟨s, hs⟩ : ∃ s, k.body[i]? = some s := ⟨_, gE hil⟩
  obtain ⟨_, hsE⟩ := gS hs
  have hsm := List.mem_of_getElem? hs
  have hdr : k.body.drop i = s :: k.body.drop (i + 1) := by rw [List.drop_eq_getElem_cons hil, hsE]
  rw [hdr] at hres
  by_cases hl : V.left = 0
  · have hr2 : bodyW p (runW p n) a V i (s :: k.body.drop (i + 1)) = ({ V with en := 1 }, (0, 0)) := by simp only [bodyW, hl, if_true]
    rw [hr2] at hres
    have fx := And.intro t0 <| And.intro t1 <| And.intro t4 <| And.intro hp4 <| And.intro t5 <| And.intro t6 <| And.intro hil <| And.intro hT <| hl
    refine k_run ?_
    repeat ((first | refine wSc (id := 1) qsPg0 mixed ?_ | refine wSc (id := 9) qsPg1 mixed ?_); refine k_rund ?_; refine k_run ?_)
    clear fx
    rw [hres]
    refine e_ret [] .nil (by simp [t4]; rfl) ⟨by simp, ⟨by simp [hO.top, wRow, hT, hl], by simp [hO.acts, hT, hl], fun i a ha => by simp [hO.act i a ha, hT, hl], hO.stk.imp fun l hl => by simp [hl, hT, hl], by simp [hO.glob, hT, hl], by simp [hO.funs, hT, hl], by simp [hO.clss, hT, hl], fun i c hc => by simp [hO.cls i c hc, hT, hl], by simp [hO.out, hT, hl], by simp [hO.trc, hT, hl]⟩⟩
  obtain ⟨l, hll⟩ : ∃ l, V.left = l + 1 := ⟨V.left - 1, by omega⟩
  have hr2 : bodyW p (runW p n) a V i (s :: k.body.drop (i + 1)) = if s.kind = 8 then loadW p (tickW V a i) a s.a else if (stmW p (runW p n) (tickW V a i) a s).en ≠ 0 then (stmW p (runW p n) (tickW V a i) a s, (0, 0)) else bodyW p (runW p n) a (stmW p (runW p n) (tickW V a i) a s) (i + 1) (k.body.drop (i + 1)) := by
    simp only [bodyW, hl, if_false]
  rw [hr2] at hres
  clear hr2
  obtain ⟨tk1, tk2⟩ := tickW_ok (a := a) (i := i) hw' hl
  have hTt : tickW V a i = { V with left := l, trace := V.trace ++ [(d.blk, i)] } := by simp only [tickW, blk_at hd]; rw [hll]; rfl
  have hbV2 : (tickW V a i).blk a = d.blk := by rw [show (tickW V a i).blk a = V.blk a from rfl, blk_at hd]
  have hleft : (tickW V a i).left < n := by simp only [tickW]; omega
  have hTr := hO.trc
  have hnt := hw'.ntr
  have hnl := hw'.nacts
  have htl' : V.trace.length ≤ 1000 := by omega
  have hl8 : l ≤ 1000 := by omega
  have hlb : ((l : Int) + 1 == 0) = false := by rw [beq_eq_false_iff_ne]; omega
  have hwl : IntKind.i64.wrap (l : Int) = l := wrp (by omega) (by omega)
  have hap : nrows V.trace ++ [[iv d.blk, iv i]] = nrows (V.trace ++ [(d.blk, i)]) := nrows_app1
  by_cases h8 : s.kind = 8
  · rw [if_pos h8] at hres
    have hb8 : (s.kind == 8) = true := by simpa using h8
    have hrs := (hP.sh.names k (List.mem_of_getElem? hk)).reads s hsm s.a (by simp [Stm.reads, h8])
    obtain ⟨x, hx⟩ : ∃ x : Nat, s.a = x := ⟨s.a.toNat, by omega⟩
    rw [hx] at hres
    have fx := And.intro t0 <| And.intro t1 <| And.intro t4 <| And.intro hp4 <| And.intro t5 <| And.intro t6 <| And.intro hil <| And.intro hT <| And.intro hll <| And.intro hlb <| And.intro hwl <| And.intro hTr <| And.intro htl' <| And.intro hA <| And.intro hd <| And.intro hdE <| And.intro ha' <| And.intro hs <| And.intro hsE <| And.intro hb8 <| hx
    refine k_run ?_
    repeat ((first | refine wSc (id := 1) qsPg0 mixed ?_ | refine wSc (id := 9) qsPg1 mixed ?_); refine k_rund ?_; refine k_run ?_)
    clear fx
    intro K hK
    have fx := And.intro t0 (And.intro t1 hT)
    refine x_mut Wn rfl (by simp [hT]) (hF := load_fn _ _ p (tickW V a i) a x hP.sh tk1 ha' (by omega) (by rw [hTt]; exact ⟨by simp [wRow, hT], by simp [hO.acts], fun j b hb => by simp [hO.act j b hb], hO.stk.imp fun l hl => by simp [hl], by simp [hO.glob], by simp [hO.funs], by simp [hO.clss], fun j b hb => by simp [hO.cls j b hb], by simp [hO.out], by simp [← hap]⟩)) (h := ?_)
    rintro y H1 ⟨rfl, hO1⟩
    clear fx
    generalize loadW p (tickW V a i) a x = q at hO1 hres
    obtain ⟨U, v1, v2⟩ := q
    have hT1 := hO1.top
    simp only [wRow] at hT1
    have fx := And.intro t0 <| And.intro t1 <| And.intro t4 <| And.intro hp4 <| And.intro t5 <| And.intro t6 <| And.intro hT <| hT1
    refine k_run ?_
    repeat ((first | refine wSc (id := 1) qsPg0 mixed ?_ | refine wSc (id := 9) qsPg1 mixed ?_); refine k_rund ?_; refine k_run ?_)
    clear fx
    rw [hres]
    refine e_ret [] .nil (by simp [t4]; rfl) ⟨by simp, (have ow := hO1; OwnW.re ow)⟩
  · rw [if_neg h8] at hres
    have hb8 : (s.kind == 8) = false := by simpa using h8
    have hk' : p[(tickW V a i).blk a]? = some k := by rw [hbV2, hdb]; exact hk
    have hst := hP.sh.stm _ k hk s hsm
    have hSo := stmW_ok (s := s) (k := k) (runW_ok hP.sh n) tk1 hleft h0' ha' (by rw [hbV2, hdb]; exact hst) tk2
    have fx := And.intro t0 <| And.intro t1 <| And.intro t4 <| And.intro hp4 <| And.intro t5 <| And.intro t6 <| And.intro hil <| And.intro hT <| And.intro hll <| And.intro hlb <| And.intro hwl <| And.intro hTr <| And.intro htl' <| And.intro hA <| And.intro hd <| And.intro hdE <| And.intro ha' <| And.intro hs <| And.intro hsE <| hb8
    refine k_run ?_
    repeat ((first | refine wSc (id := 1) qsPg0 mixed ?_ | refine wSc (id := 9) qsPg1 mixed ?_); refine k_rund ?_; refine k_run ?_)
    clear fx
    intro K hK
    have fx := And.intro t0 (And.intro t1 hT)
    refine x_mut Wn rfl (by simp [hT]) (hF := runStmt_fn gl p n hR _ (tickW V a i) a k s hP tk1 hleft h0' ha' hk' hsm h8 tk2 (by rw [hTt]; exact ⟨by simp [wRow, hT], by simp [hO.acts], fun j b hb => by simp [hO.act j b hb], hO.stk.imp fun l hl => by simp [hl], by simp [hO.glob], by simp [hO.funs], by simp [hO.clss], fun j b hb => by simp [hO.cls j b hb], by simp [hO.out], by simp [← hap]⟩) (by simp)) (h := ?_)
    rintro y H1 hO1
    clear fx
    have hAf := hSo.tick hl
    generalize stmW p (runW p n) (tickW V a i) a s = U at hO1 hAf hres hSo
    have hT1 := hO1.top
    simp only [wRow] at hT1
    by_cases hen : U.en = 0
    · rw [if_neg (by simpa using hen)] at hres
      have henb : (U.en == 0) = true := by simpa using hen
      have fx := And.intro t0 <| And.intro t1 <| And.intro t4 <| And.intro hp4 <| And.intro t5 <| And.intro t6 <| And.intro hT <| And.intro hT1 <| And.intro henb <| @bne_def
      refine k_run ?_
      repeat ((first | refine wSc (id := 1) qsPg0 mixed ?_ | refine wSc (id := 9) qsPg1 mixed ?_); refine k_rund ?_; refine k_run ?_)
      clear fx
      exact ⟨k.body.length - (i + 1), by omega, i + 1, U, rfl, by omega, hres, hAf.ok, by have := hAf.grow.left; omega, Nat.lt_of_lt_of_le ha' hAf.grow.lacts, hen, by rw [hAf.grow.blk hd]; exact hbV, by simp [t0, hT], by simp [t1], by simp [t4], by simp [hp4], by simp [t5], by simp [t6]; exact wrp (by omega) (by omega), (have ow := hO1; OwnW.re ow)⟩
    · rw [if_pos (by simpa using hen)] at hres
      have henb : (U.en == 0) = false := by simpa using hen
      have fx := And.intro t0 <| And.intro t1 <| And.intro t4 <| And.intro hp4 <| And.intro t5 <| And.intro t6 <| And.intro hT <| And.intro hT1 <| And.intro henb <| @bne_def
      refine k_run ?_
      repeat ((first | refine wSc (id := 1) qsPg0 mixed ?_ | refine wSc (id := 9) qsPg1 mixed ?_); refine k_rund ?_; refine k_run ?_)
      clear fx
      rw [hres]
      refine e_ret [] .nil (by simp [t4]; rfl) ⟨by simp, (have ow := hO1; OwnW.re ow)⟩
theorem runBlock_fn (gl) (p : Prg) (hP : ValP p) : ∀ n, RBok gl p n
  | 0 => fun H W a _ _ h => absurd h (by omega)
  | n + 1 => runBlock_step gl p n (runBlock_fn gl p hP n) hP
abbrev qsPh0 : Sch := .q 0 <| .q 2 <| .l 1 [2, 0] <| .q 3 <| .l 4 [2, 0] <| .l 5 [] <| .done
theorem validFuel_fn (gl) (p : Prg) (f : Int) (hs : Sml p) : FnOk Tryz.prog gl 49 [pav p, iv f] (fun _ y _ => y = bv (fuelOk p f)) := by
  refine FnOk.of_sem Tryz.func49 rfl (by kernel_rfl) (rs := [.tmp 4]) rfl Tryz.ntmps49 (Nat.le_of_ble_eq_true rfl) fun C w g root => ?_
  cases hv : progOk p
  · skip
    have fx :=  hv
    have c1 := hv ▸ validProgram_fn gl p hs
    refine k_run ?_
    clear fx c1
    refine e_ret [] .nil (by simp; rfl) (by simp [fuelOk, hv])
  · skip
    have fx :=  hv
    have c1 := hv ▸ validProgram_fn gl p hs
    have c2 := inRange_fn gl f 0 150
    refine k_run ?_
    clear fx c1 c2
    refine e_ret [] .nil (by simp; rfl) (by simp [fuelOk, hv])
theorem meant_fn (gl) (H : Nm → Option AO) (p : Prg) (f : Nat) (hP : ValP p) (hf : f ≤ 150) (h1 : H (.u 1 0 0) = none) :
    FnE Tryz.prog gl 50 (Nm.under Wn) [pav p, iv f] H (fun _ y H' => y = .pt Wn 0 ∧ OwnW H' p (meantW p f)) noE := by
  have hw := startW_ok hP.sh hf
  refine FnE.of_sem Tryz.func50 rfl (by kernel_rfl) (rs := [.tmp 4]) rfl Tryz.ntmps50 (Nat.le_of_ble_eq_true rfl) (fun _ => under_usroot rfl) fun C w g root hroot => ?_
  have fx := fx0
  have d1 := emptySlots_fn gl
  refine k_run ?_
  repeat ((first | refine wSc (id := 1) qsPh0 mixed ?_); refine k_rund ?_; refine k_run ?_)
  clear fx d1
  intro K hK
  refine o_mv (.s 5) (.u 1 0 0) (.inl rfl) (.inr (by simp [ctx0, h1])) ?_
  have fx := fx0
  refine x_mut Wn rfl (by simp) (hF := runBlock_fn gl p hP 151 _ (startW f) 0 ?_ hw (by simp only [startW]; omega) (by simp [startW]) rfl (by simp)) (h := ?_)
  · have e1 : irows (nints [0] ++ []) = [[iv 0]] := rfl
    have hsl : slrows noSlots = slrows (startW f).globals := rfl
    refine ⟨by simp [wRow, startW], by simp [startW, actRows, outI], fun i a ha => ?_, ⟨[], by simp [startW, nints, irows]⟩, by simp [startW], by simp [startW, funRows], by simp [startW, clsRows], fun i c hc => by simp [startW] at hc, by simp [startW], by simp [startW]⟩
    have hi : i = 0 := by
      have := (gS ha).1
      simp [startW] at this
      omega
    subst hi
    have ha' : a = ⟨0, 0, noSlots⟩ := by simpa [startW] using ha.symm
    subst ha'
    simp
  rintro y H1 ⟨rfl, hO1⟩
  clear fx
  have hT1 := hO1.top
  simp only [wRow] at hT1
  have hme : (runW p 151 (startW f) 0).1 = meantW p f := rfl
  rw [hme] at hO1 hT1
  have fx :=  hT1
  refine k_run ?_
  repeat ((first | refine wSc (id := 1) qsPh0 mixed ?_); refine k_rund ?_; refine k_run ?_)
  clear fx
  refine e_ret [] .nil (by simp; rfl) ⟨by simp, (have ow := hO1; OwnW.re ow)⟩
end Go.Proofs.YtcbkblboonkfhaaGreat
end
section
namespace Go.Proofs.YtcbkblboonkfhaaGreat
open Go Go.Hm Go.Proofs
abbrev qsWc0 : Sch := .q 0 <| .q 1 <| .q 2 <| .q 3 <| .q 4 <| .q 5 <| .q 6 <| .q 7 <| .q 8 <| .q 9 <| .q 10 <| .l 11 [9, 8, 7, 6, 5, 4, 3, 2, 1, 0] <| .l 12 [9, 8, 7, 6, 5, 4, 3, 2, 1] <| .l 13 [] <| .done
abbrev qsWc1 : Sch := .q 0 <| .q 1 <| .q 2 <| .q 3 <| .q 4 <| .q 5 <| .q 6 <| .q 7 <| .q 8 <| .q 9 <| .q 10 <| .q 11 <| .q 12 <| .q 13 <| .q 14 <| .l 15 [13, 12, 11, 10, 9, 8, 7, 6, 5, 4, 3, 2, 1, 0] <| .l 16 [13, 12, 11, 10, 9, 8, 7, 6, 5, 4, 3, 2, 1] <| .l 17 [] <| .done
theorem zip_map_self {α β : Type} (g : α → β) : ∀ l : List α, l.zip (l.map g) = l.map fun x => (x, g x)
  | [] => rfl
  | x :: l => by simp [zip_map_self g l]
theorem vwRows_fixW {n : Nm} {vs : List Vw} {f : Nm → Option Nm} (h : ∀ i j, f (.c n i j) = some (.c n i j)) : (vwRows n vs).map (fun r => r.map (AV.tr f)) = vwRows n vs := vwRows_tr fun i j _ => h i j
attribute [local simp] vwRows_fixW
theorem spec_ViewsByMeaning_fn (gl) (p : Prg) (f : Int) (hs : Sml p) : FnOk Tryz.prog gl 35 [pav p, iv f] (fun r y H' => y = .hs r 3 0 (viewsG p f).length ∧ OwnVs H' r (viewsG p f)) := by
  refine FnOk.of_sem Tryz.func35 rfl (by kernel_rfl) (rs := [.tmp 4]) rfl Tryz.ntmps35 (Nat.le_of_ble_eq_true rfl) fun C w g root => ?_
  cases hv : fuelOk p f
  · have hG : viewsG p f = [] := by simp [viewsG, hv]
    rw [hG]
    have fx :=  hv
    have c1 := hv ▸ validFuel_fn gl p f hs
    refine k_run ?_
    repeat ((first | refine wSc (id := 17) qsWc0 mixed ?_ | refine wSc (id := 19) qsWc1 mixed ?_); refine k_rund ?_; refine k_run ?_)
    clear fx c1
    refine e_ret [(.s 4, root)] (.one rfl) (by simp; rfl) ⟨by simp, ⟨by simp, fun i c h => by simp at h⟩⟩
  obtain ⟨hpo, n, rfl, hn⟩ := fuelOk_of hv
  have hP := ValP.of hs hpo
  have hh := hP.sh.heads
  have hm := meantOk hP.sh hn
  have hw := hm.ok
  have hG : viewsG p n = viewsV p (meantW p n) := by simp [viewsG, hv]
  rw [hG]
  have fx :=  hv
  have c1 := hv ▸ validFuel_fn gl p n hs
  refine k_run ?_
  repeat ((first | refine wSc (id := 17) qsWc0 mixed ?_ | refine wSc (id := 19) qsWc1 mixed ?_); refine k_rund ?_; refine k_run ?_)
  clear fx c1
  intro K hK
  have fx := fx0
  refine x_mut Wn rfl (by simp [ctx0, noH]) (hF := meant_fn gl _ p n hP hn (by simp [noH])) (h := ?_)
  rintro y H1 ⟨rfl, hO1⟩
  clear fx
  generalize meantW p n = W at *
  have hlen := hw.nacts
  have hT1 := hO1.top
  simp only [wRow] at hT1
  have fx :=  hT1
  refine k_run ?_
  repeat ((first | refine wSc (id := 17) qsWc0 mixed ?_ | refine wSc (id := 19) qsWc1 mixed ?_); refine k_rund ?_; refine k_run ?_)
  clear fx
  refine w_loop (fun n st => ∃ (i : Nat) (vs : List Vw), n = W.stack.length - i ∧ i ≤ W.stack.length ∧ vs = (W.stack.take i).map (viewV p W) ∧ vs.length = i ∧ st.tm 7 = iv i ∧ st.tm 5 = .pt Wn 0 ∧ OwnW st.hp p W ∧ st.tm 2 = .pt (.s 2) 0 ∧ st.hp (.s 2) = some (.row 1 [[ksl p]]) ∧ st.tm 6 = .hs (.s 6) 3 0 vs.length ∧ OwnVs st.hp (.s 6) vs) W.stack.length ?_ ?_
  · exact ⟨0, [], by omega, by omega, by simp, rfl, by simp, by simp, (have ow := hO1; OwnW.re ow), by simp, by simp, by simp, ⟨by simp, fun i c h => by simp at h⟩⟩
  clear hT1 hO1
  rintro n0 st - - ⟨i, vs, rfl, hi, hvs, hvl, h7, h5, hO, h2, hp2, h6, ⟨ht, he⟩⟩
  have hT := hO.top
  have hA := hO.acts
  obtain ⟨lS, hS⟩ := hO.stk
  simp only [wRow] at hT
  by_cases hil : i < W.stack.length
  · obtain ⟨a, ha⟩ : ∃ a, W.stack[i]? = some a := ⟨_, gE hil⟩
    obtain ⟨_, haE⟩ := gS ha
    have hal := hw.stk a (List.mem_of_getElem? ha)
    obtain ⟨c, hc⟩ : ∃ c, W.acts[a]? = some c := ⟨_, gE hal⟩
    obtain ⟨_, hcE⟩ := gS hc
    have hbk := blk_at hc
    have hbl := hw.blks a c hc
    obtain ⟨k, hk⟩ : ∃ k, p[c.blk]? = some k := ⟨_, gE hbl⟩
    have hse := seen_fn gl p c.blk k hk ⟨hs, hP.sh⟩ hs
    have hSi : (nints W.stack ++ lS)[i]? = some (a : Int) := by
      rw [List.getElem?_append_left (by simpa [nints] using hil)]
      simp [nints, ha]
    obtain ⟨hSil, hSiE⟩ := gS hSi
    generalize hST : nints W.stack ++ lS = ST at hS hSi hSil hSiE
    have fx := And.intro h5 <| And.intro h7 <| And.intro h2 <| And.intro hp2 <| And.intro hT <| And.intro hA <| And.intro hS <| And.intro hSi <| And.intro hSil <| And.intro hSiE <| And.intro hil <| And.intro ha <| And.intro haE <| And.intro hal <| And.intro hc <| hcE
    have d1 := hse
    refine k_run ?_
    repeat ((first | refine wSc (id := 17) qsWc0 mixed ?_ | refine wSc (id := 19) qsWc1 mixed ?_); refine k_rund ?_; refine k_run ?_)
    clear fx d1
    obtain ⟨S, hSe⟩ : ∃ S, S = seenL p c.blk := ⟨_, rfl⟩
    have hSl : S.length ≤ 8 := hSe ▸ seenL_len
    have hSm : ∀ x ∈ S, x ∈ seenL p c.blk := fun x hx => hSe ▸ hx
    rw [← hSe]
    refine w_loop (fun n1 st => ∃ (j : Nat) (L : List Slt), n1 = S.length - j ∧ j ≤ S.length ∧ L = (S.take j).map (slotV p W a) ∧ L.length = j ∧ st.tm 12 = iv j ∧ st.tm 11 = .hs (.s 11) 3 0 L.length ∧ st.hp (.s 11) = some (.row 3 (slrows L)) ∧ st.tm 10 = .hs (.s 10) 1 0 S.length ∧ st.hp (.s 10) = some (.row 1 (irows S)) ∧ st.tm 9 = iv c.blk ∧ st.tm 8 = iv a ∧ st.tm 7 = iv i ∧ st.tm 5 = .pt Wn 0 ∧ OwnW st.hp p W ∧ st.tm 2 = .pt (.s 2) 0 ∧ st.hp (.s 2) = some (.row 1 [[ksl p]]) ∧ st.tm 6 = .hs (.s 6) 3 0 vs.length ∧ OwnVs st.hp (.s 6) vs) S.length ⟨0, [], by omega, by omega, by simp, rfl, by simp, by simp, by simp, by simp, by simp, by simp, by simp, by simp [h7], by simp [h5], (have ow := hO; OwnW.re ow), by simp [h2], by simp [hp2], by simp [h6], ⟨by simp [ht], fun q v hq => ⟨by simp [(he q v hq).names], by simp [(he q v hq).vals]⟩⟩⟩ ?_
    clear hT hA hS hO h5 h7 h2 hp2 h6 ht he
    rintro n1 st - - ⟨j, L, rfl, hj, hL, hLl, h12, h11, hp11, h10, hp10, h9, h8, h7, h5, hO, h2, hp2, h6, ⟨ht, he⟩⟩
    have hT := hO.top
    have hA := hO.acts
    have hGl := hO.glob
    simp only [wRow] at hT
    have hg8 := hw.glob.1
    have hLb : L.length ≤ 100 := by omega
    by_cases hjl : j < S.length
    · obtain ⟨x, hx⟩ : ∃ x, S[j]? = some x := ⟨_, gE hjl⟩
      obtain ⟨_, hxE⟩ := gS hx
      have hxs := hSm x (List.mem_of_getElem? hx)
      obtain ⟨hx0, hx7⟩ := seenL_rng hxs
      obtain ⟨X, rfl⟩ : ∃ X : Nat, x = X := ⟨x.toNat, by omega⟩
      have hX8 : X < 8 := by omega
      have hXi : (X : Int) < 8 := by omega
      by_cases hb0 : c.blk = 0
      · have hb0' : ((c.blk : Int) == 0) = true := by simp [hb0]
        obtain ⟨s, hs'⟩ : ∃ s, W.globals[X]? = some s := ⟨_, gE (by omega)⟩
        obtain ⟨_, hsE⟩ := gS hs'
        have hsv : slotV p W a X = s := by simp [slotV, hbk, hb0, Wld.get, Wld.vars, hs']
        rcases s with _ | ⟨v1, v2⟩
        all_goals
          have fx := And.intro h12 <| And.intro h11 <| And.intro hp11 <| And.intro h10 <| And.intro hp10 <| And.intro h9 <| And.intro h8 <| And.intro h5 <| And.intro hT <| And.intro hGl <| And.intro hg8 <| And.intro hjl <| And.intro hx <| And.intro hxE <| And.intro hb0' <| And.intro hs' <| And.intro hsE <| And.intro hX8 <| And.intro hXi <| hLb
          refine k_run ?_
          repeat ((first | refine wSc (id := 17) qsWc0 mixed ?_ | refine wSc (id := 19) qsWc1 mixed ?_); refine k_rund ?_; refine k_run ?_)
          clear fx
        · exact ⟨S.length - (j + 1), by omega, j + 1, L ++ [none], rfl, by omega, by rw [List.take_add_one, hx, List.map_append, hL]; simp [hsv], by simp [hLl], by simp [h12]; exact wrp (by omega) (by omega), by simp, by simp [← slrows_app]; rfl, by simp [h10], by simp [hp10], by simp [h9], by simp [h8], by simp [h7], by simp [h5], (have ow := hO; OwnW.re ow), by simp [h2], by simp [hp2], by simp [h6], ⟨by simp [ht], fun q v hq => ⟨by simp [(he q v hq).names], by simp [(he q v hq).vals]⟩⟩⟩
        · exact ⟨S.length - (j + 1), by omega, j + 1, L ++ [some (v1, v2)], rfl, by omega, by rw [List.take_add_one, hx, List.map_append, hL]; simp [hsv], by simp [hLl], by simp [h12]; exact wrp (by omega) (by omega), by simp, by simp [← slrows_app]; rfl, by simp [h10], by simp [hp10], by simp [h9], by simp [h8], by simp [h7], by simp [h5], (have ow := hO; OwnW.re ow), by simp [h2], by simp [hp2], by simp [h6], ⟨by simp [ht], fun q v hq => ⟨by simp [(he q v hq).names], by simp [(he q v hq).vals]⟩⟩⟩
      have hb0' : ((c.blk : Int) == 0) = false := by rw [beq_eq_false_iff_ne]; omega
      have hkk : kindAt p c.blk = k.kind := by simp [kindAt, hk]
      obtain ⟨hkl, hkE⟩ := gS hk
      have hV := hO.act a c hc
      have hvl := (hw.vars a c hc).1
      by_cases hk2 : k.kind = 2
      · have hk2' : (k.kind == 2) = true := by simp [hk2]
        obtain ⟨s, hs'⟩ : ∃ s, c.vars[X]? = some s := ⟨_, gE (by omega)⟩
        obtain ⟨_, hsE⟩ := gS hs'
        have hsv : slotV p W a X = s := by simp [slotV, hbk, hb0, hkk, hk2, Wld.get, Wld.vars, hc, hs']
        rcases s with _ | ⟨v1, v2⟩
        all_goals
          have fx := And.intro h12 <| And.intro h11 <| And.intro hp11 <| And.intro h10 <| And.intro hp10 <| And.intro h9 <| And.intro h8 <| And.intro h5 <| And.intro h2 <| And.intro hp2 <| And.intro hT <| And.intro hA <| And.intro hc <| And.intro hcE <| And.intro hal <| And.intro hV <| And.intro hvl <| And.intro hjl <| And.intro hx <| And.intro hxE <| And.intro hb0' <| And.intro hk2' <| And.intro hk <| And.intro hkE <| And.intro hkl <| And.intro hs' <| And.intro hsE <| And.intro hX8 <| And.intro hXi <| hLb
          refine k_run ?_
          repeat ((first | refine wSc (id := 17) qsWc0 mixed ?_ | refine wSc (id := 19) qsWc1 mixed ?_); refine k_rund ?_; refine k_run ?_)
          clear fx
        · exact ⟨S.length - (j + 1), by omega, j + 1, L ++ [none], rfl, by omega, by rw [List.take_add_one, hx, List.map_append, hL]; simp [hsv], by simp [hLl], by simp [h12]; exact wrp (by omega) (by omega), by simp, by simp [← slrows_app]; rfl, by simp [h10], by simp [hp10], by simp [h9], by simp [h8], by simp [h7], by simp [h5], (have ow := hO; OwnW.re ow), by simp [h2], by simp [hp2], by simp [h6], ⟨by simp [ht], fun q v hq => ⟨by simp [(he q v hq).names], by simp [(he q v hq).vals]⟩⟩⟩
        · exact ⟨S.length - (j + 1), by omega, j + 1, L ++ [some (v1, v2)], rfl, by omega, by rw [List.take_add_one, hx, List.map_append, hL]; simp [hsv], by simp [hLl], by simp [h12]; exact wrp (by omega) (by omega), by simp, by simp [← slrows_app]; rfl, by simp [h10], by simp [hp10], by simp [h9], by simp [h8], by simp [h7], by simp [h5], (have ow := hO; OwnW.re ow), by simp [h2], by simp [hp2], by simp [h6], ⟨by simp [ht], fun q v hq => ⟨by simp [(he q v hq).names], by simp [(he q v hq).vals]⟩⟩⟩
      have hk2' : (k.kind == 2) = false := by rw [beq_eq_false_iff_ne]; exact hk2
      have hk1 : k.kind = 1 := by
        have := hP.sh.head c.blk k hk
        unfold HeadOk at this
        rw [if_neg hb0] at this
        omega
      rw [← hbk] at hk hxs
      have hkc := hk
      rw [hbk] at hkc
      obtain ⟨s, hsv⟩ : ∃ s, slotV p W a X = s := ⟨_, rfl⟩
      have hout := fun H hO => outward_fn gl H p W a X k hP.sh hw hal hX8 hk hk1 hxs hO
      have hsv2 : W.get (some (climb W.acts (holdB p (W.blk a) X) a a)) X = s := by
        rw [← hsv]
        simp only [slotV]
        rw [if_neg (by rw [hbk]; exact hb0), if_neg (by rw [hbk, hkk, hk1]; decide)]
      rw [hsv2] at hout
      have fx := And.intro h12 <| And.intro h11 <| And.intro hp11 <| And.intro h10 <| And.intro hp10 <| And.intro h9 <| And.intro h8 <| And.intro h5 <| And.intro h2 <| And.intro hp2 <| And.intro hT <| And.intro hjl <| And.intro hx <| And.intro hxE <| And.intro hb0' <| And.intro hk2' <| And.intro hkc <| And.intro hkE <| And.intro hkl <| And.intro hX8 <| hXi
      refine k_run ?_
      repeat ((first | refine wSc (id := 17) qsWc0 mixed ?_ | refine wSc (id := 19) qsWc1 mixed ?_); refine k_rund ?_; refine k_run ?_)
      clear fx
      intro K hK
      have fx := And.intro h12 (And.intro h11 (And.intro h10 (And.intro h9 (And.intro h8 (And.intro h5 hT)))))
      refine x_mut Wn rfl (by simp [hT]) (hF := hout _ (have ow := hO; OwnW.re ow)) (h := ?_)
      rintro y H1 ⟨rfl, hO1⟩
      clear fx
      have hT1 := hO1.top
      simp only [wRow] at hT1
      rcases s with _ | ⟨v1, v2⟩
      all_goals
        have fx := And.intro h12 <| And.intro h11 <| And.intro hp11 <| And.intro h10 <| And.intro h9 <| And.intro h8 <| And.intro h5 <| And.intro hT1 <| hLb
        refine k_run ?_
        repeat ((first | refine wSc (id := 17) qsWc0 mixed ?_ | refine wSc (id := 19) qsWc1 mixed ?_); refine k_rund ?_; refine k_run ?_)
        clear fx
      · exact ⟨S.length - (j + 1), by omega, j + 1, L ++ [none], rfl, by omega, by rw [List.take_add_one, hx, List.map_append, hL]; simp [hsv], by simp [hLl], by simp [h12]; exact wrp (by omega) (by omega), by simp, by simp [← slrows_app]; rfl, by simp [h10], by simp [hp10], by simp [h9], by simp [h8], by simp [h7], by simp [h5, hT], (have ow := hO1; OwnW.re ow), by simp [h2], by simp [hp2], by simp [h6], ⟨by simp [ht], fun q v hq => ⟨by simp [(he q v hq).names], by simp [(he q v hq).vals]⟩⟩⟩
      · exact ⟨S.length - (j + 1), by omega, j + 1, L ++ [some (v1, v2)], rfl, by omega, by rw [List.take_add_one, hx, List.map_append, hL]; simp [hsv], by simp [hLl], by simp [h12]; exact wrp (by omega) (by omega), by simp, by simp [← slrows_app]; rfl, by simp [h10], by simp [hp10], by simp [h9], by simp [h8], by simp [h7], by simp [h5, hT], (have ow := hO1; OwnW.re ow), by simp [h2], by simp [hp2], by simp [h6], ⟨by simp [ht], fun q v hq => ⟨by simp [(he q v hq).names], by simp [(he q v hq).vals]⟩⟩⟩
    · obtain rfl : j = S.length := by omega
      rw [List.take_length] at hL
      have hLS : L.length = S.length := hLl
      have hvw := view_fn gl c.blk S L hLS hSl
      have hzip : S.zip L = S.map fun x => (x, slotV p W a x) := by rw [hL]; exact zip_map_self _ S
      obtain ⟨v, hv'⟩ : ∃ v : Vw, v = ⟨c.blk, vnames (S.zip L), vvals (S.zip L)⟩ := ⟨_, rfl⟩
      have hve : viewV p W a = v := by
        rw [hv', hzip]
        simp only [viewV, hbk, ← hSe]
      rw [← hv'] at hvw
      have hnst := hw.nstk
      have hvl2 : vs.length ≤ 1000 := by omega
      have fx := And.intro h12 <| And.intro h11 <| And.intro hp11 <| And.intro h10 <| And.intro hp10 <| And.intro h9 <| And.intro h6 <| hjl
      have e1 := hvw
      refine k_run ?_
      repeat ((first | refine wSc (id := 17) qsWc0 mixed ?_ | refine wSc (id := 19) qsWc1 mixed ?_); refine k_rund ?_; refine k_run ?_)
      clear fx e1
      rintro K hK y H2 ⟨rfl, hVv⟩
      obtain ⟨o1, o2⟩ := hVv.hcln
      refine ⟨by simp, ?_⟩
      have fx := And.intro h6 <| And.intro ht <| And.intro h7 <| And.intro hvl2 <| And.intro o1 <| o2
      refine k_run ?_
      repeat ((first | refine wSc (id := 17) qsWc0 mixed ?_ | refine wSc (id := 19) qsWc1 mixed ?_); refine k_rund ?_; refine k_run ?_)
      clear fx
      refine ⟨W.stack.length - (i + 1), by omega, i + 1, vs ++ [v], rfl, by omega, by rw [List.take_add_one, ha, List.map_append, hvs]; simp [hve], by simp [hvl], by simp [h7]; exact wrp (by omega) (by omega), by simp [h5], (have ow := hO; OwnW.re ow), by simp [h2], by simp [hp2], by simp, ⟨?_, fun q d hq => ?_⟩⟩
      · simp [ht, vwRows_app]
      · rcases Nat.lt_or_ge q vs.length with hlq | hgq
        · rw [List.getElem?_append_left hlq] at hq
          have hne : ¬ q = vs.length := by omega
          obtain ⟨e1, e2⟩ := he q d hq
          exact ⟨by simp [hne, e1], by simp [hne, e2]⟩
        · rw [List.getElem?_append_right hgq] at hq
          obtain rfl : q = vs.length := by
            have := (gS hq).1
            simp at this
            omega
          simp at hq
          subst hq
          exact ⟨by simp [o1], by simp [o2]⟩
  · obtain rfl : i = W.stack.length := by omega
    rw [List.take_length] at hvs
    have hve : vs = viewsV p W := hvs
    subst hve
    have fx := And.intro h5 <| And.intro h7 <| And.intro hT <| And.intro hil <| And.intro h6 <| ht
    refine k_run ?_
    repeat ((first | refine wSc (id := 17) qsWc0 mixed ?_ | refine wSc (id := 19) qsWc1 mixed ?_); refine k_rund ?_; refine k_run ?_)
    clear fx
    refine e_ret [(.s 4, root)] (.one rfl) (by simp; rfl) ⟨by simp, ⟨by simp [ht, vwRows_tr (n := .s 4) (m := root) (f := finf noD [(.s 4, root)]) (by simp)], fun q v hq => ⟨by simp [(he q v hq).names], by simp [(he q v hq).vals]⟩⟩⟩
end Go.Proofs.YtcbkblboonkfhaaGreat
end
