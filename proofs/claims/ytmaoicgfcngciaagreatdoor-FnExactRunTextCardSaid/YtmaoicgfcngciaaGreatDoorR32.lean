/-
  Own texts, joined by mkclaim.py: Qg, Qh, Qi, Qj, Qk, Ql, Qn.
-/
import Derived.Test.YtmaoicgfcngciaaGreatDoorR31
import Derived.Test.YtmaoicgfcngciaaGreatDoorR25
import Derived.Test.YtmaoicgfcngciaaGreatDoorR14
import Derived.Test.YtmaoicgfcngciaaGreatDoorR26
set_option linter.unusedSimpArgs false
set_option linter.unusedVariables false
set_option maxRecDepth 100000
set_option maxHeartbeats 4000000

section
namespace Go.Proofs.YtmaoicgfcngciaaGreatDoor
open Go Go.Hm Go.Proofs
abbrev qsQg0 : Sch := .q 0 <| .q 1 <| .q 2 <| .q 3 <| .q 4 <| .q 5 <| .q 6 <| .q 7 <| .q 8 <| .l 9 [7, 6, 5, 4, 3, 2, 1, 0] <| .l 10 [7, 6, 5, 4, 3, 2, 1, 0] <| .l 11 [7, 6, 5, 3, 2, 1, 0] <| .q 12 <| .q 13 <| .l 14 [12] <| .done
theorem mrows_sc {ms : NMap} : ∀ e ∈ mrows ms, ∀ f : Nm → Option Nm, e.1.tr f = e.1 ∧ e.2.tr f = e.2 := by
  intro e he f
  simp only [mrows, List.mem_map] at he
  obtain ⟨q, _, rfl⟩ := he
  simp
theorem class_fn (gl) (F : Nat) (p : Prg) (n : Nat) (hR : MBok gl F p n) (H : Nm → Option AO) (W : Wld) (a b : Nat) (hP : ValP p) (hw : WOk p W) (hn : W.left < n) (h0 : W.en = 0) (hm : madeAt p W.acts b a) (hr : Room 2 W) (hO : OwnM H F p W) (hV : H (.u 2 0 0) = none) :
    FnE Tryz.prog gl 213 DM [.pt Mn 0, ptE a, iv b] H (fun _ y H' => y = .tup [Val.av (classW p (runW p n) W b a).2, bv (decide ((classW p (runW p n) W b a).1.en = 0))] ∧ OwnM H' F p (classW p (runW p n) W b a).1) noE := by
  obtain ⟨k, hk, hpk⟩ := hm.shape
  obtain ⟨hbl, hkE⟩ := gS hk
  have hT := hO.top
  simp only [mRow] at hT
  have hpos : ¬ W.acts.length = 0 := by
    obtain ⟨a, ha, _⟩ := hw.a0
    have := (gS ha).1
    omega
  have hpos' : ¬ 0 = W.acts.length := fun e => hpos e.symm
  have hupl : ¬ a = W.acts.length := by
    obtain ⟨c, _, e, _⟩ := hm
    have := (gS e).1
    omega
  have hno : ∀ j, H (.u 7 W.acts.length j) = none := fun j => by
    cases e : H (.u 7 W.acts.length j) with
    | none => rfl
    | some o =>
      rcases hO.only 7 W.acts.length j rfl (by rw [e]; simp) with ⟨h, _⟩ | ⟨_, h, _⟩ | ⟨h, _⟩
      · cases h
      · omega
      · cases h
  have hbeg : actI p W b a [] 0 = { beginW p W b a [] with stack := W.stack } := by
    simp [actI, begI, beginW, bindP]
  have hcl : classW p (runW p n) W b a = if (enterW p (runW p n) W b a []).1.en ≠ 0 then ((enterW p (runW p n) W b a []).1, (0, 0)) else
    ({ (enterW p (runW p n) W b a []).1 with classes := (enterW p (runW p n) W b a []).1.classes ++ [(enterW p (runW p n) W b a []).1.vars (some W.acts.length)] }, (3, ((enterW p (runW p n) W b a []).1.classes.length : Int))) := rfl
  obtain ⟨⟨e1, e2, e3⟩, e4⟩ := enterW_ok (vs := []) (runW_ok hP.sh n) hw hn h0 hm (by simp) (hr.mono (by omega))
  have hrc : (enterW p (runW p n) W b a []).1.classes.length ≤ 1000 := by have := e1.ncls; omega
  have hlen : W.acts.length < (enterW p (runW p n) W b a []).1.acts.length := by
    obtain ⟨g1, g2⟩ := beginW_ok (vs := []) hw hm (fun v hv => by simp at hv) (hr.mono (by omega))
    obtain ⟨⟨_, r2, _⟩, _⟩ := runW_ok hP.sh n (beginW p W b a []) W.acts.length g1 hn (by simp [beginW]) h0
    have := r2.lacts
    unfold enterW endW
    split <;> simp [beginW] at this ⊢ <;> omega
  have hlf : W.funs.length ≤ (enterW p (runW p n) W b a []).1.funs.length := e2.lfuns
  have hent := enterM_fn gl F p n hR (W := W) (b := b) (up := a) (vs := [])
  refine FnE.of_sem Tryz.func213 rfl (by kernel_rfl) (rs := [.cell 6 171, .tmp 7]) rfl Tryz.ntmps213 (Nat.le_of_ble_eq_true rfl) (fun _ => DM_root) fun C w g root hroot => ?_
  have fx := fx0
  refine k_run ?_
  repeat ((first | refine wSc (id := 5) qsQg0 mixed ?_); refine k_rund ?_; refine k_run ?_)
  clear fx
  intro K hK
  have fx := fx0
  refine x_map (h := ?_)
  clear fx
  have fx :=  hT
  refine k_run ?_
  repeat ((first | refine wSc (id := 5) qsQg0 mixed ?_); refine k_rund ?_; refine k_run ?_)
  clear fx
  intro K hK
  refine o_mv (.s 8) (En W.acts.length) (.inl rfl) (.inr (by simp [ctx0, hno])) ?_
  have fx := hT
  refine x_callM hO (w := actI p W b a [] 0) ?_ (by simp [actI, begI]) (Nat.le_refl _) (hF := fun hs => hent _ hP hw hn h0 hm (by simp) (hr.mono (by omega)) (by rw [← hbeg]; exact hs) (by simp [hV])) (h := ?_)
  · clear fx
    refine ⟨by simp [mRow, actI, begI, hO.top, hpos'], ⟨by simp [hO.scs.top], fun j k hj hk => by simp [hO.scs.sc j k hj hk]⟩, by simp [actI, begI, hO.out], by simp [actI, begI, hO.trc], hO.run.imp fun l hl => ⟨fun i hi => by have := hl.1 i hi; simp [actI, begI]; omega, ?_⟩, by simp [actI, begI, hO.funs], fun k' g hg => ?_, by simp [actI, begI, hO.clss], fun k c hc => (hO.cls k c hc).imp fun ms hm => ⟨by simp [hm.1], hm.2⟩, fun i d hd => ?_, fun i hi => ?_, fun k' i j hk' hn => ?_⟩
    · simp [hl.2, actI]
      refine erows_lt fun i hi => ?_
      have hlt : i < W.acts.length := by
        rcases List.mem_append.1 hi with e | e
        · exact hw.stk i e
        · exact hl.1 i e
      have hne : ¬ i = W.acts.length := by omega
      simp [hne]
    · have hgl : ¬ g.2 = W.acts.length := by
        obtain ⟨c, _, e, _⟩ := hw.funs k' g hg
        have := (gS e).1
        omega
      simp [hO.bx k' g hg, hgl]
    · simp only [actI, begI] at hd
      rcases Nat.lt_or_ge i W.acts.length with hlt | hge
      · rw [List.getElem?_append_left hlt] at hd
        have hne : ¬ i = W.acts.length := by omega
        have hne' : ¬ W.acts.length = i := by omega
        by_cases e0 : i = 0
        · subst e0
          simp [hO.env 0 d hd, envRow, hne, hne']
        · have hup := (hw.up i d hd (by omega)).1
          have hupn : ¬ d.up = W.acts.length := by omega
          simp [hO.env i d hd, envRow, e0, hne, hne', hupn]
      · rw [List.getElem?_append_right hge] at hd
        have hi : i = W.acts.length := by
          have := (gS hd).1
          simp at this
          omega
        subst hi
        simp at hd
        subst hd
        simp [envRow, hpos, hupl]
    · by_cases e : i = W.acts.length
      · subst e
        rw [actI_nmsL (vs := []) hpos hk]
        exact ⟨[], by simp, by simpa [bindP] using MapOk.nil⟩
      · rw [actI_nms e]
        have hlt : i < W.acts.length := by
          simp [actI, begI] at hi
          omega
        have hne' : ¬ W.acts.length = i := by omega
        exact (hO.nms i hlt).imp fun ms hm => ⟨by simp [hm.1, e, hne'], hm.2⟩
    · by_cases e7 : k' = 7 ∧ i = W.acts.length ∧ j = 0
      · exact .inr (.inl ⟨e7.1, by simp [actI, begI]; omega, e7.2.2⟩)
      · by_cases e1 : k' = 1 ∧ i = 0 ∧ j = 0
        · exact .inl e1
        · have hn' : H (.u k' i j) ≠ none := by simpa [hk', e1, e7] using hn
          rcases hO.only k' i j hk' hn' with h | h | h
          · exact .inl h
          · exact .inr (.inl ⟨h.1, by simp [actI, begI]; omega, h.2.2⟩)
          · exact .inr (.inr h)
  rintro y H2 ⟨rfl, hO2⟩
  clear fx
  generalize enterW p (runW p n) W b a [] = q2 at hO2 hcl e1 hrc hlen hlf
  obtain ⟨U, v1, v2⟩ := q2
  simp only at hO2 hcl e1 hrc hlen hlf
  have hT2 := hO2.top
  simp only [mRow] at hT2
  obtain ⟨d, hd⟩ : ∃ d, U.acts[W.acts.length]? = some d := ⟨_, gE hlen⟩
  have hE2 := hO2.env W.acts.length d hd
  simp only [envRow, hpos, if_false] at hE2
  by_cases hen2 : U.en = 0
  case neg =>
    rw [if_pos hen2] at hcl
    have fx := And.intro hT <| And.intro hT2 <| And.intro hen2 <| hE2
    refine k_run ?_
    repeat ((first | refine wSc (id := 5) qsQg0 mixed ?_); refine k_rund ?_; refine k_run ?_)
    clear fx
    rw [hcl]
    refine e_ret [] .nil (by simp; rfl) ⟨by simp [hen2], OwnM.fin (have om := hO2; OwnM.re om)⟩
  rw [if_neg (by simpa using hen2)] at hcl
  obtain ⟨ms, hms, hmo⟩ := hO2.nms W.acts.length hlen
  have hnv : U.nms W.acts.length = U.vars (some W.acts.length) := by simp [Wld.nms, Wld.vars, hpos, hd]
  rw [hnv] at hmo
  generalize hnve : U.vars (some W.acts.length) = nv at hmo hcl hnv
  have fx := And.intro hT <| And.intro hT2 <| And.intro hen2 <| And.intro hE2 <| hms
  refine k_run ?_
  repeat ((first | refine wSc (id := 5) qsQg0 mixed ?_); refine k_rund ?_; refine k_run ?_)
  clear fx
  intro K hK
  have fx := And.intro hT (And.intro hT2 (And.intro hE2 hms))
  refine x_clone rfl (n := .c (En W.acts.length) 0 1) (es := mrows ms) (hsc := mrows_sc) (h := ?_)
  clear fx
  have hC := hO2.clss
  have hwr : IntKind.i64.wrap (U.classes.length : Int) = U.classes.length := wrp (by omega) (by omega)
  have fx := And.intro hT <| And.intro hT2 <| And.intro hE2 <| hms
  refine k_run ?_
  repeat ((first | refine wSc (id := 5) qsQg0 mixed ?_); refine k_rund ?_; refine k_run ?_)
  clear fx
  refine o_mv (.c (.s 35) 0 0) (.c Mn (U.classes.length + 1) 9) (.inl rfl) (.inl rfl) ?_
  have fx := And.intro hT <| And.intro hT2 <| And.intro hC <| And.intro hrc <| And.intro hwr <| And.intro hE2 <| hms
  refine k_run ?_
  repeat ((first | refine wSc (id := 5) qsQg0 mixed ?_); refine k_rund ?_; refine k_run ?_)
  clear fx
  rw [hcl]
  have hap : cmpRows Mn U.classes ++ [[.mp (.c Mn (U.classes.length + 1) 9)]] = cmpRows Mn (U.classes ++ [nv]) := cmpRows_app
  refine e_ret [] .nil (by simp; rfl) ⟨by simp [hen2], OwnM.fin ⟨by simp [hT2, mRow], ⟨by simp [hO2.scs.top], fun j k hj hk => by simp [hO2.scs.sc j k hj hk]⟩, by simp [hO2.out], by simp [hO2.trc], hO2.run.imp fun l hl => ⟨hl.1, by simp [hl.2]⟩, by simp [hO2.funs], fun k g hg => by simp [hO2.bx k g hg], ?_, fun k c hc => ?_, fun i a ha => by simp [hO2.env i a ha], fun i hi => ?_, fun k i j hk hn => if e : k = 1 ∧ i = 0 ∧ j = 0 then .inl e else hO2.only k i j hk (by simpa [hk, e] using hn)⟩⟩
  · simp [← hap]
    rw [List.take_of_length_le (by simp)]
    refine cmpRows_map fun i c hc => ?_
    have hne : ¬ i = U.classes.length := by have := (gS hc).1; omega
    have hne' : ¬ U.classes.length = i := by omega
    simp [hne, hne']
  · simp only at hc
    rcases Nat.lt_or_ge k U.classes.length with hlt | hge
    · rw [List.getElem?_append_left hlt] at hc
      have hne : ¬ k = U.classes.length := by omega
      have hne' : ¬ U.classes.length = k := by omega
      exact (hO2.cls k c hc).imp fun ms hm => ⟨by simp [hm.1, hne, hne'], hm.2⟩
    · rw [List.getElem?_append_right hge] at hc
      have hi : k = U.classes.length := by
        have := (gS hc).1
        simp at this
        omega
      subst hi
      simp at hc
      subst hc
      exact ⟨ms, by simp, hmo⟩
  · by_cases e : i = W.acts.length
    · subst e
      have hnv' : ({ U with classes := U.classes ++ [nv] } : Wld).nms W.acts.length = nv := hnv
      exact ⟨ms, by simp [hms], by rw [hnv']; exact hmo⟩
    · exact (hO2.nms i hi).imp fun ms hm => ⟨by simp [hm.1, e], hm.2⟩
abbrev qsQh0 : Sch := .q 0 <| .q 1 <| .q 2 <| .q 3 <| .q 4 <| .q 5 <| .q 6 <| .q 7 <| .l 8 [7, 6, 5, 4, 3, 2, 1, 0] <| .l 9 [] <| .done
@[simp] theorem nilS_nfn : isNilS (AV.sc .nilFunc) = false := rfl
@[simp] theorem nilS_fn {f : Fn} {xs ys : List AV} : isNilS (AV.fn f xs ys) = false := rfl
theorem callM_fn (gl) (p : Prg) (n : Nat) (hR : MBok gl 226 p n) (H : Nm → Option AO) (W : Wld) (f : Val) (lo : Nat) (vs all : List Val) (hP : ValP p) (hw : WOk p W) (hn : W.left < n) (h0 : W.en = 0) (hf : VOk W.funs.length W.classes.length f) (hv : ∀ v ∈ vs, VOk W.funs.length W.classes.length v) (hr : Room 1 W)
    (hall : all.drop lo = vs) (hlo : lo + vs.length = all.length) (hv2 : vs.length ≤ 1) (hO : OwnM H 226 p W) (hL : H (.u 2 0 0) = some (.row 2 (vrows all))) :
    FnE Tryz.prog gl 214 DM2 [.pt Mn 0, Val.av f, .hs (.u 2 0 0) 2 lo vs.length] H (fun _ y H' => y = .tup [Val.av (callW p (runW p n) W f vs).2, bv (decide ((callW p (runW p n) W f vs).1.en = 0))] ∧ OwnM H' 226 p (callW p (runW p n) W f vs).1) noE := by
  have hT := hO.top
  simp only [mRow] at hT
  obtain ⟨f1, f2⟩ := f
  refine FnE.of_sem Tryz.func214 rfl (by kernel_rfl) (rs := [.cell 6 171, .tmp 7]) rfl Tryz.ntmps214 (Nat.le_of_ble_eq_true rfl) (fun _ => DM2_root) fun C w g root hroot => ?_
  by_cases h2 : f1 = 2
  · subst h2
    have hf2 := hf.num
    have hf3 := hf.fn rfl
    simp only at hf2 hf3
    obtain ⟨i, rfl⟩ : ∃ i : Nat, f2 = i := ⟨f2.toNat, by omega⟩
    have hil : i < W.funs.length := by omega
    obtain ⟨⟨g1, g2⟩, hg⟩ : ∃ g, W.funs[i]? = some g := ⟨_, gE hil⟩
    obtain ⟨_, hgE⟩ := gS hg
    have hm := hw.funs i _ hg
    obtain ⟨k, hk, hpk⟩ := hm.shape
    have hF := hO.funs
    have hcc : cloC 226 p i (g1, g2) = [iv (parN p g1), .fn (.func 226) [] [.pt (.u 8 i 0) 0, .pt (.u 8 i 1) 0, .pt (.u 8 i 2) 0, .pt (.u 8 i 3) 0]] := rfl
    obtain ⟨c1, c2, c3, c4⟩ := hO.bx i _ hg
    simp only at hm hk hpk c1 c2 c3 c4
    by_cases hl : parN p g1 = vs.length
    · have hc : callW p (runW p n) W (2, (i : Int)) vs = enterW p (runW p n) W g1 g2 vs := by
        simp [callW, hg, hl]
      have hlb : ((parN p g1 : Int) == (vs.length : Int)) = true := by rw [hl]; simp
      have fx := And.intro hT <| And.intro hF <| And.intro hil <| And.intro hg <| And.intro hgE <| And.intro hcc <| And.intro hlb <| @bne_def
      refine k_run ?_
      repeat ((first | refine wSc (id := 3) qsQh0 mixed ?_); refine k_rund ?_; refine k_run ?_)
      clear fx
      intro K hK
      have fx := And.intro hT hF
      refine x_callMv (xs := []) (ys := [.pt (.u 8 i 0) 0, .pt (.u 8 i 1) 0, .pt (.u 8 i 2) 0, .pt (.u 8 i 3) 0]) hO (have om := hO; OwnM.re om) (by simp [hL]) (Nat.le_refl _) (Nat.le_refl _) (hF := fun hs => closure_fn gl _ p n hR _ W i g1 g2 lo vs all hP hw hn h0 hg hv hr hall hlo hl hv2 hs (by simp [hL])) (h := ?_)
      rintro y H1 ⟨rfl, hO1⟩
      clear fx
      have hT1 := hO1.top
      simp only [mRow] at hT1
      have fx := And.intro hT <| hT1
      refine k_run ?_
      repeat ((first | refine wSc (id := 3) qsQh0 mixed ?_); refine k_rund ?_; refine k_run ?_)
      clear fx
      rw [hc]
      refine e_ret [] .nil (by simp; rfl) ⟨by simp, OwnM.fin (have om := hO1; OwnM.re om)⟩
    · have hc : callW p (runW p n) W (2, (i : Int)) vs = ({ W with en := 6 }, (0, 0)) := by
        simp [callW, hg, hl]
      have hlb : ((parN p g1 : Int) == (vs.length : Int)) = false := by
        rw [beq_eq_false_iff_ne]
        omega
      have fx := And.intro hT <| And.intro hF <| And.intro hil <| And.intro hg <| And.intro hgE <| And.intro hcc <| And.intro hlb <| @bne_def
      refine k_run ?_
      repeat ((first | refine wSc (id := 3) qsQh0 mixed ?_); refine k_rund ?_; refine k_run ?_)
      clear fx
      intro K hK
      have fx := hT
      refine x_callM hO (have om := hO; OwnM.re om) (Nat.le_refl _) (Nat.le_refl _) (hF := fun hs => stop_fn _ _ _ p W 6 hs) (h := ?_)
      rintro y H2 ⟨rfl, hO2⟩
      clear fx
      have hT2 := hO2.top
      simp only [mRow] at hT2
      have fx := And.intro hT <| hT2
      refine k_run ?_
      repeat ((first | refine wSc (id := 3) qsQh0 mixed ?_); refine k_rund ?_; refine k_run ?_)
      clear fx
      rw [hc]
      refine e_ret [] .nil (by simp; rfl) ⟨by simp, OwnM.fin (have om := hO2; OwnM.re om)⟩
  · have hb1 : (f1 == 2) = false := by simpa using h2
    have hc : callW p (runW p n) W (f1, f2) vs = ({ W with en := 5 }, (0, 0)) := by simp [callW, h2]
    have fx := And.intro hT <| And.intro hb1 <| @bne_def
    refine k_run ?_
    repeat ((first | refine wSc (id := 3) qsQh0 mixed ?_); refine k_rund ?_; refine k_run ?_)
    clear fx
    intro K hK
    have fx := hT
    refine x_callM hO (have om := hO; OwnM.re om) (Nat.le_refl _) (Nat.le_refl _) (hF := fun hs => stop_fn _ _ _ p W 5 hs) (h := ?_)
    rintro y H2 ⟨rfl, hO2⟩
    clear fx
    have hT2 := hO2.top
    simp only [mRow] at hT2
    have fx := And.intro hT <| hT2
    refine k_run ?_
    repeat ((first | refine wSc (id := 3) qsQh0 mixed ?_); refine k_rund ?_; refine k_run ?_)
    clear fx
    rw [hc]
    refine e_ret [] .nil (by simp; rfl) ⟨by simp, OwnM.fin (have om := hO2; OwnM.re om)⟩
end Go.Proofs.YtmaoicgfcngciaaGreatDoor
end
section
namespace Go.Proofs.YtmaoicgfcngciaaGreatDoor
open Go Go.Hm Go.Proofs
abbrev qsQi0 : Sch := .q 0 <| .q 1 <| .q 2 <| .q 3 <| .q 4 <| .q 5 <| .q 6 <| .l 7 [5, 4, 2, 1] <| .q 8 <| .q 9 <| .l 10 [] <| .l 11 [] <| .done
abbrev qsQi1 : Sch := .q 0 <| .q 1 <| .q 2 <| .q 3 <| .q 4 <| .q 5 <| .l 6 [4, 2, 1] <| .q 7 <| .q 8 <| .l 9 [] <| .l 10 [] <| .done
theorem valueOfM_fn (gl) (p : Prg) (n : Nat) (hR : MBok gl 226 p n) (H : Nm → Option AO) (W : Wld) (a : Nat) (k : Blk) (s : Stm) (vs : List Val) (hP : ValP p) (hw : WOk p W) (hn : W.left < n) (h0 : W.en = 0) (ha : a < W.acts.length) (hk : p[W.blk a]? = some k) (hs : s ∈ k.body) (hkd : 0 ≤ s.kind ∧ s.kind ≤ 6) (hr : Room 2 W)
    (hl : vs.length = s.reads.length) (hvok : ∀ v ∈ vs, VOk W.funs.length W.classes.length v) (hO : OwnM H 226 p W) (hL : H (.u 2 0 0) = some (.row 2 (vrows vs))) :
    FnE Tryz.prog gl 196 DM2 [.pt Mn 0, ptE a, s.av, .hs (.u 2 0 0) 2 0 vs.length] H (fun _ y H' => y = .tup [Val.av (workW p (runW p n) W a s vs).2, bv (decide ((workW p (runW p n) W a s vs).1.en = 0))] ∧ OwnM H' 226 p (workW p (runW p n) W a s vs).1) noE := by
  have hT := hO.top
  simp only [mRow] at hT
  have hst := hP.sh.stm _ k hk s hs
  have hnm := hP.sh.names k (List.mem_of_getElem? hk)
  have hp1 := hL
  obtain ⟨c, hc⟩ : ∃ c, W.acts[a]? = some c := ⟨_, gE ha⟩
  have hE := hO.env a c hc
  obtain ⟨kd, to, sa, sb⟩ := s
  simp only at hkd
  refine FnE.of_sem Tryz.func196 rfl (by kernel_rfl) (rs := [.cell 8 171, .tmp 9]) rfl Tryz.ntmps196 (Nat.le_of_ble_eq_true rfl) (fun _ => DM2_root) fun C w g root hroot => ?_
  have hkc : kd = 0 ∨ kd = 1 ∨ kd = 2 ∨ kd = 3 ∨ kd = 4 ∨ kd = 5 ∨ kd = 6 := by omega
  rcases hkc with rfl | rfl | rfl | rfl | rfl | rfl | rfl
  · have hw0 : workW p (runW p n) W a ⟨0, to, sa, sb⟩ vs = (W, (1, sa)) := by simp [workW]
    have fx := And.intro hT <| And.intro hp1 <| @bne_def
    refine k_run ?_
    repeat ((first | refine wSc (id := 7) qsQi0 mixed ?_ | refine wSc (id := 13) qsQi1 mixed ?_ | refine wSc (id := 14) qsQi1 mixed ?_); refine k_rund ?_; refine k_run ?_)
    clear fx
    rw [hw0]
    refine e_ret [] .nil (by simp; rfl) ⟨by simp [h0], OwnM.fin (have om := hO; OwnM.re om)⟩
  · obtain ⟨u, rfl⟩ : ∃ u, vs = [u] := by
      match vs, hl with
      | [u], _ => exact ⟨u, rfl⟩
      | [], h => simp [Stm.reads] at h
      | _ :: _ :: _, h => simp [Stm.reads] at h
    have hw0 : workW p (runW p n) W a ⟨1, to, sa, sb⟩ [u] = (W, u) := by simp [workW]
    have fx := And.intro hT <| And.intro hp1 <| @bne_def
    refine k_run ?_
    repeat ((first | refine wSc (id := 7) qsQi0 mixed ?_ | refine wSc (id := 13) qsQi1 mixed ?_ | refine wSc (id := 14) qsQi1 mixed ?_); refine k_rund ?_; refine k_run ?_)
    clear fx
    rw [hw0]
    refine e_ret [] .nil (by simp; rfl) ⟨by simp [h0], OwnM.fin (have om := hO; OwnM.re om)⟩
  · obtain ⟨u, v, rfl⟩ : ∃ u v, vs = [u, v] := by
      match vs, hl with
      | [u, v], _ => exact ⟨u, v, rfl⟩
      | [], h => simp [Stm.reads] at h
      | [_], h => simp [Stm.reads] at h
      | _ :: _ :: _ :: _, h => simp [Stm.reads] at h
    have hw0 : workW p (runW p n) W a ⟨2, to, sa, sb⟩ [u, v] = plusW W u v := by simp [workW]
    have fx := And.intro hT <| And.intro hp1 <| @bne_def
    refine k_run ?_
    repeat ((first | refine wSc (id := 7) qsQi0 mixed ?_ | refine wSc (id := 13) qsQi1 mixed ?_ | refine wSc (id := 14) qsQi1 mixed ?_); refine k_rund ?_; refine k_run ?_)
    clear fx
    intro K hK
    have fx := And.intro hT hp1
    refine x_callM hO (have om := hO; OwnM.re om) (Nat.le_refl _) (Nat.le_refl _) (hF := fun hs => add_fn _ _ _ p W u v h0 (hvok u (by simp)) (hvok v (by simp)) hs) (h := ?_)
    rintro y H2 ⟨rfl, hO2⟩
    clear fx
    have hT2 := hO2.top
    simp only [mRow] at hT2
    have fx := And.intro hT <| And.intro hp1 <| And.intro hT2 <| @bne_def
    refine k_run ?_
    repeat ((first | refine wSc (id := 7) qsQi0 mixed ?_ | refine wSc (id := 13) qsQi1 mixed ?_ | refine wSc (id := 14) qsQi1 mixed ?_); refine k_rund ?_; refine k_run ?_)
    clear fx
    rw [hw0]
    refine e_ret [] .nil (by simp; rfl) ⟨by simp, OwnM.fin (have om := hO2; OwnM.re om)⟩
  · obtain ⟨q, hq1, hq2, hq3, hq4⟩ := StmOk.made hst (.inl rfl)
    simp only at hq1 hq3
    obtain ⟨A, rfl⟩ : ∃ A : Nat, sa = A := ⟨sa.toNat, by omega⟩
    simp only [Int.toNat_natCast] at hq1
    have hw0 : workW p (runW p n) W a ⟨3, to, (A : Int), sb⟩ vs = ({ W with funs := W.funs ++ [(A, a)] }, (2, (W.funs.length : Int))) := by simp [workW]
    have fx := And.intro hT <| And.intro hp1 <| @bne_def
    refine k_run ?_
    repeat ((first | refine wSc (id := 7) qsQi0 mixed ?_ | refine wSc (id := 13) qsQi1 mixed ?_ | refine wSc (id := 14) qsQi1 mixed ?_); refine k_rund ?_; refine k_run ?_)
    clear fx
    intro K hK
    have fx := hT
    refine x_callM hO (have om := hO; OwnM.re om) (Nat.le_refl _) (Nat.le_refl _) (hF := fun hs => function_fn _ _ p W a A q hw ha hq1 (hr.mono (by omega)) (by have hh := hP.sh.head A q hq1; simp only [HeadOk] at hh; split at hh <;> omega) hs) (h := ?_)
    rintro y H2 ⟨rfl, hO2⟩
    clear fx
    have hT2 := hO2.top
    simp only [mRow] at hT2
    have fx := And.intro hT <| And.intro hp1 <| And.intro hT2 <| @bne_def
    refine k_run ?_
    repeat ((first | refine wSc (id := 7) qsQi0 mixed ?_ | refine wSc (id := 13) qsQi1 mixed ?_ | refine wSc (id := 14) qsQi1 mixed ?_); refine k_rund ?_; refine k_run ?_)
    clear fx
    rw [hw0]
    refine e_ret [] .nil (by simp; rfl) ⟨by simp [h0], OwnM.fin (have om := hO2; OwnM.re om)⟩
  · have hm := stm_made hst ha (.inr rfl)
    obtain ⟨q, hq1, hq2, hq3, hq4⟩ := StmOk.made hst (.inr rfl)
    simp only at hm hq3
    obtain ⟨A, rfl⟩ : ∃ A : Nat, sa = A := ⟨sa.toNat, by omega⟩
    simp only [Int.toNat_natCast] at hm
    have hw0 : workW p (runW p n) W a ⟨4, to, (A : Int), sb⟩ vs = classW p (runW p n) W A a := by simp [workW]
    have fx := And.intro hT <| And.intro hp1 <| @bne_def
    refine k_run ?_
    repeat ((first | refine wSc (id := 7) qsQi0 mixed ?_ | refine wSc (id := 13) qsQi1 mixed ?_ | refine wSc (id := 14) qsQi1 mixed ?_); refine k_rund ?_; refine k_run ?_)
    clear fx
    intro K hK
    have fx := hT
    refine x_callM hO (have om := hO; OwnM.re om) (Nat.le_refl _) (Nat.le_refl _) (hF := fun hs => class_fn gl _ p n hR _ W a A hP hw hn h0 hm hr hs (by simp)) (h := ?_)
    rintro y H2 ⟨rfl, hO2⟩
    clear fx
    have hT2 := hO2.top
    simp only [mRow] at hT2
    have fx := And.intro hT <| And.intro hp1 <| And.intro hT2 <| @bne_def
    refine k_run ?_
    repeat ((first | refine wSc (id := 7) qsQi0 mixed ?_ | refine wSc (id := 13) qsQi1 mixed ?_ | refine wSc (id := 14) qsQi1 mixed ?_); refine k_rund ?_; refine k_run ?_)
    clear fx
    rw [hw0]
    refine e_ret [] .nil (by simp; rfl) ⟨by simp, OwnM.fin (have om := hO2; OwnM.re om)⟩
  · have hpos : 0 < vs.length := by
      rw [hl]
      by_cases e : sb = -1 <;> simp [Stm.reads, e]
    have hlt : vs.length ≤ 2 := by
      rw [hl]
      by_cases e : sb = -1 <;> simp [Stm.reads, e]
    obtain ⟨u, tl, rfl⟩ : ∃ u tl, vs = u :: tl := by
      match vs, hpos with
      | u :: tl, _ => exact ⟨u, tl, rfl⟩
    have htl : tl.length ≤ 1 := by simp at hlt; omega
    have hw0 : workW p (runW p n) W a ⟨5, to, sa, sb⟩ (u :: tl) = callW p (runW p n) W u tl := by simp [workW]
    have hle1 : (1 : Int) ≤ (tl.length : Int) + 1 := by omega
    have htn : ((tl.length : Int) + 1).toNat = tl.length + 1 := by omega
    have fx := And.intro hT <| And.intro hp1 <| And.intro htl <| And.intro hle1 <| And.intro htn <| @bne_def
    refine k_run ?_
    repeat ((first | refine wSc (id := 7) qsQi0 mixed ?_ | refine wSc (id := 13) qsQi1 mixed ?_ | refine wSc (id := 14) qsQi1 mixed ?_); refine k_rund ?_; refine k_run ?_)
    clear fx
    intro K hK
    have fx := And.intro hT hp1
    refine x_callM2 hO (have om := hO; OwnM.re om) (by simp [hp1]) (Nat.le_refl _) (Nat.le_refl _) (hF := fun hs => callM_fn gl p n hR _ W u 1 tl (u :: tl) hP hw hn h0 (hvok u (by simp)) (fun v hv => hvok v (by simp [hv])) (hr.mono (by omega)) rfl (by simp; omega) htl hs (by simp [hp1])) (h := ?_)
    rintro y H2 ⟨rfl, hO2⟩
    clear fx
    have hT2 := hO2.top
    simp only [mRow] at hT2
    have fx := And.intro hT <| And.intro hp1 <| And.intro hT2 <| And.intro htl <| And.intro hle1 <| And.intro htn <| @bne_def
    refine k_run ?_
    repeat ((first | refine wSc (id := 7) qsQi0 mixed ?_ | refine wSc (id := 13) qsQi1 mixed ?_ | refine wSc (id := 14) qsQi1 mixed ?_); refine k_rund ?_; refine k_run ?_)
    clear fx
    rw [hw0]
    refine e_ret [] .nil (by simp; rfl) ⟨by simp, OwnM.fin (have om := hO2; OwnM.re om)⟩
  · obtain ⟨u, rfl⟩ : ∃ u, vs = [u] := by
      match vs, hl with
      | [u], _ => exact ⟨u, rfl⟩
      | [], h => simp [Stm.reads] at h
      | _ :: _ :: _, h => simp [Stm.reads] at h
    have hsb : 0 ≤ sb ∧ sb ≤ 7 := by
      simp only [StmOk] at hst
      simp at hst
      omega
    obtain ⟨x, rfl⟩ : ∃ x : Nat, sb = x := ⟨sb.toNat, by omega⟩
    have hw0 : workW p (runW p n) W a ⟨6, to, sa, (x : Int)⟩ [u] = attrW W u x := by simp [workW]
    have fx := And.intro hT <| And.intro hp1 <| @bne_def
    refine k_run ?_
    repeat ((first | refine wSc (id := 7) qsQi0 mixed ?_ | refine wSc (id := 13) qsQi1 mixed ?_ | refine wSc (id := 14) qsQi1 mixed ?_); refine k_rund ?_; refine k_run ?_)
    clear fx
    intro K hK
    have fx := And.intro hT hp1
    refine x_callM hO (have om := hO; OwnM.re om) (Nat.le_refl _) (Nat.le_refl _) (hF := fun hs => attribute_fn _ _ _ p W u x h0 hw (hvok u (by simp)) (by omega) hs) (h := ?_)
    rintro y H2 ⟨rfl, hO2⟩
    clear fx
    have hT2 := hO2.top
    simp only [mRow] at hT2
    have fx := And.intro hT <| And.intro hp1 <| And.intro hT2 <| @bne_def
    refine k_run ?_
    repeat ((first | refine wSc (id := 7) qsQi0 mixed ?_ | refine wSc (id := 13) qsQi1 mixed ?_ | refine wSc (id := 14) qsQi1 mixed ?_); refine k_rund ?_; refine k_run ?_)
    clear fx
    rw [hw0]
    refine e_ret [] .nil (by simp; rfl) ⟨by simp, OwnM.fin (have om := hO2; OwnM.re om)⟩
abbrev qsQj0 : Sch := .q 0 <| .q 1 <| .q 2 <| .q 3 <| .q 4 <| .q 5 <| .q 6 <| .q 7 <| .l 8 [6, 5, 4, 3, 2, 1, 0] <| .l 9 [6, 5, 4, 3, 2, 1, 0] <| .l 10 [6, 5, 3, 2, 1, 0] <| .q 11 <| .q 12 <| .l 13 [11] <| .done
abbrev qsQj1 : Sch := .q 0 <| .q 1 <| .q 2 <| .q 3 <| .q 4 <| .q 5 <| .q 6 <| .l 7 [] <| .done
def doW (p : Prg) (R : Wld → Nat → Wld × Val) (W : Wld) (a : Nat) (s : Stm) (vs : List Val) : Wld :=
  if s.kind = 9 ∨ s.kind = 10 then W else if s.kind = 11 then takeW p W a s.to else
  if s.kind = 7 then { W with out := W.out ++ [Hm.shown (vs.getD 0 (0, 0))] } else
  if (workW p R W a s vs).1.en ≠ 0 then (workW p R W a s vs).1 else storeW p (workW p R W a s vs).1 a s.to (workW p R W a s vs).2
theorem stmW_do {p : Prg} {R : Wld → Nat → Wld × Val} {W : Wld} {a : Nat} {s : Stm} {vs : List Val} (h0 : W.en = 0) (h : loadsW p W a s.reads = (W, vs)) : stmW p R W a s = doW p R W a s vs := by
  have hv : valueW p R W a s = workW p R W a s vs := by
    unfold valueW
    rw [h]
    simp [h0]
  by_cases h7 : s.kind = 7
  · have hv7 : valueW p R W a s = (W, vs.getD 0 (0, 0)) := by
      rw [hv]
      simp [workW, h7]
    simp [stmW, doW, h7, hv7, h0]
  · simp only [stmW, doW, hv, h7, if_false]
theorem do_fn (gl) (p : Prg) (n : Nat) (hR : MBok gl 226 p n) (H : Nm → Option AO) (W : Wld) (a : Nat) (k : Blk) (s : Stm) (vs : List Val) (hP : ValP p) (hw : WOk p W) (hn : W.left < n) (h0 : W.en = 0) (ha : a < W.acts.length) (hk : p[W.blk a]? = some k) (hs : s ∈ k.body) (h8 : s.kind ≠ 8) (hr : Room 2 W)
    (hl : vs.length = s.reads.length) (hvok : ∀ v ∈ vs, VOk W.funs.length W.classes.length v) (hO : OwnM H 226 p W) (hL : H (.u 2 0 0) = some (.row 2 (vrows vs))) :
    FnE Tryz.prog gl 168 DM2 [.pt Mn 0, ptE a, s.av, .hs (.u 2 0 0) 2 0 vs.length] H (fun _ y H' => y = bv (decide ((doW p (runW p n) W a s vs).en = 0)) ∧ OwnM H' 226 p (doW p (runW p n) W a s vs)) noE := by
  have hh := hP.sh.heads
  have hT := hO.top
  simp only [mRow] at hT
  have hst := hP.sh.stm _ k hk s hs
  have hnm := hP.sh.names k (List.mem_of_getElem? hk)
  have hkd := hnm.kinds s hs
  have hto := hnm.tos s hs
  have hvl := valueOfM_fn gl p n hR
  have hp1 := hL
  obtain ⟨c, hc⟩ : ∃ c, W.acts[a]? = some c := ⟨_, gE ha⟩
  have hE := hO.env a c hc
  obtain ⟨kd, to, sa, sb⟩ := s
  simp only at h8 hkd hto
  obtain ⟨x, rfl⟩ : ∃ x : Nat, to = x := ⟨to.toNat, by omega⟩
  have hx7 : 0 ≤ (x : Int) ∧ (x : Int) ≤ 7 := by omega
  refine FnE.of_sem Tryz.func168 rfl (by kernel_rfl) (rs := [.tmp 8]) rfl Tryz.ntmps168 (Nat.le_of_ble_eq_true rfl) (fun _ => DM2_root) fun C w g root hroot => ?_
  by_cases h9 : kd = 9
  · subst h9
    have hq : doW p (runW p n) W a ⟨9, x, sa, sb⟩ vs = W := by simp [doW]
    have fx :=  hT
    refine k_run ?_
    repeat ((first | refine wSc (id := 6) qsQj0 mixed ?_ | refine wSc (id := 14) qsQj1 mixed ?_); refine k_rund ?_; refine k_run ?_)
    clear fx
    rw [hq]
    refine e_ret [] .nil (by simp; rfl) ⟨by simp [h0], OwnM.fin (have om := hO; OwnM.re om)⟩
  by_cases h10 : kd = 10
  · subst h10
    have hq : doW p (runW p n) W a ⟨10, x, sa, sb⟩ vs = W := by simp [doW]
    have fx :=  hT
    refine k_run ?_
    repeat ((first | refine wSc (id := 6) qsQj0 mixed ?_ | refine wSc (id := 14) qsQj1 mixed ?_); refine k_rund ?_; refine k_run ?_)
    clear fx
    rw [hq]
    refine e_ret [] .nil (by simp; rfl) ⟨by simp [h0], OwnM.fin (have om := hO; OwnM.re om)⟩
  have hb9 : (kd == 9) = false := by simpa using h9
  have hb10 : (kd == 10) = false := by simpa using h10
  by_cases h11 : kd = 11
  · subst h11
    have hq : doW p (runW p n) W a ⟨11, x, sa, sb⟩ vs = takeW p W a x := by simp [doW]
    have fx :=  hT
    refine k_run ?_
    repeat ((first | refine wSc (id := 6) qsQj0 mixed ?_ | refine wSc (id := 14) qsQj1 mixed ?_); refine k_rund ?_; refine k_run ?_)
    clear fx
    intro K hK
    have fx := hT
    refine x_callM hO (have om := hO; OwnM.re om) (Nat.le_refl _) (Nat.le_refl _) (hF := fun hs => drop_fn _ _ _ p W a x hP.sh hw ha (by omega) h0 hs) (h := ?_)
    rintro y H1 ⟨rfl, hO1⟩
    clear fx
    have hT1 := hO1.top
    simp only [mRow] at hT1
    have fx := And.intro hT <| hT1
    refine k_run ?_
    repeat ((first | refine wSc (id := 6) qsQj0 mixed ?_ | refine wSc (id := 14) qsQj1 mixed ?_); refine k_rund ?_; refine k_run ?_)
    clear fx
    rw [hq]
    refine e_ret [] .nil (by simp; rfl) ⟨by simp, OwnM.fin (have om := hO1; OwnM.re om)⟩
  have hb11 : (kd == 11) = false := by simpa using h11
  by_cases h7 : kd = 7
  · subst h7
    obtain ⟨u, rfl⟩ : ∃ u, vs = [u] := by
      match vs, hl with
      | [u], _ => exact ⟨u, rfl⟩
      | [], h => simp [Stm.reads] at h
      | _ :: _ :: _, h => simp [Stm.reads] at h
    have hq : doW p (runW p n) W a ⟨7, x, sa, sb⟩ [u] = { W with out := W.out ++ [Hm.shown u] } := by simp [doW]
    have hU := hO.out
    have hol := hw.nout
    have hol' : W.out.length ≤ 1000 := by omega
    have hap : irows W.out ++ [[iv (Hm.shown u)]] = irows (W.out ++ [Hm.shown u]) := by simp [irows]
    have hsh := impl_ShownOf_fn gl u
    obtain ⟨u1, u2⟩ := u
    have fx := And.intro hT <| And.intro hU <| And.intro hol' <| And.intro hp1 <| @bne_def
    have c1 := hsh
    refine k_run ?_
    repeat ((first | refine wSc (id := 6) qsQj0 mixed ?_ | refine wSc (id := 14) qsQj1 mixed ?_); refine k_rund ?_; refine k_run ?_)
    clear fx c1
    rw [hq]
    refine e_ret [] .nil (by simp; rfl) ⟨by simp [h0], OwnM.fin ⟨by simp [mRow, hT], ⟨by simp [hO.scs.top], fun j k hj hk => by simp [hO.scs.sc j k hj hk]⟩, ?_, by simp [hO.trc], hO.run.imp fun l hl => ⟨hl.1, by simp [hl.2]⟩, by simp [hO.funs], fun k g hg => by simp [hO.bx k g hg], by simp [hO.clss], fun k c hc => (hO.cls k c hc).imp fun ms hm => ⟨by simp [hm.1], hm.2⟩, fun i a ha => by simp [hO.env i a ha], fun i hi => (hO.nms i hi).imp fun ms hm => ⟨by simp [hm.1], hm.2⟩, fun k i j hk hn => if e : k = 1 ∧ i = 0 ∧ j = 0 then .inl e else hO.only k i j hk (by simpa [hk, e] using hn)⟩⟩
    simp
  have hb7 : (kd == 7) = false := by simpa using h7
  have hk6 : 0 ≤ kd ∧ kd ≤ 6 := by omega
  have hq : doW p (runW p n) W a ⟨kd, x, sa, sb⟩ vs = if (workW p (runW p n) W a ⟨kd, x, sa, sb⟩ vs).1.en ≠ 0 then (workW p (runW p n) W a ⟨kd, x, sa, sb⟩ vs).1 else storeW p (workW p (runW p n) W a ⟨kd, x, sa, sb⟩ vs).1 a x (workW p (runW p n) W a ⟨kd, x, sa, sb⟩ vs).2 := by
    simp only [doW, h9, h10, h11, h7, if_false, false_or]
  have fx := And.intro hT <| And.intro hb9 <| And.intro hb10 <| And.intro hb11 <| hb7
  refine k_run ?_
  repeat ((first | refine wSc (id := 6) qsQj0 mixed ?_ | refine wSc (id := 14) qsQj1 mixed ?_); refine k_rund ?_; refine k_run ?_)
  clear fx
  intro K hK
  have fx := hT
  refine x_callM2 hO (have om := hO; OwnM.re om) (by simp [hp1]) (Nat.le_refl _) (Nat.le_refl _) (hF := fun hs' => hvl _ W a k ⟨kd, x, sa, sb⟩ vs hP hw hn h0 ha hk hs hk6 hr hl hvok hs' (by simp [hp1])) (h := ?_)
  rintro y H1 ⟨rfl, hO1⟩
  clear fx
  obtain ⟨hA, hvok1⟩ := workW_ok (vs := vs) (runW_ok hP.sh n) hw hn h0 ha hst hvok hr
  generalize workW p (runW p n) W a ⟨kd, x, sa, sb⟩ vs = q at hO1 hA hvok1 hq
  obtain ⟨V, v⟩ := q
  simp only at hO1 hA hvok1 hq
  have hT1 := hO1.top
  simp only [mRow] at hT1
  have haV : a < V.acts.length := Nat.lt_of_lt_of_le ha hA.grow.lacts
  have hla := hA.grow.lacts
  have hlf := hA.grow.lfuns
  obtain ⟨c1, hc1⟩ : ∃ c, V.acts[a]? = some c := ⟨_, gE haV⟩
  have hE1 := hO1.env a c1 hc1
  by_cases hen : V.en = 0
  case neg =>
    rw [if_pos hen] at hq
    obtain ⟨v1, v2⟩ := v
    have fx := And.intro hT <| And.intro hT1 <| And.intro hE <| And.intro hE1 <| hen
    refine k_run ?_
    repeat ((first | refine wSc (id := 6) qsQj0 mixed ?_ | refine wSc (id := 14) qsQj1 mixed ?_); refine k_rund ?_; refine k_run ?_)
    clear fx
    rw [hq]
    refine e_ret [] .nil (by simp; rfl) ⟨by simp [hen], OwnM.fin (have om := hO1; OwnM.re om)⟩
  rw [if_neg (by simpa using hen)] at hq
  obtain ⟨hnm1, hil⟩ := nms_loc (x := (x : Int)) hh hA.ok haV
  have hnm0 := hnm1
  obtain ⟨o, ho⟩ : ∃ o, Hm.lack p (V.blk a) (owner p (V.blk a) x) = o := ⟨_, rfl⟩
  obtain ⟨l, hll⟩ : ∃ l, V.loc p a x = l := ⟨_, rfl⟩
  have hhl := holderOf_fn gl (F := 226) (p := p) (W := V) (a := a) (x := x)
  rw [ho, hll] at hhl
  rw [hll] at hnm1 hil
  obtain ⟨i, hi⟩ : ∃ i, hIdx l = i := ⟨_, rfl⟩
  rw [hi] at hnm1 hil hhl
  obtain ⟨v1, v2⟩ := v
  have fx := And.intro hT <| And.intro hT1 <| And.intro hE <| And.intro hE1 <| hen
  refine k_run ?_
  repeat ((first | refine wSc (id := 6) qsQj0 mixed ?_ | refine wSc (id := 14) qsQj1 mixed ?_); refine k_rund ?_; refine k_run ?_)
  clear fx
  intro K hK
  have fx := And.intro hT hT1
  refine x_callM hO (have om := hO1; OwnM.re om) hla hlf (hF := fun hs => hhl _ hP.sh hA.ok haV (by omega) hs) (h := ?_)
  rintro y H2 ⟨rfl, hO2⟩
  clear fx
  have hT2 := hO2.top
  simp only [mRow] at hT2
  obtain ⟨d, hd⟩ : ∃ d, V.acts[i]? = some d := ⟨_, gE hil⟩
  have hE2 := hO2.env i d hd
  simp only [envRow] at hE2
  have hE2a := hO2.env a c1 hc1
  obtain ⟨ms, hms, hmo⟩ := hO2.nms i hil
  rw [hnm1] at hmo
  have hstq : storeW p V a x (v1, v2) = V.set l x (some (v1, v2)) := by
    unfold storeW
    rw [hll]
  have fx := And.intro hT <| And.intro hT1 <| And.intro hE <| And.intro hE1 <| And.intro hT2 <| And.intro hE2 <| And.intro hE2a <| hms
  refine k_run ?_
  repeat ((first | refine wSc (id := 6) qsQj0 mixed ?_ | refine wSc (id := 14) qsQj1 mixed ?_); refine k_rund ?_; refine k_run ?_)
  clear fx
  intro K hK
  refine o_abs (fun st => st.tm 61 = .mp (.c (En i) 0 1) ∧ st.tm 63 = iv x ∧ st.tm 64 = Val.av (v1, v2) ∧ st.hp (.c (En i) 0 1) = some (.map (mrows ms)) ∧ OwnM st.hp 226 p V) ⟨by simp [hT2, hE2], by simp, by simp, by simp [hms], (have om := hO2; OwnM.re om)⟩ ?_
  rintro st ⟨t61, t63, t64, hms', hO3⟩
  have fx := And.intro t61 (And.intro t63 (And.intro t64 hms'))
  refine x_mapUpdate (h := ?_)
  clear fx
  have fx :=  hT
  refine k_run ?_
  repeat ((first | refine wSc (id := 6) qsQj0 mixed ?_ | refine wSc (id := 14) qsQj1 mixed ?_); refine k_rund ?_; refine k_run ?_)
  clear fx
  rw [hq, hstq]
  refine e_ret [] .nil (by simp; rfl) ⟨by rw [set_same.2.2.2.2.2.2]; simp [hen], OwnM.fin (ownM_set hh hA.ok haV (by omega) hll hnm0 hO3 (hmo.set hx7) fun m hm => ?_)⟩
  rw [hi]
  simp
end Go.Proofs.YtmaoicgfcngciaaGreatDoor
end
section
namespace Go.Proofs.YtmaoicgfcngciaaGreatDoor
open Go Go.Hm Go.Proofs
abbrev qsQk0 : Sch := .q 0 <| .q 1 <| .q 2 <| .q 3 <| .q 4 <| .q 5 <| .q 6 <| .q 7 <| .q 8 <| .q 9 <| .q 10 <| .q 11 <| .q 12 <| .q 13 <| .done
abbrev qsQk1 : Sch := .q 0 <| .q 1 <| .q 2 <| .q 3 <| .q 4 <| .q 5 <| .q 6 <| .q 7 <| .q 8 <| .q 9 <| .q 10 <| .l 11 [9, 8, 7, 6, 5, 4, 3, 2, 1, 0] <| .l 12 [9, 8, 7, 6, 5, 3, 2, 1, 0] <| .q 13 <| .q 14 <| .l 15 [13] <| .done
theorem loadW_bad {p : Prg} {w : Wld} {a : Nat} {x : Int} (h0 : w.en = 0) : (loadW p w a x).1.en ≠ 0 → (loadW p w a x).2 = (0, 0) := by
  unfold loadW
  repeat' split
  all_goals simp [h0]
theorem loads1 {p : Prg} {w : Wld} {a : Nat} {x : Int} (h0 : w.en = 0) : loadsW p w a [x] = ((loadW p w a x).1, [(loadW p w a x).2]) := by
  simp [loadsW, h0]
theorem bodyW_bad {p : Prg} {R : Wld → Nat → Wld × Val} {a i : Nat} {V : Wld} {s : Stm} {l : List Stm} (h0 : V.en = 0) (hl : V.left ≠ 0) (hq : (loadsW p (tickW V a i) a s.reads).1.en ≠ 0) : bodyW p R a V i (s :: l) = ((loadsW p (tickW V a i) a s.reads).1, (0, 0)) := by
  have ht : (tickW V a i).en = 0 := h0
  by_cases h8 : s.kind = 8
  · have hrd : s.reads = [s.a] := by simp [Stm.reads, h8]
    rw [hrd, loads1 ht] at hq ⊢
    simp only at hq
    simp only [bodyW, hl, h8, if_true, if_false]
    rw [← loadW_bad ht hq]
  · have hst : stmW p R (tickW V a i) a s = (loadsW p (tickW V a i) a s.reads).1 := by
      by_cases h9 : s.kind = 9 ∨ s.kind = 10 ∨ s.kind = 11
      · have hrd : s.reads = [] := by rcases h9 with e | e | e <;> simp [Stm.reads, e]
        rw [hrd] at hq
        simp only [loadsW] at hq
        exact absurd ht hq
      · have hv : valueW p R (tickW V a i) a s = ((loadsW p (tickW V a i) a s.reads).1, (0, 0)) := by
          unfold valueW
          rw [if_pos hq]
        have e1 : ¬ (s.kind = 9 ∨ s.kind = 10) := by omega
        have e2 : ¬ s.kind = 11 := by omega
        unfold stmW
        rw [if_neg e1, if_neg e2, hv, if_pos hq]
    simp only [bodyW, hl, h8, if_false]
    rw [hst, if_pos hq]
theorem bodyW_ret {p : Prg} {R : Wld → Nat → Wld × Val} {a i : Nat} {V : Wld} {s : Stm} {l : List Stm} {vs : List Val} (h0 : V.en = 0) (hl : V.left ≠ 0) (h8 : s.kind = 8) (hq : loadsW p (tickW V a i) a s.reads = (tickW V a i, vs)) : ∃ v, vs = [v] ∧ bodyW p R a V i (s :: l) = (tickW V a i, v) := by
  have ht : (tickW V a i).en = 0 := h0
  have hrd : s.reads = [s.a] := by simp [Stm.reads, h8]
  rw [hrd, loads1 ht] at hq
  obtain ⟨e1, e2⟩ := Prod.mk.inj hq
  refine ⟨_, e2.symm, ?_⟩
  simp only [bodyW, hl, h8, if_true, if_false]
  exact Prod.ext e1 rfl
theorem bodyW_do {p : Prg} {R : Wld → Nat → Wld × Val} {a i : Nat} {V : Wld} {s : Stm} {l : List Stm} {vs : List Val} (h0 : V.en = 0) (hl : V.left ≠ 0) (h8 : s.kind ≠ 8) (hq : loadsW p (tickW V a i) a s.reads = (tickW V a i, vs)) : bodyW p R a V i (s :: l) = if (doW p R (tickW V a i) a s vs).en ≠ 0 then (doW p R (tickW V a i) a s vs, (0, 0)) else bodyW p R a (doW p R (tickW V a i) a s vs) (i + 1) l := by
  have ht : (tickW V a i).en = 0 := h0
  simp only [bodyW, hl, h8, if_false]
  rw [stmW_do ht hq]
theorem runBody_step (gl) (p : Prg) (n : Nat) (hR : MBok gl 226 p n) (hP : ValP p) : MBok gl 226 p (n + 1) := by
  intro H W a hO hw hn ha h0 hV
  show FnE Tryz.prog gl 121 DM [.pt Mn 0, ptE a] H _ noE
  obtain ⟨c, hc⟩ : ∃ c, W.acts[a]? = some c := ⟨_, gE ha⟩
  have hbl := hw.blks a c hc
  obtain ⟨k, hk⟩ : ∃ k, p[c.blk]? = some k := ⟨_, gE hbl⟩
  obtain ⟨_, hkE⟩ := gS hk
  have hbk := blk_at hc
  have hT := hO.top
  have hE := hO.env a c hc
  simp only [mRow] at hT
  simp only [envRow] at hE
  have hb12 := hP.sh.body k (List.mem_of_getElem? hk)
  have hrun : runW p (n + 1) W a = bodyW p (runW p n) a W 0 k.body := by simp only [runW, hbk, hk]
  have hO0 := hO
  refine FnE.of_sem Tryz.func121 rfl (by kernel_rfl) (rs := [.cell 4 171, .tmp 5]) rfl Tryz.ntmps121 (Nat.le_of_ble_eq_true rfl) (fun _ => DM_root) fun C w g root hroot => ?_
  have fx := And.intro hT <| And.intro hE <| And.intro hk <| And.intro hkE <| hbl
  refine k_run ?_
  repeat ((first | refine wSc (id := 1) qsQk0 mixed ?_ | refine wSc (id := 7) qsQk1 mixed ?_); refine k_rund ?_; refine k_run ?_)
  clear fx
  refine w_loop (fun m st => ∃ (i : Nat) (V : Wld), m = k.body.length - i ∧ i ≤ k.body.length ∧ runW p (n + 1) W a = bodyW p (runW p n) a V i (k.body.drop i) ∧ WOk p V ∧ V.left < n + 1 ∧ a < V.acts.length ∧ V.en = 0 ∧ V.blk a = c.blk ∧ W.acts.length ≤ V.acts.length ∧ W.funs.length ≤ V.funs.length ∧ st.tm 0 = .pt Mn 0 ∧ st.tm 1 = ptE a ∧ st.tm 4 = .pt (.s 4) 0 ∧ st.hp (.s 4) = some (.row 2 [[iv 0, iv 0]]) ∧ st.tm 21 = ssl k.body ∧ st.tm 22 = iv k.body.length ∧ st.tm 23 = iv i ∧ OwnM st.hp 226 p V) k.body.length ?_ ?_
  · exact ⟨0, W, by omega, by omega, by simpa using hrun, hw, hn, ha, h0, hbk, Nat.le_refl _, Nat.le_refl _, by simp [hT], by simp [hE], by simp, by simp, by simp, by simp, by simp, (have om := hO; OwnM.re om)⟩
  clear hT hE hO
  rintro m st - - ⟨i, V, rfl, hi, hres, hw', hn', ha', h0', hbV, hl1, hl2, t0, t1, t4, hp4, t21, t22, t23, hO⟩
  clear hrun h0 hn hw hc ha
  obtain ⟨d, hd⟩ : ∃ d, V.acts[a]? = some d := ⟨_, gE ha'⟩
  have hdb : d.blk = c.blk := by rw [← blk_at hd]; exact hbV
  have hT := hO.top
  have hE := hO.env a d hd
  simp only [mRow] at hT
  simp only [envRow] at hE
  by_cases hil : i < k.body.length
  case neg =>
    have hge : i = k.body.length := by omega
    rw [hge, List.drop_length] at hres
    simp only [bodyW] at hres
    have fx := And.intro t0 <| And.intro t1 <| And.intro t4 <| And.intro hp4 <| And.intro t21 <| And.intro t22 <| And.intro t23 <| hil
    refine k_run ?_
    repeat ((first | refine wSc (id := 1) qsQk0 mixed ?_ | refine wSc (id := 7) qsQk1 mixed ?_); refine k_rund ?_; refine k_run ?_)
    clear fx
    rw [hres]
    refine e_ret [] .nil (by simp [t4]; rfl) ⟨by simp [h0'], OwnM.fin (have om := hO; OwnM.re om)⟩
  obtain ⟨s, hs⟩ : ∃ s, k.body[i]? = some s := ⟨_, gE hil⟩
  obtain ⟨_, hsE⟩ := gS hs
  have hsm := List.mem_of_getElem? hs
  have hdr : k.body.drop i = s :: k.body.drop (i + 1) := by rw [List.drop_eq_getElem_cons hil, hsE]
  rw [hdr] at hres
  by_cases hl : V.left = 0
  · have hr2 : bodyW p (runW p n) a V i (s :: k.body.drop (i + 1)) = ({ V with en := 1 }, (0, 0)) := by simp only [bodyW, hl, if_true]
    rw [hr2] at hres
    have fx := And.intro t0 <| And.intro t1 <| And.intro t4 <| And.intro hp4 <| And.intro t21 <| And.intro t22 <| And.intro t23 <| And.intro hil <| And.intro hs <| And.intro hsE <| And.intro hT <| hl
    refine k_run ?_
    repeat ((first | refine wSc (id := 1) qsQk0 mixed ?_ | refine wSc (id := 7) qsQk1 mixed ?_); refine k_rund ?_; refine k_run ?_)
    clear fx
    intro K hK
    have fx := And.intro t0 hT
    refine x_callM hO0 (have om := hO; OwnM.re om) hl1 hl2 (hF := fun hs => stop_fn _ _ _ p V 1 hs) (h := ?_)
    rintro y H2 ⟨rfl, hO2⟩
    clear fx
    have hT2 := hO2.top
    simp only [mRow] at hT2
    have fx := And.intro t0 <| And.intro t1 <| And.intro t4 <| And.intro hp4 <| And.intro hT <| And.intro hT2 <| hl
    refine k_run ?_
    repeat ((first | refine wSc (id := 1) qsQk0 mixed ?_ | refine wSc (id := 7) qsQk1 mixed ?_); refine k_rund ?_; refine k_run ?_)
    clear fx
    rw [hres]
    refine e_ret [] .nil (by simp [t4]; rfl) ⟨by simp, OwnM.fin (have om := hO2; OwnM.re om)⟩
  obtain ⟨l, hll⟩ : ∃ l, V.left = l + 1 := ⟨V.left - 1, by omega⟩
  obtain ⟨tk1, tk2⟩ := tickW_ok (a := a) (i := i) hw' hl
  have hTt : tickW V a i = { V with left := l, trace := V.trace ++ [(d.blk, i)] } := by simp only [tickW, blk_at hd]; rw [hll]; rfl
  have hbV2 : (tickW V a i).blk a = d.blk := by rw [show (tickW V a i).blk a = V.blk a from rfl, blk_at hd]
  have hleft : (tickW V a i).left < n := by simp only [tickW]; omega
  have hTr := hO.trc
  have hnt := hw'.ntr
  have hnl := hw'.nacts
  have htl' : V.trace.length ≤ 1000 := by omega
  have hl8 : l ≤ 1000 := by omega
  have hlb : ((l : Int) + 1 == 0) = false := by rw [beq_eq_false_iff_ne]; omega
  have hwl : IntKind.i64.wrap (l : Int) = l := wrp (by omega) (by omega)
  have hap : nrows V.trace ++ [[iv d.blk, iv i]] = nrows (V.trace ++ [(d.blk, i)]) := nrows_app1
  have hkd := (hP.sh.names k (List.mem_of_getElem? hk)).kinds s hsm
  have hrd := (hP.sh.names k (List.mem_of_getElem? hk)).reads s hsm
  have fx := And.intro t0 <| And.intro t1 <| And.intro t4 <| And.intro hp4 <| And.intro t21 <| And.intro t22 <| And.intro t23 <| And.intro hil <| And.intro hs <| And.intro hsE <| And.intro hT <| And.intro hll <| And.intro hlb <| And.intro hwl <| And.intro hTr <| And.intro htl' <| hE
  refine k_run ?_
  repeat ((first | refine wSc (id := 1) qsQk0 mixed ?_ | refine wSc (id := 7) qsQk1 mixed ?_); refine k_rund ?_; refine k_run ?_)
  clear fx
  intro K hK
  have fx := And.intro t0 (And.intro t1 hT)
  refine x_callM hO0 (w := tickW V a i) (by rw [hTt]; exact ⟨by simp [hT, mRow], ⟨by simp [hO.scs.top], fun j k hj hk => by simp [hO.scs.sc j k hj hk]⟩, by simp [hO.out], by simp [← hap], hO.run.imp fun l hl => ⟨hl.1, by simp [hl.2]⟩, by simp [hO.funs], fun k g hg => by simp [hO.bx k g hg], by simp [hO.clss], fun k c hc => (hO.cls k c hc).imp fun ms hm => ⟨by simp [hm.1], hm.2⟩, fun i a ha => by simp [hO.env i a ha], fun i hi => (hO.nms i hi).imp fun ms hm => ⟨by simp [hm.1], hm.2⟩, fun k i j hk hn => if e : k = 1 ∧ i = 0 ∧ j = 0 then .inl e else hO.only k i j hk (by simpa [hk, e] using hn)⟩) hl1 hl2 (hF := fun hs' => readAll_fn _ _ _ p (tickW V a i) a s hP.sh tk1 ha' h0' hkd hrd hs') (h := ?_)
  rintro y H1 ⟨hO1, hy⟩
  clear fx
  have hbad := bodyW_bad (p := p) (R := runW p n) (a := a) (i := i) (V := V) (s := s) (l := k.body.drop (i + 1)) h0' hl
  have hret : s.kind = 8 → ∀ vs, loadsW p (tickW V a i) a s.reads = (tickW V a i, vs) → ∃ v, vs = [v] ∧ bodyW p (runW p n) a V i (s :: k.body.drop (i + 1)) = (tickW V a i, v) := fun h8 vs hq => bodyW_ret h0' hl h8 hq
  have hdo : s.kind ≠ 8 → ∀ vs, loadsW p (tickW V a i) a s.reads = (tickW V a i, vs) → bodyW p (runW p n) a V i (s :: k.body.drop (i + 1)) = if (doW p (runW p n) (tickW V a i) a s vs).en ≠ 0 then (doW p (runW p n) (tickW V a i) a s vs, (0, 0)) else bodyW p (runW p n) a (doW p (runW p n) (tickW V a i) a s vs) (i + 1) (k.body.drop (i + 1)) := fun h8 vs hq => bodyW_do h0' hl h8 hq
  have hsdo : ∀ vs, loadsW p (tickW V a i) a s.reads = (tickW V a i, vs) → stmW p (runW p n) (tickW V a i) a s = doW p (runW p n) (tickW V a i) a s vs := fun vs h => stmW_do h0' h
  obtain ⟨hA, hvok, hcase, hlen, _⟩ := loadsW_ok (a := a) (l := s.reads) tk1
  generalize loadsW p (tickW V a i) a s.reads = q at hO1 hy hbad hret hdo hsdo hA hvok hcase hlen
  obtain ⟨U, vs⟩ := q
  simp only at hO1 hy hbad hret hdo hsdo hA hvok hcase hlen
  have hT1 := hO1.top
  simp only [mRow] at hT1
  obtain ⟨d1, hd1⟩ : ∃ c, U.acts[a]? = some c := ⟨_, gE (Nat.lt_of_lt_of_le ha' hA.grow.lacts)⟩
  have hE1 := hO1.env a d1 hd1
  rcases hy with ⟨hen, rfl, hp1⟩ | ⟨hen, rfl⟩
  case inr =>
    have fx := And.intro t0 <| And.intro t1 <| And.intro t4 <| And.intro hp4 <| And.intro t21 <| And.intro t22 <| And.intro t23 <| And.intro hT <| And.intro hE <| And.intro hT1 <| hE1
    refine k_run ?_
    repeat ((first | refine wSc (id := 1) qsQk0 mixed ?_ | refine wSc (id := 7) qsQk1 mixed ?_); refine k_rund ?_; refine k_run ?_)
    clear fx
    rw [hres, hbad hen]
    refine e_ret [] .nil (by simp [t4]; rfl) ⟨by simp [hen], OwnM.fin (have om := hO1; OwnM.re om)⟩
  obtain rfl : U = tickW V a i := by
    rcases hcase with e | ⟨e, he, h⟩
    · exact e
    · rw [h] at hen
      exact absurd hen he
  by_cases h8 : s.kind = 8
  · have hb8 : (s.kind == 8) = true := by simpa using h8
    obtain ⟨⟨v1, v2⟩, rfl, hb⟩ := hret h8 _ rfl
    have fx := And.intro t0 <| And.intro t1 <| And.intro t4 <| And.intro hp4 <| And.intro t21 <| And.intro t22 <| And.intro t23 <| And.intro hT <| And.intro hE <| And.intro hT1 <| And.intro hE1 <| And.intro hp1 <| hb8
    refine k_run ?_
    repeat ((first | refine wSc (id := 1) qsQk0 mixed ?_ | refine wSc (id := 7) qsQk1 mixed ?_); refine k_rund ?_; refine k_run ?_)
    clear fx
    rw [hres, hb]
    have ht0 : (tickW V a i).en = 0 := h0'
    refine e_ret [] .nil (by simp [t4]; rfl) ⟨by simp [ht0], OwnM.fin (have om := hO1; OwnM.re om)⟩
  have hb8 : (s.kind == 8) = false := by simpa using h8
  have hres2 := hdo h8 _ rfl
  rw [hres2] at hres
  have hst := hP.sh.stm _ k hk s hsm
  have hSo := stmW_ok (s := s) (k := k) (runW_ok hP.sh n) tk1 hleft h0' ha' (by rw [hbV2, hdb]; exact hst) tk2
  rw [hsdo vs rfl] at hSo
  have hk' : p[(tickW V a i).blk a]? = some k := by rw [hbV2, hdb]; exact hk
  have fx := And.intro t0 <| And.intro t1 <| And.intro t4 <| And.intro hp4 <| And.intro t21 <| And.intro t22 <| And.intro t23 <| And.intro hT <| And.intro hE <| And.intro hT1 <| And.intro hE1 <| And.intro hp1 <| hb8
  refine k_run ?_
  repeat ((first | refine wSc (id := 1) qsQk0 mixed ?_ | refine wSc (id := 7) qsQk1 mixed ?_); refine k_rund ?_; refine k_run ?_)
  clear fx
  intro K hK
  refine o_mv (.s 8) (.u 2 0 0) (.inl rfl) (.inr (by simp [ctx0, hV])) ?_
  have fx := And.intro t0 (And.intro t1 (And.intro hT (And.intro hT1 (And.intro hp1 (And.intro hE hE1)))))
  refine x_callM2 hO0 (w := tickW V a i) ⟨by simp [hO1.top, mRow], ⟨by simp [hO1.scs.top], fun j k hj hk => by simp [hO1.scs.sc j k hj hk]⟩, by simp [hO1.out], by simp [hO1.trc], hO1.run.imp fun l hl => ⟨hl.1, by simp [hl.2]⟩, by simp [hO1.funs], fun k g hg => by simp [hO1.bx k g hg], by simp [hO1.clss], fun k c hc => (hO1.cls k c hc).imp fun ms hm => ⟨by simp [hm.1], hm.2⟩, fun i a ha => by simp [hO1.env i a ha], fun i hi => (hO1.nms i hi).imp fun ms hm => ⟨by simp [hm.1], hm.2⟩, fun k i j hk hn => if e : k = 1 ∧ i = 0 ∧ j = 0 then .inl e else hO1.only k i j hk (by have e2 : ¬ k = 2 := (fun e => by rw [e] at hk; cases hk); simpa [hk, e, e2] using hn)⟩ (by simp [hp1]) hl1 hl2 (hF := fun hs' => do_fn gl p n hR _ (tickW V a i) a k s vs hP tk1 hleft h0' ha' hk' hsm h8 tk2 (hlen hen) hvok hs' (by simp [hp1])) (h := ?_)
  rintro y H2 ⟨rfl, hO2⟩
  clear fx
  generalize doW p (runW p n) (tickW V a i) a s vs = U at hO2 hres hSo
  have hAf := hSo.tick hl
  have hT2 := hO2.top
  simp only [mRow] at hT2
  obtain ⟨d2, hd2⟩ : ∃ c, U.acts[a]? = some c := ⟨_, gE (Nat.lt_of_lt_of_le ha' hAf.grow.lacts)⟩
  have hE2 := hO2.env a d2 hd2
  by_cases hen2 : U.en = 0
  · rw [if_neg (by simpa using hen2)] at hres
    have fx := And.intro t0 <| And.intro t1 <| And.intro t4 <| And.intro hp4 <| And.intro t21 <| And.intro t22 <| And.intro t23 <| And.intro hT <| And.intro hE <| And.intro hT1 <| And.intro hE1 <| And.intro hp1 <| And.intro hT2 <| And.intro hE2 <| hen2
    refine k_run ?_
    repeat ((first | refine wSc (id := 1) qsQk0 mixed ?_ | refine wSc (id := 7) qsQk1 mixed ?_); refine k_rund ?_; refine k_run ?_)
    clear fx
    exact ⟨k.body.length - (i + 1), by omega, i + 1, U, rfl, by omega, hres, hAf.ok, by have := hAf.grow.left; omega, Nat.lt_of_lt_of_le ha' hAf.grow.lacts, hen2, by rw [hAf.grow.blk hd]; exact hbV, Nat.le_trans hl1 hAf.grow.lacts, Nat.le_trans hl2 hAf.grow.lfuns, by simp [t0, hT, hT1], by simp [t1, hE, hE1], by simp [t4], by simp [hp4], by simp [t21], by simp [t22], by simp [t23]; exact wrp (by omega) (by omega), ⟨by simp [hO2.top, mRow, hen2], ⟨by simp [hO2.scs.top, hen2], fun j k hj hk => by simp [hO2.scs.sc j k hj hk, hen2]⟩, by simp [hO2.out, hen2], by simp [hO2.trc, hen2], hO2.run.imp fun l hl => ⟨hl.1, by simp [hl.2, hen2]⟩, by simp [hO2.funs, hen2], fun k g hg => by simp [hO2.bx k g hg, hen2], by simp [hO2.clss, hen2], fun k c hc => (hO2.cls k c hc).imp fun ms hm => ⟨by simp [hm.1, hen2], hm.2⟩, fun i a ha => by simp [hO2.env i a ha, hen2], fun i hi => (hO2.nms i hi).imp fun ms hm => ⟨by simp [hm.1, hen2], hm.2⟩, fun k i j hk hn => if e : k = 1 ∧ i = 0 ∧ j = 0 then .inl e else hO2.only k i j hk (by simpa [hk, e] using hn)⟩⟩
  · rw [if_pos (by simpa using hen2)] at hres
    have fx := And.intro t0 <| And.intro t1 <| And.intro t4 <| And.intro hp4 <| And.intro t21 <| And.intro t22 <| And.intro t23 <| And.intro hT <| And.intro hE <| And.intro hT1 <| And.intro hE1 <| And.intro hp1 <| And.intro hT2 <| And.intro hE2 <| hen2
    refine k_run ?_
    repeat ((first | refine wSc (id := 1) qsQk0 mixed ?_ | refine wSc (id := 7) qsQk1 mixed ?_); refine k_rund ?_; refine k_run ?_)
    clear fx
    rw [hres]
    refine e_ret [] .nil (by simp [t4]; rfl) ⟨by simp [hen2], OwnM.fin (have om := hO2; OwnM.re om)⟩
theorem runBody_fn (gl) (p : Prg) (hP : ValP p) : ∀ n, MBok gl 226 p n
  | 0 => fun H W a _ _ h => absurd h (by omega)
  | n + 1 => runBody_step gl p n (runBody_fn gl p hP n) hP
abbrev qsQl0 : Sch := .q 0 <| .q 1 <| .q 3 <| .l 2 [3, 0] <| .q 4 <| .l 5 [3, 0] <| .l 6 [] <| .done
abbrev qsQl1 : Sch := .q 0 <| .q 1 <| .q 2 <| .q 3 <| .q 4 <| .q 5 <| .q 6 <| .q 7 <| .q 8 <| .l 9 [7, 6, 5, 4, 3, 2, 1, 0] <| .l 10 [7, 6, 5, 3, 2, 1, 0] <| .q 11 <| .q 12 <| .l 13 [11] <| .done
theorem meaningOf_fn (gl) (H : Nm → Option AO) (p : Prg) (f : Nat) (hP : ValP p) (hf : f ≤ 150) (hN : ∀ k i j, H (.u k i j) = none) :
    FnE Tryz.prog gl 68 DM [pav p, iv f] H (fun _ y H' => y = .pt Mn 0 ∧ OwnM H' 226 p (meantW p f)) noE := by
  have hw := startW_ok hP.sh hf
  have hs := hP.sh.sml
  have hh := hP.sh.heads
  refine FnE.of_sem Tryz.func68 rfl (by kernel_rfl) (rs := [.tmp 4]) rfl Tryz.ntmps68 (Nat.le_of_ble_eq_true rfl) (fun _ => DM_root) fun C w g root hroot => ?_
  have fx := fx0
  have e1 := scopesOf_fn gl p hs hh hP.sh.names
  refine k_run ?_
  repeat ((first | refine wSc (id := 1) qsQl0 mixed ?_ | refine wSc (id := 3) qsQl1 mixed ?_); refine k_rund ?_; refine k_run ?_)
  clear fx e1
  intro K hK
  rintro y H' ⟨rfl, hO⟩
  obtain ⟨ho1, ho2⟩ := hO.hcln
  try refine ⟨by simp, ?_⟩
  have fx :=  ho1
  refine k_run ?_
  repeat ((first | refine wSc (id := 1) qsQl0 mixed ?_ | refine wSc (id := 3) qsQl1 mixed ?_); refine k_rund ?_; refine k_run ?_)
  clear fx
  intro K hK
  refine o_mv (.s 5) Mn (.inl rfl) (.inr (by simp [ctx0, hN])) ?_
  have fx := fx0
  refine x_map (h := ?_)
  clear fx
  have fx :=  ho1
  refine k_run ?_
  repeat ((first | refine wSc (id := 1) qsQl0 mixed ?_ | refine wSc (id := 3) qsQl1 mixed ?_); refine k_rund ?_; refine k_run ?_)
  clear fx
  intro K hK
  refine o_mv (.c Mn 0 6) (En 0) (.inl rfl) (.inr (by simp [ctx0, hN])) ?_
  have fx := fx0
  refine x_mutM (fun k i j he => by simp [ctx0, hN] at he) (hF := runBody_fn gl p hP 151 _ (startW f) 0 ?_ hw (by simp only [startW]; omega) (by simp [startW]) rfl (by simp)) (h := ?_)
  · clear fx
    refine ⟨by simp [mRow, startW], ⟨by simp [ho1], fun j k hj hk => by simp [ho2 j k hj hk]⟩, by simp [startW, irows], by simp [startW, nrows], ⟨[], by simp, by simp [startW, erows]⟩, by simp [startW, cloRows], fun k g hg => by simp [startW] at hg, by simp [startW, cmpRows], fun k c hc => by simp [startW] at hc, fun i a ha => ?_, fun i hi => ?_, fun k i j hk hn => ?_⟩
    · have hi : i = 0 := by
        have := (gS ha).1
        simp [startW] at this
        omega
      subst hi
      have ha' : a = ⟨0, 0, noSlots⟩ := by simpa [startW] using ha.symm
      subst ha'
      simp [envRow]
      rfl
    · obtain rfl : i = 0 := by simpa [startW] using hi
      exact ⟨[], by simp [mrows], by simpa [Wld.nms, startW] using MapOk.nil⟩
    · by_cases e1 : k = 1 ∧ i = 0 ∧ j = 0
      · exact .inl e1
      · by_cases e7 : k = 7 ∧ i = 0 ∧ j = 0
        · exact .inr (.inl ⟨e7.1, by simp [startW, e7.2.1], e7.2.2⟩)
        · exact absurd hn (by simp [hk, e1, e7, hN])
  rintro y H1 ⟨rfl, hO1⟩
  clear fx
  have hT1 := hO1.top
  simp only [mRow] at hT1
  have hme : (runW p 151 (startW f) 0).1 = meantW p f := rfl
  rw [hme] at hO1 hT1
  have fx :=  hT1
  refine k_run ?_
  repeat ((first | refine wSc (id := 1) qsQl0 mixed ?_ | refine wSc (id := 3) qsQl1 mixed ?_); refine k_rund ?_; refine k_run ?_)
  clear fx
  refine e_ret [] .nil (by simp; rfl) ⟨by simp, OwnM.fin (have om := hO1; OwnM.re om)⟩
end Go.Proofs.YtmaoicgfcngciaaGreatDoor
end
section
namespace Go.Proofs.YtmaoicgfcngciaaGreatDoor
open Go Go.Hm Go.Proofs
theorem isFuel_fn (gl) (f : Int) : FnOk Tryz.prog gl 67 [iv f] (fun _ y _ => y = bv (decide (0 ≤ f) && decide (f ≤ 150))) := by
  refine FnOk.of_sem Tryz.func67 rfl (by kernel_rfl) (rs := [.tmp 2]) rfl Tryz.ntmps67 (Nat.le_of_ble_eq_true rfl) fun C w g root => ?_
  by_cases h1 : 0 ≤ f
  · by_cases h2 : f ≤ 150
    · skip
      have fx := And.intro h1 <| h2
      refine k_run ?_
      clear fx
      refine e_ret [] .nil (by simp; rfl) (by simp [h1, h2])
    · skip
      have fx := And.intro h1 <| h2
      refine k_run ?_
      clear fx
      refine e_ret [] .nil (by simp; rfl) (by simp [h1, h2])
  · skip
    have fx :=  h1
    refine k_run ?_
    clear fx
    refine e_ret [] .nil (by simp; rfl) (by simp [h1])
end Go.Proofs.YtmaoicgfcngciaaGreatDoor
end
