/-
  Own texts, joined by mkclaim.py: Qg, Qh, Qi.
-/
import Derived.Test.YtpckgioefpkmoaaGreatM24
set_option linter.unusedSimpArgs false
set_option linter.unusedVariables false

section
set_option maxRecDepth 100000
set_option maxHeartbeats 4000000
set_option linter.unusedSimpArgs false
namespace Go.Proofs.YtpckgioefpkmoaaGreat
open Go Go.Hm Go.Proofs
theorem mrows_sc {ms : NMap} : ∀ e ∈ mrows ms, ∀ f : Nm → Option Nm, e.1.tr f = e.1 ∧ e.2.tr f = e.2 := by
  intro e he f
  simp only [mrows, List.mem_map] at he
  obtain ⟨q, _, rfl⟩ := he
  simp
theorem class_fn (gl) (F : Nat) (p : Prg) (n : Nat) (hR : MBok gl F p n) (H : Nm → Option AO) (W : Wld) (a b : Nat) (hP : ValP p) (hw : WOk p W) (hn : W.left < n) (h0 : W.en = 0) (hm : madeAt p W.acts b a) (hr : Room 2 W) (hO : OwnM H F p W) (hV : H (.u 2 0 0) = none) :
    FnE Tryz.prog gl 151 DM [.pt Mn 0, ptE a, iv b] H (fun _ y H' => y = .tup [Val.av (classW p (runW p n) W b a).2, bv (decide ((classW p (runW p n) W b a).1.en = 0))] ∧ OwnM H' F p (classW p (runW p n) W b a).1) noE := by
  obtain ⟨k, hk, hpk⟩ := hm.shape
  obtain ⟨hbl, hkE⟩ := List.getElem?_eq_some_iff.1 hk
  have hT := hO.top
  simp only [mRow] at hT
  have hpos : ¬ W.acts.length = 0 := by
    obtain ⟨a, ha, _⟩ := hw.a0
    have := (List.getElem?_eq_some_iff.1 ha).1
    omega
  have hpos' : ¬ 0 = W.acts.length := fun e => hpos e.symm
  have hupl : ¬ a = W.acts.length := by
    obtain ⟨c, _, e, _⟩ := hm
    have := (List.getElem?_eq_some_iff.1 e).1
    omega
  have hno : ∀ j, H (.u 7 W.acts.length j) = none := fun j => by
    cases e : H (.u 7 W.acts.length j) with
    | none => rfl
    | some o =>
      rcases hO.only 7 W.acts.length j rfl (by rw [e]; simp) with ⟨h, _⟩ | ⟨_, h, _⟩ | ⟨h, _⟩
      · cases h
      · omega
      · cases h
  have hbeg : actI p W b a [] 0 = { beginW p W b a [] with stack := W.stack } := by
    simp [actI, begI, beginW, bindP]
  have hcl : classW p (runW p n) W b a = if (enterW p (runW p n) W b a []).1.en ≠ 0 then ((enterW p (runW p n) W b a []).1, (0, 0)) else
    ({ (enterW p (runW p n) W b a []).1 with classes := (enterW p (runW p n) W b a []).1.classes ++ [(enterW p (runW p n) W b a []).1.vars (some W.acts.length)] }, (3, ((enterW p (runW p n) W b a []).1.classes.length : Int))) := rfl
  obtain ⟨⟨e1, e2, e3⟩, e4⟩ := enterW_ok (vs := []) (runW_ok hP.sh n) hw hn h0 hm (by simp) (hr.mono (by omega))
  have hrc : (enterW p (runW p n) W b a []).1.classes.length ≤ 1000 := by have := e1.ncls; omega
  have hlen : W.acts.length < (enterW p (runW p n) W b a []).1.acts.length := by
    obtain ⟨g1, g2⟩ := beginW_ok (vs := []) hw hm (fun v hv => by simp at hv) (hr.mono (by omega))
    obtain ⟨⟨_, r2, _⟩, _⟩ := runW_ok hP.sh n (beginW p W b a []) W.acts.length g1 hn (by simp [beginW]) h0
    have := r2.lacts
    unfold enterW endW
    split <;> simp [beginW] at this ⊢ <;> omega
  have hlf : W.funs.length ≤ (enterW p (runW p n) W b a []).1.funs.length := e2.lfuns
  have hent := enterM_fn gl F p n hR (W := W) (b := b) (up := a) (vs := [])
  refine FnE.of_sem Tryz.func151 rfl (by kernel_rfl) (rs := [.cell 6 111, .tmp 7]) rfl Tryz.ntmps151 (Nat.le_of_ble_eq_true rfl) (fun _ => DM_root) fun C w g root hroot => ?_
  have fx := fx0
  refine k_run ?_
  repeat ((first | refine w_sch (id := 5) (.q 0 <| .q 1 <| .q 2 <| .q 3 <| .q 4 <| .q 5 <| .q 6 <| .q 7 <| .q 8 <| .l 9 [7, 6, 5, 4, 3, 2, 1, 0] <| .l 10 [7, 6, 5, 4, 3, 2, 1, 0] <| .l 11 [7, 6, 5, 3, 2, 1, 0] <| .q 12 <| .q 13 <| .l 14 [12] <| .done) mixed (by kernel_rfl) (by kernel_rfl) ?_); refine k_rund ?_; refine k_run ?_)
  clear fx
  intro K hK
  have fx := fx0
  refine x_map (h := ?_)
  clear fx
  have fx :=  hT
  refine k_run ?_
  repeat ((first | refine w_sch (id := 5) (.q 0 <| .q 1 <| .q 2 <| .q 3 <| .q 4 <| .q 5 <| .q 6 <| .q 7 <| .q 8 <| .l 9 [7, 6, 5, 4, 3, 2, 1, 0] <| .l 10 [7, 6, 5, 4, 3, 2, 1, 0] <| .l 11 [7, 6, 5, 3, 2, 1, 0] <| .q 12 <| .q 13 <| .l 14 [12] <| .done) mixed (by kernel_rfl) (by kernel_rfl) ?_); refine k_rund ?_; refine k_run ?_)
  clear fx
  intro K hK
  refine o_mv (.s 8) (En W.acts.length) (.inl rfl) (.inr (by simp [ctx0, hno])) ?_
  have fx := hT
  refine x_callM hO (w := actI p W b a [] 0) ?_ (by simp [actI, begI]) (Nat.le_refl _) (hF := fun hs => hent _ hP hw hn h0 hm (by simp) (hr.mono (by omega)) (by rw [← hbeg]; exact hs) (by simp [hV])) (h := ?_)
  · clear fx
    refine ⟨by simp [mRow, actI, begI, hO.top, hpos'], ⟨by simp [hO.scs.top], fun j k hj hk => by simp [hO.scs.sc j k hj hk]⟩, by simp [actI, begI, hO.out], by simp [actI, begI, hO.trc], hO.run.imp fun l hl => ⟨fun i hi => by have := hl.1 i hi; simp [actI, begI]; omega, ?_⟩, by simp [actI, begI, hO.funs], fun k' g hg => ?_, by simp [actI, begI, hO.clss], fun k c hc => (hO.cls k c hc).imp fun ms hm => ⟨by simp [hm.1], hm.2⟩, fun i d hd => ?_, fun i hi => ?_, fun k' i j hk' hn => ?_⟩
    · simp [hl.2, actI]
      refine erows_lt fun i hi => ?_
      have hlt : i < W.acts.length := by
        rcases List.mem_append.1 hi with e | e
        · exact hw.stk i e
        · exact hl.1 i e
      have hne : ¬ i = W.acts.length := by omega
      simp [hne]
    · have hgl : ¬ g.2 = W.acts.length := by
        obtain ⟨c, _, e, _⟩ := hw.funs k' g hg
        have := (List.getElem?_eq_some_iff.1 e).1
        omega
      simp [hO.bx k' g hg, hgl]
    · simp only [actI, begI] at hd
      rcases Nat.lt_or_ge i W.acts.length with hlt | hge
      · rw [List.getElem?_append_left hlt] at hd
        have hne : ¬ i = W.acts.length := by omega
        have hne' : ¬ W.acts.length = i := by omega
        by_cases e0 : i = 0
        · subst e0
          simp [hO.env 0 d hd, envRow, hne, hne']
        · have hup := (hw.up i d hd (by omega)).1
          have hupn : ¬ d.up = W.acts.length := by omega
          simp [hO.env i d hd, envRow, e0, hne, hne', hupn]
      · rw [List.getElem?_append_right hge] at hd
        have hi : i = W.acts.length := by
          have := (List.getElem?_eq_some_iff.1 hd).1
          simp at this
          omega
        subst hi
        simp at hd
        subst hd
        simp [envRow, hpos, hupl]
    · by_cases e : i = W.acts.length
      · subst e
        rw [actI_nmsL (vs := []) hpos hk]
        exact ⟨[], by simp, by simpa [bindP] using MapOk.nil⟩
      · rw [actI_nms e]
        have hlt : i < W.acts.length := by
          simp [actI, begI] at hi
          omega
        have hne' : ¬ W.acts.length = i := by omega
        exact (hO.nms i hlt).imp fun ms hm => ⟨by simp [hm.1, e, hne'], hm.2⟩
    · by_cases e7 : k' = 7 ∧ i = W.acts.length ∧ j = 0
      · exact .inr (.inl ⟨e7.1, by simp [actI, begI]; omega, e7.2.2⟩)
      · by_cases e1 : k' = 1 ∧ i = 0 ∧ j = 0
        · exact .inl e1
        · have hn' : H (.u k' i j) ≠ none := by simpa [hk', e1, e7] using hn
          rcases hO.only k' i j hk' hn' with h | h | h
          · exact .inl h
          · exact .inr (.inl ⟨h.1, by simp [actI, begI]; omega, h.2.2⟩)
          · exact .inr (.inr h)
  rintro y H2 ⟨rfl, hO2⟩
  clear fx
  generalize enterW p (runW p n) W b a [] = q2 at hO2 hcl e1 hrc hlen hlf
  obtain ⟨U, v1, v2⟩ := q2
  simp only at hO2 hcl e1 hrc hlen hlf
  have hT2 := hO2.top
  simp only [mRow] at hT2
  obtain ⟨d, hd⟩ : ∃ d, U.acts[W.acts.length]? = some d := ⟨_, List.getElem?_eq_getElem hlen⟩
  have hE2 := hO2.env W.acts.length d hd
  simp only [envRow, hpos, if_false] at hE2
  by_cases hen2 : U.en = 0
  case neg =>
    rw [if_pos hen2] at hcl
    have fx := And.intro hT <| And.intro hT2 <| And.intro hen2 <| hE2
    refine k_run ?_
    repeat ((first | refine w_sch (id := 5) (.q 0 <| .q 1 <| .q 2 <| .q 3 <| .q 4 <| .q 5 <| .q 6 <| .q 7 <| .q 8 <| .l 9 [7, 6, 5, 4, 3, 2, 1, 0] <| .l 10 [7, 6, 5, 4, 3, 2, 1, 0] <| .l 11 [7, 6, 5, 3, 2, 1, 0] <| .q 12 <| .q 13 <| .l 14 [12] <| .done) mixed (by kernel_rfl) (by kernel_rfl) ?_); refine k_rund ?_; refine k_run ?_)
    clear fx
    rw [hcl]
    refine e_ret [] .nil (by simp; rfl) ⟨by simp [hen2], OwnM.fin ⟨by simp [hO2.top, mRow], ⟨by simp [hO2.scs.top], fun j k hj hk => by simp [hO2.scs.sc j k hj hk]⟩, by simp [hO2.out], by simp [hO2.trc], hO2.run.imp fun l hl => ⟨hl.1, by simp [hl.2]⟩, by simp [hO2.funs], fun k g hg => by simp [hO2.bx k g hg], by simp [hO2.clss], fun k c hc => (hO2.cls k c hc).imp fun ms hm => ⟨by simp [hm.1], hm.2⟩, fun i a ha => by simp [hO2.env i a ha], fun i hi => (hO2.nms i hi).imp fun ms hm => ⟨by simp [hm.1], hm.2⟩, fun k i j hk hn => if e : k = 1 ∧ i = 0 ∧ j = 0 then .inl e else hO2.only k i j hk (by simpa [hk, e] using hn)⟩⟩
  rw [if_neg (by simpa using hen2)] at hcl
  obtain ⟨ms, hms, hmo⟩ := hO2.nms W.acts.length hlen
  have hnv : U.nms W.acts.length = U.vars (some W.acts.length) := by simp [Wld.nms, Wld.vars, hpos, hd]
  rw [hnv] at hmo
  generalize hnve : U.vars (some W.acts.length) = nv at hmo hcl hnv
  have fx := And.intro hT <| And.intro hT2 <| And.intro hen2 <| And.intro hE2 <| hms
  refine k_run ?_
  repeat ((first | refine w_sch (id := 5) (.q 0 <| .q 1 <| .q 2 <| .q 3 <| .q 4 <| .q 5 <| .q 6 <| .q 7 <| .q 8 <| .l 9 [7, 6, 5, 4, 3, 2, 1, 0] <| .l 10 [7, 6, 5, 4, 3, 2, 1, 0] <| .l 11 [7, 6, 5, 3, 2, 1, 0] <| .q 12 <| .q 13 <| .l 14 [12] <| .done) mixed (by kernel_rfl) (by kernel_rfl) ?_); refine k_rund ?_; refine k_run ?_)
  clear fx
  intro K hK
  have fx := And.intro hT (And.intro hT2 (And.intro hE2 hms))
  refine x_clone rfl (n := .c (En W.acts.length) 0 1) (es := mrows ms) (hsc := mrows_sc) (h := ?_)
  clear fx
  have hC := hO2.clss
  have hwr : IntKind.i64.wrap (U.classes.length : Int) = U.classes.length := wrp (by omega) (by omega)
  have fx := And.intro hT <| And.intro hT2 <| And.intro hE2 <| hms
  refine k_run ?_
  repeat ((first | refine w_sch (id := 5) (.q 0 <| .q 1 <| .q 2 <| .q 3 <| .q 4 <| .q 5 <| .q 6 <| .q 7 <| .q 8 <| .l 9 [7, 6, 5, 4, 3, 2, 1, 0] <| .l 10 [7, 6, 5, 4, 3, 2, 1, 0] <| .l 11 [7, 6, 5, 3, 2, 1, 0] <| .q 12 <| .q 13 <| .l 14 [12] <| .done) mixed (by kernel_rfl) (by kernel_rfl) ?_); refine k_rund ?_; refine k_run ?_)
  clear fx
  refine o_mv (.c (.s 35) 0 0) (.c Mn (U.classes.length + 1) 9) (.inl rfl) (.inl rfl) ?_
  have fx := And.intro hT <| And.intro hT2 <| And.intro hC <| And.intro hrc <| And.intro hwr <| And.intro hE2 <| hms
  refine k_run ?_
  repeat ((first | refine w_sch (id := 5) (.q 0 <| .q 1 <| .q 2 <| .q 3 <| .q 4 <| .q 5 <| .q 6 <| .q 7 <| .q 8 <| .l 9 [7, 6, 5, 4, 3, 2, 1, 0] <| .l 10 [7, 6, 5, 4, 3, 2, 1, 0] <| .l 11 [7, 6, 5, 3, 2, 1, 0] <| .q 12 <| .q 13 <| .l 14 [12] <| .done) mixed (by kernel_rfl) (by kernel_rfl) ?_); refine k_rund ?_; refine k_run ?_)
  clear fx
  rw [hcl]
  have hap : cmpRows Mn U.classes ++ [[.mp (.c Mn (U.classes.length + 1) 9)]] = cmpRows Mn (U.classes ++ [nv]) := cmpRows_app
  refine e_ret [] .nil (by simp; rfl) ⟨by simp [hen2], OwnM.fin ⟨by simp [hT2, mRow], ⟨by simp [hO2.scs.top], fun j k hj hk => by simp [hO2.scs.sc j k hj hk]⟩, by simp [hO2.out], by simp [hO2.trc], hO2.run.imp fun l hl => ⟨hl.1, by simp [hl.2]⟩, by simp [hO2.funs], fun k g hg => by simp [hO2.bx k g hg], ?_, fun k c hc => ?_, fun i a ha => by simp [hO2.env i a ha], fun i hi => ?_, fun k i j hk hn => if e : k = 1 ∧ i = 0 ∧ j = 0 then .inl e else hO2.only k i j hk (by simpa [hk, e] using hn)⟩⟩
  · simp [← hap]
    rw [List.take_of_length_le (by simp)]
    refine cmpRows_map fun i c hc => ?_
    have hne : ¬ i = U.classes.length := by have := (List.getElem?_eq_some_iff.1 hc).1; omega
    have hne' : ¬ U.classes.length = i := by omega
    simp [hne, hne']
  · simp only at hc
    rcases Nat.lt_or_ge k U.classes.length with hlt | hge
    · rw [List.getElem?_append_left hlt] at hc
      have hne : ¬ k = U.classes.length := by omega
      have hne' : ¬ U.classes.length = k := by omega
      exact (hO2.cls k c hc).imp fun ms hm => ⟨by simp [hm.1, hne, hne'], hm.2⟩
    · rw [List.getElem?_append_right hge] at hc
      have hi : k = U.classes.length := by
        have := (List.getElem?_eq_some_iff.1 hc).1
        simp at this
        omega
      subst hi
      simp at hc
      subst hc
      exact ⟨ms, by simp, hmo⟩
  · by_cases e : i = W.acts.length
    · subst e
      have hnv' : ({ U with classes := U.classes ++ [nv] } : Wld).nms W.acts.length = nv := hnv
      exact ⟨ms, by simp [hms], by rw [hnv']; exact hmo⟩
    · exact (hO2.nms i hi).imp fun ms hm => ⟨by simp [hm.1, e], hm.2⟩
end Go.Proofs.YtpckgioefpkmoaaGreat
end

section
set_option maxRecDepth 100000
set_option maxHeartbeats 4000000
set_option linter.unusedSimpArgs false
namespace Go.Proofs.YtpckgioefpkmoaaGreat
open Go Go.Hm Go.Proofs
@[simp] theorem nilS_nfn : isNilS (AV.sc .nilFunc) = false := rfl
@[simp] theorem nilS_fn {f : Fn} {xs ys : List AV} : isNilS (AV.fn f xs ys) = false := rfl
theorem callM_fn (gl) (p : Prg) (n : Nat) (hR : MBok gl 155 p n) (H : Nm → Option AO) (W : Wld) (f : Val) (lo : Nat) (vs all : List Val) (hP : ValP p) (hw : WOk p W) (hn : W.left < n) (h0 : W.en = 0) (hf : VOk W.funs.length W.classes.length f) (hv : ∀ v ∈ vs, VOk W.funs.length W.classes.length v) (hr : Room 1 W)
    (hall : all.drop lo = vs) (hlo : lo + vs.length = all.length) (hv2 : vs.length ≤ 1) (hO : OwnM H 155 p W) (hL : H (.u 2 0 0) = some (.row 2 (vrows all))) :
    FnE Tryz.prog gl 152 DM2 [.pt Mn 0, Val.av f, .hs (.u 2 0 0) 2 lo vs.length] H (fun _ y H' => y = .tup [Val.av (callW p (runW p n) W f vs).2, bv (decide ((callW p (runW p n) W f vs).1.en = 0))] ∧ OwnM H' 155 p (callW p (runW p n) W f vs).1) noE := by
  have hT := hO.top
  simp only [mRow] at hT
  obtain ⟨f1, f2⟩ := f
  refine FnE.of_sem Tryz.func152 rfl (by kernel_rfl) (rs := [.cell 6 111, .tmp 7]) rfl Tryz.ntmps152 (Nat.le_of_ble_eq_true rfl) (fun _ => DM2_root) fun C w g root hroot => ?_
  by_cases h2 : f1 = 2
  · subst h2
    have hf2 := hf.num
    have hf3 := hf.fn rfl
    simp only at hf2 hf3
    obtain ⟨i, rfl⟩ : ∃ i : Nat, f2 = i := ⟨f2.toNat, by omega⟩
    have hil : i < W.funs.length := by omega
    obtain ⟨⟨g1, g2⟩, hg⟩ : ∃ g, W.funs[i]? = some g := ⟨_, List.getElem?_eq_getElem hil⟩
    obtain ⟨_, hgE⟩ := List.getElem?_eq_some_iff.1 hg
    have hm := hw.funs i _ hg
    obtain ⟨k, hk, hpk⟩ := hm.shape
    have hF := hO.funs
    have hcc : cloC 155 p i (g1, g2) = [iv (parN p g1), .fn (.func 155) [] [.pt (.u 8 i 0) 0, .pt (.u 8 i 1) 0, .pt (.u 8 i 2) 0, .pt (.u 8 i 3) 0]] := rfl
    obtain ⟨c1, c2, c3, c4⟩ := hO.bx i _ hg
    simp only at hm hk hpk c1 c2 c3 c4
    by_cases hl : parN p g1 = vs.length
    · have hc : callW p (runW p n) W (2, (i : Int)) vs = enterW p (runW p n) W g1 g2 vs := by
        simp [callW, hg, hl]
      have hlb : ((parN p g1 : Int) == (vs.length : Int)) = true := by rw [hl]; simp
      have fx := And.intro hT <| And.intro hF <| And.intro hil <| And.intro hg <| And.intro hgE <| And.intro hcc <| And.intro hlb <| @bne_def
      refine k_run ?_
      repeat ((first | refine w_sch (id := 3) (.q 0 <| .q 1 <| .q 2 <| .q 3 <| .q 4 <| .q 5 <| .q 6 <| .q 7 <| .l 8 [7, 6, 5, 4, 3, 2, 1, 0] <| .l 9 [] <| .done) mixed (by kernel_rfl) (by kernel_rfl) ?_); refine k_rund ?_; refine k_run ?_)
      clear fx
      intro K hK
      have fx := And.intro hT hF
      refine x_callMv (xs := []) (ys := [.pt (.u 8 i 0) 0, .pt (.u 8 i 1) 0, .pt (.u 8 i 2) 0, .pt (.u 8 i 3) 0]) hO ⟨by simp [hO.top, mRow], ⟨by simp [hO.scs.top], fun j k hj hk => by simp [hO.scs.sc j k hj hk]⟩, by simp [hO.out], by simp [hO.trc], hO.run.imp fun l hl => ⟨hl.1, by simp [hl.2]⟩, by simp [hO.funs], fun k g hg => by simp [hO.bx k g hg], by simp [hO.clss], fun k c hc => (hO.cls k c hc).imp fun ms hm => ⟨by simp [hm.1], hm.2⟩, fun i a ha => by simp [hO.env i a ha], fun i hi => (hO.nms i hi).imp fun ms hm => ⟨by simp [hm.1], hm.2⟩, fun k i j hk hn => if e : k = 1 ∧ i = 0 ∧ j = 0 then .inl e else hO.only k i j hk (by simpa [hk, e] using hn)⟩ (by simp [hL]) (Nat.le_refl _) (Nat.le_refl _) (hF := fun hs => closure_fn gl _ p n hR _ W i g1 g2 lo vs all hP hw hn h0 hg hv hr hall hlo hl hv2 hs (by simp [hL])) (h := ?_)
      rintro y H1 ⟨rfl, hO1⟩
      clear fx
      have hT1 := hO1.top
      simp only [mRow] at hT1
      have fx := And.intro hT <| hT1
      refine k_run ?_
      repeat ((first | refine w_sch (id := 3) (.q 0 <| .q 1 <| .q 2 <| .q 3 <| .q 4 <| .q 5 <| .q 6 <| .q 7 <| .l 8 [7, 6, 5, 4, 3, 2, 1, 0] <| .l 9 [] <| .done) mixed (by kernel_rfl) (by kernel_rfl) ?_); refine k_rund ?_; refine k_run ?_)
      clear fx
      rw [hc]
      refine e_ret [] .nil (by simp; rfl) ⟨by simp, OwnM.fin ⟨by simp [hO1.top, mRow], ⟨by simp [hO1.scs.top], fun j k hj hk => by simp [hO1.scs.sc j k hj hk]⟩, by simp [hO1.out], by simp [hO1.trc], hO1.run.imp fun l hl => ⟨hl.1, by simp [hl.2]⟩, by simp [hO1.funs], fun k g hg => by simp [hO1.bx k g hg], by simp [hO1.clss], fun k c hc => (hO1.cls k c hc).imp fun ms hm => ⟨by simp [hm.1], hm.2⟩, fun i a ha => by simp [hO1.env i a ha], fun i hi => (hO1.nms i hi).imp fun ms hm => ⟨by simp [hm.1], hm.2⟩, fun k i j hk hn => if e : k = 1 ∧ i = 0 ∧ j = 0 then .inl e else hO1.only k i j hk (by simpa [hk, e] using hn)⟩⟩
    · have hc : callW p (runW p n) W (2, (i : Int)) vs = ({ W with en := 6 }, (0, 0)) := by
        simp [callW, hg, hl]
      have hlb : ((parN p g1 : Int) == (vs.length : Int)) = false := by
        rw [beq_eq_false_iff_ne]
        omega
      have fx := And.intro hT <| And.intro hF <| And.intro hil <| And.intro hg <| And.intro hgE <| And.intro hcc <| And.intro hlb <| @bne_def
      refine k_run ?_
      repeat ((first | refine w_sch (id := 3) (.q 0 <| .q 1 <| .q 2 <| .q 3 <| .q 4 <| .q 5 <| .q 6 <| .q 7 <| .l 8 [7, 6, 5, 4, 3, 2, 1, 0] <| .l 9 [] <| .done) mixed (by kernel_rfl) (by kernel_rfl) ?_); refine k_rund ?_; refine k_run ?_)
      clear fx
      intro K hK
      have fx := hT
      refine x_callM hO ⟨by simp [hO.top, mRow], ⟨by simp [hO.scs.top], fun j k hj hk => by simp [hO.scs.sc j k hj hk]⟩, by simp [hO.out], by simp [hO.trc], hO.run.imp fun l hl => ⟨hl.1, by simp [hl.2]⟩, by simp [hO.funs], fun k g hg => by simp [hO.bx k g hg], by simp [hO.clss], fun k c hc => (hO.cls k c hc).imp fun ms hm => ⟨by simp [hm.1], hm.2⟩, fun i a ha => by simp [hO.env i a ha], fun i hi => (hO.nms i hi).imp fun ms hm => ⟨by simp [hm.1], hm.2⟩, fun k i j hk hn => if e : k = 1 ∧ i = 0 ∧ j = 0 then .inl e else hO.only k i j hk (by simpa [hk, e] using hn)⟩ (Nat.le_refl _) (Nat.le_refl _) (hF := fun hs => stop_fn _ _ _ p W 6 hs) (h := ?_)
      rintro y H2 ⟨rfl, hO2⟩
      clear fx
      have hT2 := hO2.top
      simp only [mRow] at hT2
      have fx := And.intro hT <| hT2
      refine k_run ?_
      repeat ((first | refine w_sch (id := 3) (.q 0 <| .q 1 <| .q 2 <| .q 3 <| .q 4 <| .q 5 <| .q 6 <| .q 7 <| .l 8 [7, 6, 5, 4, 3, 2, 1, 0] <| .l 9 [] <| .done) mixed (by kernel_rfl) (by kernel_rfl) ?_); refine k_rund ?_; refine k_run ?_)
      clear fx
      rw [hc]
      refine e_ret [] .nil (by simp; rfl) ⟨by simp, OwnM.fin ⟨by simp [hO2.top, mRow], ⟨by simp [hO2.scs.top], fun j k hj hk => by simp [hO2.scs.sc j k hj hk]⟩, by simp [hO2.out], by simp [hO2.trc], hO2.run.imp fun l hl => ⟨hl.1, by simp [hl.2]⟩, by simp [hO2.funs], fun k g hg => by simp [hO2.bx k g hg], by simp [hO2.clss], fun k c hc => (hO2.cls k c hc).imp fun ms hm => ⟨by simp [hm.1], hm.2⟩, fun i a ha => by simp [hO2.env i a ha], fun i hi => (hO2.nms i hi).imp fun ms hm => ⟨by simp [hm.1], hm.2⟩, fun k i j hk hn => if e : k = 1 ∧ i = 0 ∧ j = 0 then .inl e else hO2.only k i j hk (by simpa [hk, e] using hn)⟩⟩
  · have hb1 : (f1 == 2) = false := by simpa using h2
    have hc : callW p (runW p n) W (f1, f2) vs = ({ W with en := 5 }, (0, 0)) := by simp [callW, h2]
    have fx := And.intro hT <| And.intro hb1 <| @bne_def
    refine k_run ?_
    repeat ((first | refine w_sch (id := 3) (.q 0 <| .q 1 <| .q 2 <| .q 3 <| .q 4 <| .q 5 <| .q 6 <| .q 7 <| .l 8 [7, 6, 5, 4, 3, 2, 1, 0] <| .l 9 [] <| .done) mixed (by kernel_rfl) (by kernel_rfl) ?_); refine k_rund ?_; refine k_run ?_)
    clear fx
    intro K hK
    have fx := hT
    refine x_callM hO ⟨by simp [hO.top, mRow], ⟨by simp [hO.scs.top], fun j k hj hk => by simp [hO.scs.sc j k hj hk]⟩, by simp [hO.out], by simp [hO.trc], hO.run.imp fun l hl => ⟨hl.1, by simp [hl.2]⟩, by simp [hO.funs], fun k g hg => by simp [hO.bx k g hg], by simp [hO.clss], fun k c hc => (hO.cls k c hc).imp fun ms hm => ⟨by simp [hm.1], hm.2⟩, fun i a ha => by simp [hO.env i a ha], fun i hi => (hO.nms i hi).imp fun ms hm => ⟨by simp [hm.1], hm.2⟩, fun k i j hk hn => if e : k = 1 ∧ i = 0 ∧ j = 0 then .inl e else hO.only k i j hk (by simpa [hk, e] using hn)⟩ (Nat.le_refl _) (Nat.le_refl _) (hF := fun hs => stop_fn _ _ _ p W 5 hs) (h := ?_)
    rintro y H2 ⟨rfl, hO2⟩
    clear fx
    have hT2 := hO2.top
    simp only [mRow] at hT2
    have fx := And.intro hT <| hT2
    refine k_run ?_
    repeat ((first | refine w_sch (id := 3) (.q 0 <| .q 1 <| .q 2 <| .q 3 <| .q 4 <| .q 5 <| .q 6 <| .q 7 <| .l 8 [7, 6, 5, 4, 3, 2, 1, 0] <| .l 9 [] <| .done) mixed (by kernel_rfl) (by kernel_rfl) ?_); refine k_rund ?_; refine k_run ?_)
    clear fx
    rw [hc]
    refine e_ret [] .nil (by simp; rfl) ⟨by simp, OwnM.fin ⟨by simp [hO2.top, mRow], ⟨by simp [hO2.scs.top], fun j k hj hk => by simp [hO2.scs.sc j k hj hk]⟩, by simp [hO2.out], by simp [hO2.trc], hO2.run.imp fun l hl => ⟨hl.1, by simp [hl.2]⟩, by simp [hO2.funs], fun k g hg => by simp [hO2.bx k g hg], by simp [hO2.clss], fun k c hc => (hO2.cls k c hc).imp fun ms hm => ⟨by simp [hm.1], hm.2⟩, fun i a ha => by simp [hO2.env i a ha], fun i hi => (hO2.nms i hi).imp fun ms hm => ⟨by simp [hm.1], hm.2⟩, fun k i j hk hn => if e : k = 1 ∧ i = 0 ∧ j = 0 then .inl e else hO2.only k i j hk (by simpa [hk, e] using hn)⟩⟩
end Go.Proofs.YtpckgioefpkmoaaGreat
end

section
set_option maxRecDepth 100000
set_option maxHeartbeats 4000000
set_option linter.unusedSimpArgs false
namespace Go.Proofs.YtpckgioefpkmoaaGreat
open Go Go.Hm Go.Proofs
theorem valueOfM_fn (gl) (p : Prg) (n : Nat) (hR : MBok gl 155 p n) (H : Nm → Option AO) (W : Wld) (a : Nat) (k : Blk) (s : Stm) (vs : List Val) (hP : ValP p) (hw : WOk p W) (hn : W.left < n) (h0 : W.en = 0) (ha : a < W.acts.length) (hk : p[W.blk a]? = some k) (hs : s ∈ k.body) (hkd : 0 ≤ s.kind ∧ s.kind ≤ 6) (hr : Room 2 W)
    (hl : vs.length = s.reads.length) (hvok : ∀ v ∈ vs, VOk W.funs.length W.classes.length v) (hO : OwnM H 155 p W) (hL : H (.u 2 0 0) = some (.row 2 (vrows vs))) :
    FnE Tryz.prog gl 134 DM2 [.pt Mn 0, ptE a, s.av, .hs (.u 2 0 0) 2 0 vs.length] H (fun _ y H' => y = .tup [Val.av (workW p (runW p n) W a s vs).2, bv (decide ((workW p (runW p n) W a s vs).1.en = 0))] ∧ OwnM H' 155 p (workW p (runW p n) W a s vs).1) noE := by
  have hT := hO.top
  simp only [mRow] at hT
  have hst := hP.sh.stm _ k hk s hs
  have hnm := hP.sh.names k (List.mem_of_getElem? hk)
  have hp1 := hL
  obtain ⟨c, hc⟩ : ∃ c, W.acts[a]? = some c := ⟨_, List.getElem?_eq_getElem ha⟩
  have hE := hO.env a c hc
  obtain ⟨kd, to, sa, sb⟩ := s
  simp only at hkd
  refine FnE.of_sem Tryz.func134 rfl (by kernel_rfl) (rs := [.cell 8 111, .tmp 9]) rfl Tryz.ntmps134 (Nat.le_of_ble_eq_true rfl) (fun _ => DM2_root) fun C w g root hroot => ?_
  have hkc : kd = 0 ∨ kd = 1 ∨ kd = 2 ∨ kd = 3 ∨ kd = 4 ∨ kd = 5 ∨ kd = 6 := by omega
  rcases hkc with rfl | rfl | rfl | rfl | rfl | rfl | rfl
  · have hw0 : workW p (runW p n) W a ⟨0, to, sa, sb⟩ vs = (W, (1, sa)) := by simp [workW]
    have fx := And.intro hT <| And.intro hp1 <| @bne_def
    refine k_run ?_
    repeat ((first | refine w_sch (id := 7) (.q 0 <| .q 1 <| .q 2 <| .q 3 <| .q 4 <| .q 5 <| .q 6 <| .l 7 [5, 4, 2, 1] <| .q 8 <| .q 9 <| .l 10 [] <| .l 11 [] <| .done) mixed (by kernel_rfl) (by kernel_rfl) ?_ | refine w_sch (id := 13) (.q 0 <| .q 1 <| .q 2 <| .q 3 <| .q 4 <| .q 5 <| .l 6 [4, 2, 1] <| .q 7 <| .q 8 <| .l 9 [] <| .l 10 [] <| .done) mixed (by kernel_rfl) (by kernel_rfl) ?_ | refine w_sch (id := 14) (.q 0 <| .q 1 <| .q 2 <| .q 3 <| .q 4 <| .q 5 <| .l 6 [4, 2, 1] <| .q 7 <| .q 8 <| .l 9 [] <| .l 10 [] <| .done) mixed (by kernel_rfl) (by kernel_rfl) ?_); refine k_rund ?_; refine k_run ?_)
    clear fx
    rw [hw0]
    refine e_ret [] .nil (by simp; rfl) ⟨by simp [h0], OwnM.fin ⟨by simp [hO.top, mRow], ⟨by simp [hO.scs.top], fun j k hj hk => by simp [hO.scs.sc j k hj hk]⟩, by simp [hO.out], by simp [hO.trc], hO.run.imp fun l hl => ⟨hl.1, by simp [hl.2]⟩, by simp [hO.funs], fun k g hg => by simp [hO.bx k g hg], by simp [hO.clss], fun k c hc => (hO.cls k c hc).imp fun ms hm => ⟨by simp [hm.1], hm.2⟩, fun i a ha => by simp [hO.env i a ha], fun i hi => (hO.nms i hi).imp fun ms hm => ⟨by simp [hm.1], hm.2⟩, fun k i j hk hn => if e : k = 1 ∧ i = 0 ∧ j = 0 then .inl e else hO.only k i j hk (by simpa [hk, e] using hn)⟩⟩
  · obtain ⟨u, rfl⟩ : ∃ u, vs = [u] := by
      match vs, hl with
      | [u], _ => exact ⟨u, rfl⟩
      | [], h => simp [Stm.reads] at h
      | _ :: _ :: _, h => simp [Stm.reads] at h
    have hw0 : workW p (runW p n) W a ⟨1, to, sa, sb⟩ [u] = (W, u) := by simp [workW]
    have fx := And.intro hT <| And.intro hp1 <| @bne_def
    refine k_run ?_
    repeat ((first | refine w_sch (id := 7) (.q 0 <| .q 1 <| .q 2 <| .q 3 <| .q 4 <| .q 5 <| .q 6 <| .l 7 [5, 4, 2, 1] <| .q 8 <| .q 9 <| .l 10 [] <| .l 11 [] <| .done) mixed (by kernel_rfl) (by kernel_rfl) ?_ | refine w_sch (id := 13) (.q 0 <| .q 1 <| .q 2 <| .q 3 <| .q 4 <| .q 5 <| .l 6 [4, 2, 1] <| .q 7 <| .q 8 <| .l 9 [] <| .l 10 [] <| .done) mixed (by kernel_rfl) (by kernel_rfl) ?_ | refine w_sch (id := 14) (.q 0 <| .q 1 <| .q 2 <| .q 3 <| .q 4 <| .q 5 <| .l 6 [4, 2, 1] <| .q 7 <| .q 8 <| .l 9 [] <| .l 10 [] <| .done) mixed (by kernel_rfl) (by kernel_rfl) ?_); refine k_rund ?_; refine k_run ?_)
    clear fx
    rw [hw0]
    refine e_ret [] .nil (by simp; rfl) ⟨by simp [h0], OwnM.fin ⟨by simp [hO.top, mRow], ⟨by simp [hO.scs.top], fun j k hj hk => by simp [hO.scs.sc j k hj hk]⟩, by simp [hO.out], by simp [hO.trc], hO.run.imp fun l hl => ⟨hl.1, by simp [hl.2]⟩, by simp [hO.funs], fun k g hg => by simp [hO.bx k g hg], by simp [hO.clss], fun k c hc => (hO.cls k c hc).imp fun ms hm => ⟨by simp [hm.1], hm.2⟩, fun i a ha => by simp [hO.env i a ha], fun i hi => (hO.nms i hi).imp fun ms hm => ⟨by simp [hm.1], hm.2⟩, fun k i j hk hn => if e : k = 1 ∧ i = 0 ∧ j = 0 then .inl e else hO.only k i j hk (by simpa [hk, e] using hn)⟩⟩
  · obtain ⟨u, v, rfl⟩ : ∃ u v, vs = [u, v] := by
      match vs, hl with
      | [u, v], _ => exact ⟨u, v, rfl⟩
      | [], h => simp [Stm.reads] at h
      | [_], h => simp [Stm.reads] at h
      | _ :: _ :: _ :: _, h => simp [Stm.reads] at h
    have hw0 : workW p (runW p n) W a ⟨2, to, sa, sb⟩ [u, v] = plusW W u v := by simp [workW]
    have fx := And.intro hT <| And.intro hp1 <| @bne_def
    refine k_run ?_
    repeat ((first | refine w_sch (id := 7) (.q 0 <| .q 1 <| .q 2 <| .q 3 <| .q 4 <| .q 5 <| .q 6 <| .l 7 [5, 4, 2, 1] <| .q 8 <| .q 9 <| .l 10 [] <| .l 11 [] <| .done) mixed (by kernel_rfl) (by kernel_rfl) ?_ | refine w_sch (id := 13) (.q 0 <| .q 1 <| .q 2 <| .q 3 <| .q 4 <| .q 5 <| .l 6 [4, 2, 1] <| .q 7 <| .q 8 <| .l 9 [] <| .l 10 [] <| .done) mixed (by kernel_rfl) (by kernel_rfl) ?_ | refine w_sch (id := 14) (.q 0 <| .q 1 <| .q 2 <| .q 3 <| .q 4 <| .q 5 <| .l 6 [4, 2, 1] <| .q 7 <| .q 8 <| .l 9 [] <| .l 10 [] <| .done) mixed (by kernel_rfl) (by kernel_rfl) ?_); refine k_rund ?_; refine k_run ?_)
    clear fx
    intro K hK
    have fx := And.intro hT hp1
    refine x_callM hO ⟨by simp [hO.top, mRow], ⟨by simp [hO.scs.top], fun j k hj hk => by simp [hO.scs.sc j k hj hk]⟩, by simp [hO.out], by simp [hO.trc], hO.run.imp fun l hl => ⟨hl.1, by simp [hl.2]⟩, by simp [hO.funs], fun k g hg => by simp [hO.bx k g hg], by simp [hO.clss], fun k c hc => (hO.cls k c hc).imp fun ms hm => ⟨by simp [hm.1], hm.2⟩, fun i a ha => by simp [hO.env i a ha], fun i hi => (hO.nms i hi).imp fun ms hm => ⟨by simp [hm.1], hm.2⟩, fun k i j hk hn => if e : k = 1 ∧ i = 0 ∧ j = 0 then .inl e else hO.only k i j hk (by simpa [hk, e] using hn)⟩ (Nat.le_refl _) (Nat.le_refl _) (hF := fun hs => add_fn _ _ _ p W u v h0 (hvok u (by simp)) (hvok v (by simp)) hs) (h := ?_)
    rintro y H2 ⟨rfl, hO2⟩
    clear fx
    have hT2 := hO2.top
    simp only [mRow] at hT2
    have fx := And.intro hT <| And.intro hp1 <| And.intro hT2 <| @bne_def
    refine k_run ?_
    repeat ((first | refine w_sch (id := 7) (.q 0 <| .q 1 <| .q 2 <| .q 3 <| .q 4 <| .q 5 <| .q 6 <| .l 7 [5, 4, 2, 1] <| .q 8 <| .q 9 <| .l 10 [] <| .l 11 [] <| .done) mixed (by kernel_rfl) (by kernel_rfl) ?_ | refine w_sch (id := 13) (.q 0 <| .q 1 <| .q 2 <| .q 3 <| .q 4 <| .q 5 <| .l 6 [4, 2, 1] <| .q 7 <| .q 8 <| .l 9 [] <| .l 10 [] <| .done) mixed (by kernel_rfl) (by kernel_rfl) ?_ | refine w_sch (id := 14) (.q 0 <| .q 1 <| .q 2 <| .q 3 <| .q 4 <| .q 5 <| .l 6 [4, 2, 1] <| .q 7 <| .q 8 <| .l 9 [] <| .l 10 [] <| .done) mixed (by kernel_rfl) (by kernel_rfl) ?_); refine k_rund ?_; refine k_run ?_)
    clear fx
    rw [hw0]
    refine e_ret [] .nil (by simp; rfl) ⟨by simp, OwnM.fin ⟨by simp [hO2.top, mRow], ⟨by simp [hO2.scs.top], fun j k hj hk => by simp [hO2.scs.sc j k hj hk]⟩, by simp [hO2.out], by simp [hO2.trc], hO2.run.imp fun l hl => ⟨hl.1, by simp [hl.2]⟩, by simp [hO2.funs], fun k g hg => by simp [hO2.bx k g hg], by simp [hO2.clss], fun k c hc => (hO2.cls k c hc).imp fun ms hm => ⟨by simp [hm.1], hm.2⟩, fun i a ha => by simp [hO2.env i a ha], fun i hi => (hO2.nms i hi).imp fun ms hm => ⟨by simp [hm.1], hm.2⟩, fun k i j hk hn => if e : k = 1 ∧ i = 0 ∧ j = 0 then .inl e else hO2.only k i j hk (by simpa [hk, e] using hn)⟩⟩
  · obtain ⟨q, hq1, hq2, hq3, hq4⟩ := StmOk.made hst (.inl rfl)
    simp only at hq1 hq3
    obtain ⟨A, rfl⟩ : ∃ A : Nat, sa = A := ⟨sa.toNat, by omega⟩
    simp only [Int.toNat_natCast] at hq1
    have hw0 : workW p (runW p n) W a ⟨3, to, (A : Int), sb⟩ vs = ({ W with funs := W.funs ++ [(A, a)] }, (2, (W.funs.length : Int))) := by simp [workW]
    have fx := And.intro hT <| And.intro hp1 <| @bne_def
    refine k_run ?_
    repeat ((first | refine w_sch (id := 7) (.q 0 <| .q 1 <| .q 2 <| .q 3 <| .q 4 <| .q 5 <| .q 6 <| .l 7 [5, 4, 2, 1] <| .q 8 <| .q 9 <| .l 10 [] <| .l 11 [] <| .done) mixed (by kernel_rfl) (by kernel_rfl) ?_ | refine w_sch (id := 13) (.q 0 <| .q 1 <| .q 2 <| .q 3 <| .q 4 <| .q 5 <| .l 6 [4, 2, 1] <| .q 7 <| .q 8 <| .l 9 [] <| .l 10 [] <| .done) mixed (by kernel_rfl) (by kernel_rfl) ?_ | refine w_sch (id := 14) (.q 0 <| .q 1 <| .q 2 <| .q 3 <| .q 4 <| .q 5 <| .l 6 [4, 2, 1] <| .q 7 <| .q 8 <| .l 9 [] <| .l 10 [] <| .done) mixed (by kernel_rfl) (by kernel_rfl) ?_); refine k_rund ?_; refine k_run ?_)
    clear fx
    intro K hK
    have fx := hT
    refine x_callM hO ⟨by simp [hO.top, mRow], ⟨by simp [hO.scs.top], fun j k hj hk => by simp [hO.scs.sc j k hj hk]⟩, by simp [hO.out], by simp [hO.trc], hO.run.imp fun l hl => ⟨hl.1, by simp [hl.2]⟩, by simp [hO.funs], fun k g hg => by simp [hO.bx k g hg], by simp [hO.clss], fun k c hc => (hO.cls k c hc).imp fun ms hm => ⟨by simp [hm.1], hm.2⟩, fun i a ha => by simp [hO.env i a ha], fun i hi => (hO.nms i hi).imp fun ms hm => ⟨by simp [hm.1], hm.2⟩, fun k i j hk hn => if e : k = 1 ∧ i = 0 ∧ j = 0 then .inl e else hO.only k i j hk (by simpa [hk, e] using hn)⟩ (Nat.le_refl _) (Nat.le_refl _) (hF := fun hs => function_fn _ _ p W a A q hw ha hq1 (hr.mono (by omega)) (by have hh := hP.sh.head A q hq1; simp only [HeadOk] at hh; split at hh <;> omega) hs) (h := ?_)
    rintro y H2 ⟨rfl, hO2⟩
    clear fx
    have hT2 := hO2.top
    simp only [mRow] at hT2
    have fx := And.intro hT <| And.intro hp1 <| And.intro hT2 <| @bne_def
    refine k_run ?_
    repeat ((first | refine w_sch (id := 7) (.q 0 <| .q 1 <| .q 2 <| .q 3 <| .q 4 <| .q 5 <| .q 6 <| .l 7 [5, 4, 2, 1] <| .q 8 <| .q 9 <| .l 10 [] <| .l 11 [] <| .done) mixed (by kernel_rfl) (by kernel_rfl) ?_ | refine w_sch (id := 13) (.q 0 <| .q 1 <| .q 2 <| .q 3 <| .q 4 <| .q 5 <| .l 6 [4, 2, 1] <| .q 7 <| .q 8 <| .l 9 [] <| .l 10 [] <| .done) mixed (by kernel_rfl) (by kernel_rfl) ?_ | refine w_sch (id := 14) (.q 0 <| .q 1 <| .q 2 <| .q 3 <| .q 4 <| .q 5 <| .l 6 [4, 2, 1] <| .q 7 <| .q 8 <| .l 9 [] <| .l 10 [] <| .done) mixed (by kernel_rfl) (by kernel_rfl) ?_); refine k_rund ?_; refine k_run ?_)
    clear fx
    rw [hw0]
    refine e_ret [] .nil (by simp; rfl) ⟨by simp [h0], OwnM.fin ⟨by simp [hO2.top, mRow], ⟨by simp [hO2.scs.top], fun j k hj hk => by simp [hO2.scs.sc j k hj hk]⟩, by simp [hO2.out], by simp [hO2.trc], hO2.run.imp fun l hl => ⟨hl.1, by simp [hl.2]⟩, by simp [hO2.funs], fun k g hg => by simp [hO2.bx k g hg], by simp [hO2.clss], fun k c hc => (hO2.cls k c hc).imp fun ms hm => ⟨by simp [hm.1], hm.2⟩, fun i a ha => by simp [hO2.env i a ha], fun i hi => (hO2.nms i hi).imp fun ms hm => ⟨by simp [hm.1], hm.2⟩, fun k i j hk hn => if e : k = 1 ∧ i = 0 ∧ j = 0 then .inl e else hO2.only k i j hk (by simpa [hk, e] using hn)⟩⟩
  · have hm := stm_made hst ha (.inr rfl)
    obtain ⟨q, hq1, hq2, hq3, hq4⟩ := StmOk.made hst (.inr rfl)
    simp only at hm hq3
    obtain ⟨A, rfl⟩ : ∃ A : Nat, sa = A := ⟨sa.toNat, by omega⟩
    simp only [Int.toNat_natCast] at hm
    have hw0 : workW p (runW p n) W a ⟨4, to, (A : Int), sb⟩ vs = classW p (runW p n) W A a := by simp [workW]
    have fx := And.intro hT <| And.intro hp1 <| @bne_def
    refine k_run ?_
    repeat ((first | refine w_sch (id := 7) (.q 0 <| .q 1 <| .q 2 <| .q 3 <| .q 4 <| .q 5 <| .q 6 <| .l 7 [5, 4, 2, 1] <| .q 8 <| .q 9 <| .l 10 [] <| .l 11 [] <| .done) mixed (by kernel_rfl) (by kernel_rfl) ?_ | refine w_sch (id := 13) (.q 0 <| .q 1 <| .q 2 <| .q 3 <| .q 4 <| .q 5 <| .l 6 [4, 2, 1] <| .q 7 <| .q 8 <| .l 9 [] <| .l 10 [] <| .done) mixed (by kernel_rfl) (by kernel_rfl) ?_ | refine w_sch (id := 14) (.q 0 <| .q 1 <| .q 2 <| .q 3 <| .q 4 <| .q 5 <| .l 6 [4, 2, 1] <| .q 7 <| .q 8 <| .l 9 [] <| .l 10 [] <| .done) mixed (by kernel_rfl) (by kernel_rfl) ?_); refine k_rund ?_; refine k_run ?_)
    clear fx
    intro K hK
    have fx := hT
    refine x_callM hO ⟨by simp [hO.top, mRow], ⟨by simp [hO.scs.top], fun j k hj hk => by simp [hO.scs.sc j k hj hk]⟩, by simp [hO.out], by simp [hO.trc], hO.run.imp fun l hl => ⟨hl.1, by simp [hl.2]⟩, by simp [hO.funs], fun k g hg => by simp [hO.bx k g hg], by simp [hO.clss], fun k c hc => (hO.cls k c hc).imp fun ms hm => ⟨by simp [hm.1], hm.2⟩, fun i a ha => by simp [hO.env i a ha], fun i hi => (hO.nms i hi).imp fun ms hm => ⟨by simp [hm.1], hm.2⟩, fun k i j hk hn => if e : k = 1 ∧ i = 0 ∧ j = 0 then .inl e else hO.only k i j hk (by simpa [hk, e] using hn)⟩ (Nat.le_refl _) (Nat.le_refl _) (hF := fun hs => class_fn gl _ p n hR _ W a A hP hw hn h0 hm hr hs (by simp)) (h := ?_)
    rintro y H2 ⟨rfl, hO2⟩
    clear fx
    have hT2 := hO2.top
    simp only [mRow] at hT2
    have fx := And.intro hT <| And.intro hp1 <| And.intro hT2 <| @bne_def
    refine k_run ?_
    repeat ((first | refine w_sch (id := 7) (.q 0 <| .q 1 <| .q 2 <| .q 3 <| .q 4 <| .q 5 <| .q 6 <| .l 7 [5, 4, 2, 1] <| .q 8 <| .q 9 <| .l 10 [] <| .l 11 [] <| .done) mixed (by kernel_rfl) (by kernel_rfl) ?_ | refine w_sch (id := 13) (.q 0 <| .q 1 <| .q 2 <| .q 3 <| .q 4 <| .q 5 <| .l 6 [4, 2, 1] <| .q 7 <| .q 8 <| .l 9 [] <| .l 10 [] <| .done) mixed (by kernel_rfl) (by kernel_rfl) ?_ | refine w_sch (id := 14) (.q 0 <| .q 1 <| .q 2 <| .q 3 <| .q 4 <| .q 5 <| .l 6 [4, 2, 1] <| .q 7 <| .q 8 <| .l 9 [] <| .l 10 [] <| .done) mixed (by kernel_rfl) (by kernel_rfl) ?_); refine k_rund ?_; refine k_run ?_)
    clear fx
    rw [hw0]
    refine e_ret [] .nil (by simp; rfl) ⟨by simp, OwnM.fin ⟨by simp [hO2.top, mRow], ⟨by simp [hO2.scs.top], fun j k hj hk => by simp [hO2.scs.sc j k hj hk]⟩, by simp [hO2.out], by simp [hO2.trc], hO2.run.imp fun l hl => ⟨hl.1, by simp [hl.2]⟩, by simp [hO2.funs], fun k g hg => by simp [hO2.bx k g hg], by simp [hO2.clss], fun k c hc => (hO2.cls k c hc).imp fun ms hm => ⟨by simp [hm.1], hm.2⟩, fun i a ha => by simp [hO2.env i a ha], fun i hi => (hO2.nms i hi).imp fun ms hm => ⟨by simp [hm.1], hm.2⟩, fun k i j hk hn => if e : k = 1 ∧ i = 0 ∧ j = 0 then .inl e else hO2.only k i j hk (by simpa [hk, e] using hn)⟩⟩
  · have hpos : 0 < vs.length := by
      rw [hl]
      by_cases e : sb = -1 <;> simp [Stm.reads, e]
    have hlt : vs.length ≤ 2 := by
      rw [hl]
      by_cases e : sb = -1 <;> simp [Stm.reads, e]
    obtain ⟨u, tl, rfl⟩ : ∃ u tl, vs = u :: tl := by
      match vs, hpos with
      | u :: tl, _ => exact ⟨u, tl, rfl⟩
    have htl : tl.length ≤ 1 := by simp at hlt; omega
    have hw0 : workW p (runW p n) W a ⟨5, to, sa, sb⟩ (u :: tl) = callW p (runW p n) W u tl := by simp [workW]
    have hle1 : (1 : Int) ≤ (tl.length : Int) + 1 := by omega
    have htn : ((tl.length : Int) + 1).toNat = tl.length + 1 := by omega
    have fx := And.intro hT <| And.intro hp1 <| And.intro htl <| And.intro hle1 <| And.intro htn <| @bne_def
    refine k_run ?_
    repeat ((first | refine w_sch (id := 7) (.q 0 <| .q 1 <| .q 2 <| .q 3 <| .q 4 <| .q 5 <| .q 6 <| .l 7 [5, 4, 2, 1] <| .q 8 <| .q 9 <| .l 10 [] <| .l 11 [] <| .done) mixed (by kernel_rfl) (by kernel_rfl) ?_ | refine w_sch (id := 13) (.q 0 <| .q 1 <| .q 2 <| .q 3 <| .q 4 <| .q 5 <| .l 6 [4, 2, 1] <| .q 7 <| .q 8 <| .l 9 [] <| .l 10 [] <| .done) mixed (by kernel_rfl) (by kernel_rfl) ?_ | refine w_sch (id := 14) (.q 0 <| .q 1 <| .q 2 <| .q 3 <| .q 4 <| .q 5 <| .l 6 [4, 2, 1] <| .q 7 <| .q 8 <| .l 9 [] <| .l 10 [] <| .done) mixed (by kernel_rfl) (by kernel_rfl) ?_); refine k_rund ?_; refine k_run ?_)
    clear fx
    intro K hK
    have fx := And.intro hT hp1
    refine x_callM2 hO ⟨by simp [hO.top, mRow], ⟨by simp [hO.scs.top], fun j k hj hk => by simp [hO.scs.sc j k hj hk]⟩, by simp [hO.out], by simp [hO.trc], hO.run.imp fun l hl => ⟨hl.1, by simp [hl.2]⟩, by simp [hO.funs], fun k g hg => by simp [hO.bx k g hg], by simp [hO.clss], fun k c hc => (hO.cls k c hc).imp fun ms hm => ⟨by simp [hm.1], hm.2⟩, fun i a ha => by simp [hO.env i a ha], fun i hi => (hO.nms i hi).imp fun ms hm => ⟨by simp [hm.1], hm.2⟩, fun k i j hk hn => if e : k = 1 ∧ i = 0 ∧ j = 0 then .inl e else hO.only k i j hk (by simpa [hk, e] using hn)⟩ (by simp [hp1]) (Nat.le_refl _) (Nat.le_refl _) (hF := fun hs => callM_fn gl p n hR _ W u 1 tl (u :: tl) hP hw hn h0 (hvok u (by simp)) (fun v hv => hvok v (by simp [hv])) (hr.mono (by omega)) rfl (by simp; omega) htl hs (by simp [hp1])) (h := ?_)
    rintro y H2 ⟨rfl, hO2⟩
    clear fx
    have hT2 := hO2.top
    simp only [mRow] at hT2
    have fx := And.intro hT <| And.intro hp1 <| And.intro hT2 <| And.intro htl <| And.intro hle1 <| And.intro htn <| @bne_def
    refine k_run ?_
    repeat ((first | refine w_sch (id := 7) (.q 0 <| .q 1 <| .q 2 <| .q 3 <| .q 4 <| .q 5 <| .q 6 <| .l 7 [5, 4, 2, 1] <| .q 8 <| .q 9 <| .l 10 [] <| .l 11 [] <| .done) mixed (by kernel_rfl) (by kernel_rfl) ?_ | refine w_sch (id := 13) (.q 0 <| .q 1 <| .q 2 <| .q 3 <| .q 4 <| .q 5 <| .l 6 [4, 2, 1] <| .q 7 <| .q 8 <| .l 9 [] <| .l 10 [] <| .done) mixed (by kernel_rfl) (by kernel_rfl) ?_ | refine w_sch (id := 14) (.q 0 <| .q 1 <| .q 2 <| .q 3 <| .q 4 <| .q 5 <| .l 6 [4, 2, 1] <| .q 7 <| .q 8 <| .l 9 [] <| .l 10 [] <| .done) mixed (by kernel_rfl) (by kernel_rfl) ?_); refine k_rund ?_; refine k_run ?_)
    clear fx
    rw [hw0]
    refine e_ret [] .nil (by simp; rfl) ⟨by simp, OwnM.fin ⟨by simp [hO2.top, mRow], ⟨by simp [hO2.scs.top], fun j k hj hk => by simp [hO2.scs.sc j k hj hk]⟩, by simp [hO2.out], by simp [hO2.trc], hO2.run.imp fun l hl => ⟨hl.1, by simp [hl.2]⟩, by simp [hO2.funs], fun k g hg => by simp [hO2.bx k g hg], by simp [hO2.clss], fun k c hc => (hO2.cls k c hc).imp fun ms hm => ⟨by simp [hm.1], hm.2⟩, fun i a ha => by simp [hO2.env i a ha], fun i hi => (hO2.nms i hi).imp fun ms hm => ⟨by simp [hm.1], hm.2⟩, fun k i j hk hn => if e : k = 1 ∧ i = 0 ∧ j = 0 then .inl e else hO2.only k i j hk (by simpa [hk, e] using hn)⟩⟩
  · obtain ⟨u, rfl⟩ : ∃ u, vs = [u] := by
      match vs, hl with
      | [u], _ => exact ⟨u, rfl⟩
      | [], h => simp [Stm.reads] at h
      | _ :: _ :: _, h => simp [Stm.reads] at h
    have hsb : 0 ≤ sb ∧ sb ≤ 7 := by
      simp only [StmOk] at hst
      simp at hst
      omega
    obtain ⟨x, rfl⟩ : ∃ x : Nat, sb = x := ⟨sb.toNat, by omega⟩
    have hw0 : workW p (runW p n) W a ⟨6, to, sa, (x : Int)⟩ [u] = attrW W u x := by simp [workW]
    have fx := And.intro hT <| And.intro hp1 <| @bne_def
    refine k_run ?_
    repeat ((first | refine w_sch (id := 7) (.q 0 <| .q 1 <| .q 2 <| .q 3 <| .q 4 <| .q 5 <| .q 6 <| .l 7 [5, 4, 2, 1] <| .q 8 <| .q 9 <| .l 10 [] <| .l 11 [] <| .done) mixed (by kernel_rfl) (by kernel_rfl) ?_ | refine w_sch (id := 13) (.q 0 <| .q 1 <| .q 2 <| .q 3 <| .q 4 <| .q 5 <| .l 6 [4, 2, 1] <| .q 7 <| .q 8 <| .l 9 [] <| .l 10 [] <| .done) mixed (by kernel_rfl) (by kernel_rfl) ?_ | refine w_sch (id := 14) (.q 0 <| .q 1 <| .q 2 <| .q 3 <| .q 4 <| .q 5 <| .l 6 [4, 2, 1] <| .q 7 <| .q 8 <| .l 9 [] <| .l 10 [] <| .done) mixed (by kernel_rfl) (by kernel_rfl) ?_); refine k_rund ?_; refine k_run ?_)
    clear fx
    intro K hK
    have fx := And.intro hT hp1
    refine x_callM hO ⟨by simp [hO.top, mRow], ⟨by simp [hO.scs.top], fun j k hj hk => by simp [hO.scs.sc j k hj hk]⟩, by simp [hO.out], by simp [hO.trc], hO.run.imp fun l hl => ⟨hl.1, by simp [hl.2]⟩, by simp [hO.funs], fun k g hg => by simp [hO.bx k g hg], by simp [hO.clss], fun k c hc => (hO.cls k c hc).imp fun ms hm => ⟨by simp [hm.1], hm.2⟩, fun i a ha => by simp [hO.env i a ha], fun i hi => (hO.nms i hi).imp fun ms hm => ⟨by simp [hm.1], hm.2⟩, fun k i j hk hn => if e : k = 1 ∧ i = 0 ∧ j = 0 then .inl e else hO.only k i j hk (by simpa [hk, e] using hn)⟩ (Nat.le_refl _) (Nat.le_refl _) (hF := fun hs => attribute_fn _ _ _ p W u x h0 hw (hvok u (by simp)) (by omega) hs) (h := ?_)
    rintro y H2 ⟨rfl, hO2⟩
    clear fx
    have hT2 := hO2.top
    simp only [mRow] at hT2
    have fx := And.intro hT <| And.intro hp1 <| And.intro hT2 <| @bne_def
    refine k_run ?_
    repeat ((first | refine w_sch (id := 7) (.q 0 <| .q 1 <| .q 2 <| .q 3 <| .q 4 <| .q 5 <| .q 6 <| .l 7 [5, 4, 2, 1] <| .q 8 <| .q 9 <| .l 10 [] <| .l 11 [] <| .done) mixed (by kernel_rfl) (by kernel_rfl) ?_ | refine w_sch (id := 13) (.q 0 <| .q 1 <| .q 2 <| .q 3 <| .q 4 <| .q 5 <| .l 6 [4, 2, 1] <| .q 7 <| .q 8 <| .l 9 [] <| .l 10 [] <| .done) mixed (by kernel_rfl) (by kernel_rfl) ?_ | refine w_sch (id := 14) (.q 0 <| .q 1 <| .q 2 <| .q 3 <| .q 4 <| .q 5 <| .l 6 [4, 2, 1] <| .q 7 <| .q 8 <| .l 9 [] <| .l 10 [] <| .done) mixed (by kernel_rfl) (by kernel_rfl) ?_); refine k_rund ?_; refine k_run ?_)
    clear fx
    rw [hw0]
    refine e_ret [] .nil (by simp; rfl) ⟨by simp, OwnM.fin ⟨by simp [hO2.top, mRow], ⟨by simp [hO2.scs.top], fun j k hj hk => by simp [hO2.scs.sc j k hj hk]⟩, by simp [hO2.out], by simp [hO2.trc], hO2.run.imp fun l hl => ⟨hl.1, by simp [hl.2]⟩, by simp [hO2.funs], fun k g hg => by simp [hO2.bx k g hg], by simp [hO2.clss], fun k c hc => (hO2.cls k c hc).imp fun ms hm => ⟨by simp [hm.1], hm.2⟩, fun i a ha => by simp [hO2.env i a ha], fun i hi => (hO2.nms i hi).imp fun ms hm => ⟨by simp [hm.1], hm.2⟩, fun k i j hk hn => if e : k = 1 ∧ i = 0 ∧ j = 0 then .inl e else hO2.only k i j hk (by simpa [hk, e] using hn)⟩⟩
end Go.Proofs.YtpckgioefpkmoaaGreat
end
