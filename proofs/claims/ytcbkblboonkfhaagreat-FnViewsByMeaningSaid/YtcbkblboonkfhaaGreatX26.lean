/-
  Own texts, joined by mkclaim.py: Qd, Qe, Qf, Qm, Qg, Qh, Qi.
-/
import Derived.Test.YtcbkblboonkfhaaGreatX25
import Derived.Test.YtcbkblboonkfhaaGreatX14
import Derived.Test.YtcbkblboonkfhaaGreatX15
import Derived.Test.YtcbkblboonkfhaaGreatX17
import Derived.Shelf.SlMaps.Clone
set_option linter.unusedSimpArgs false
set_option linter.unusedVariables false
set_option maxRecDepth 100000
set_option maxHeartbeats 4000000

section
namespace Go.Proofs.YtcbkblboonkfhaaGreat
open Go Go.Hm Go.Proofs
abbrev qsQd0 : Sch := .q 0 <| .q 1 <| .q 2 <| .q 3 <| .q 4 <| .q 5 <| .q 6 <| .q 7 <| .q 8 <| .q 9 <| .q 10 <| .q 11 <| .q 12 <| .q 13 <| .l 14 [12] <| .done
def MBok (gl : Nat → Option (List AV)) (F : Nat) (p : Prg) (n : Nat) : Prop := ∀ (H : Nm → Option AO) (W : Wld) (a : Nat), OwnM H F p W → WOk p W → W.left < n → a < W.acts.length → W.en = 0 → H (.u 2 0 0) = none →
  FnE Tryz.prog gl 105 DM [.pt Mn 0, ptE a] H (fun _ y H' => y = .tup [Val.av (runW p n W a).2, bv (decide ((runW p n W a).1.en = 0))] ∧ OwnM H' F p (runW p n W a).1) noE
theorem enterM_fn (gl) (F : Nat) (p : Prg) (n : Nat) (hR : MBok gl F p n) (H : Nm → Option AO) (W : Wld) (b up : Nat) (vs : List Val) (hP : ValP p) (hw : WOk p W) (hn : W.left < n) (h0 : W.en = 0) (hm : madeAt p W.acts b up) (hv : ∀ v ∈ vs, VOk W.funs.length W.classes.length v) (hr : Room 1 W)
    (hO : OwnM H F p { beginW p W b up vs with stack := W.stack }) (hV : H (.u 2 0 0) = none) :
    FnE Tryz.prog gl 208 DM [.pt Mn 0, ptE W.acts.length] H (fun _ y H' => y = .tup [Val.av (enterW p (runW p n) W b up vs).2, bv (decide ((enterW p (runW p n) W b up vs).1.en = 0))] ∧ OwnM H' F p (enterW p (runW p n) W b up vs).1) noE := by
  have hT := hO.top
  obtain ⟨sl, hslb, hS⟩ := hO.run
  simp only [mRow] at hT
  obtain ⟨hok, hgr⟩ := beginW_ok hw hm hv hr
  have hl2 := hr.stk
  have hsl : W.stack.length ≤ 1000 := by omega
  have hlen : W.acts.length < (beginW p W b up vs).acts.length := by simp [beginW]
  obtain ⟨c, hc⟩ : ∃ c, (beginW p W b up vs).acts[W.acts.length]? = some c := ⟨_, gE hlen⟩
  have hE := hO.env W.acts.length c hc
  have hap : erows W.stack ++ [[ptE W.acts.length]] = erows (W.stack ++ [W.acts.length]) := erows_app1
  have hst : (beginW p W b up vs).stack = W.stack ++ [W.acts.length] := rfl
  refine FnE.of_sem Tryz.func208 rfl (by kernel_rfl) (rs := [.cell 4 117, .tmp 5]) rfl Tryz.ntmps208 (Nat.le_of_ble_eq_true rfl) (fun _ => DM_root) fun C w g root hroot => ?_
  have fx := And.intro hT <| And.intro hS <| hsl
  refine k_run ?_
  repeat ((first | refine wSc (id := 4) qsQd0 mixed ?_); refine k_rund ?_; refine k_run ?_)
  clear fx
  intro K hK
  have fx := And.intro hT hE
  have hBo : ∀ hp : Nm → Option AO, OwnM hp F p (beginW p W b up vs) → OwnM hp F p (beginW p W b up vs) := fun _ h => h
  refine x_callM hO (w := beginW p W b up vs) ⟨by simp [mRow, hT, hst], ⟨by simp [hO.scs.top], fun j k hj hk => by simp [hO.scs.sc j k hj hk]⟩, by simp [hO.out], by simp [hO.trc], ⟨[], by simp, by simp [hst, ← hap]⟩, by simp [hO.funs], fun k g hg => by simp [hO.bx k g hg], by simp [hO.clss], fun k c hc => (hO.cls k c hc).imp fun ms hm => ⟨by simp [hm.1], hm.2⟩, fun i a ha => by simp [hO.env i a ha], fun i hi => (hO.nms i hi).imp fun ms hm => ⟨by simp [hm.1], hm.2⟩, fun k i j hk hn => if e : k = 1 ∧ i = 0 ∧ j = 0 then .inl e else hO.only k i j hk (by simpa [hk, e] using hn)⟩ (Nat.le_refl _) (Nat.le_refl _) (hF := fun hs => hR _ (beginW p W b up vs) W.acts.length hs hok hn hlen h0 (by simp)) (h := ?_)
  rintro y H1 ⟨rfl, hO1⟩
  clear fx
  obtain ⟨hAf, hvok⟩ := runW_ok hP.sh n (beginW p W b up vs) W.acts.length hok hn hlen h0
  have hent : enterW p (runW p n) W b up vs = (endW (runW p n (beginW p W b up vs) W.acts.length).1, (runW p n (beginW p W b up vs) W.acts.length).2) := rfl
  generalize runW p n (beginW p W b up vs) W.acts.length = q at hO1 hAf hvok hent
  obtain ⟨V, v1, v2⟩ := q
  simp only at hO1 hAf hvok hent
  have hT1 := hO1.top
  obtain ⟨sl1, hslb1, hS1⟩ := hO1.run
  simp only [mRow] at hT1
  by_cases hen : V.en = 0
  · have hstk : V.stack = W.stack ++ [W.acts.length] := hAf.stk hen
    have hsl1 : V.stack.length = W.stack.length + 1 := by rw [hstk]; simp
    have hwr : IntKind.i64.wrap (W.stack.length : Int) = W.stack.length := wrp (by omega) (by omega)
    have hend : endW V = { V with stack := W.stack } := by
      unfold endW
      rw [if_pos hen, hstk]
      simp
    have hslb2 : ∀ i ∈ W.acts.length :: sl1, i < V.acts.length := by
      intro i hi
      have := hAf.grow.lacts
      rcases List.mem_cons.1 hi with e | e
      · omega
      · exact hslb1 i e
    have hle1 : (W.stack.length : Int) ≤ (W.stack.length : Int) + 1 := by omega
    have hle0 : (0 : Int) ≤ (W.stack.length : Int) := by omega
    rw [hend] at hent
    rw [hsl1] at hT1
    have fx := And.intro hT <| And.intro hE <| And.intro hT1 <| And.intro hS1 <| And.intro hen <| And.intro hwr <| And.intro hle1 <| hle0
    refine k_run ?_
    repeat ((first | refine wSc (id := 4) qsQd0 mixed ?_); refine k_rund ?_; refine k_run ?_)
    clear fx
    rw [hent]
    refine e_ret [] .nil (by simp; rfl) ⟨by simp [hen], OwnM.fin ⟨by simp [mRow, hen], ⟨by simp [hO1.scs.top], fun j k hj hk => by simp [hO1.scs.sc j k hj hk]⟩, by simp [hO1.out], by simp [hO1.trc], ⟨W.acts.length :: sl1, hslb2, by simp [hS1, hstk]⟩, by simp [hO1.funs], fun k g hg => by simp [hO1.bx k g hg], by simp [hO1.clss], fun k c hc => (hO1.cls k c hc).imp fun ms hm => ⟨by simp [hm.1], hm.2⟩, fun i a ha => by simp [hO1.env i a ha], fun i hi => (hO1.nms i hi).imp fun ms hm => ⟨by simp [hm.1], hm.2⟩, fun k i j hk hn => if e : k = 1 ∧ i = 0 ∧ j = 0 then .inl e else hO1.only k i j hk (by simpa [hk, e] using hn)⟩⟩
  · have hend : endW V = V := by
      unfold endW
      rw [if_neg hen]
    rw [hend] at hent
    have fx := And.intro hT <| And.intro hE <| And.intro hT1 <| hen
    refine k_run ?_
    repeat ((first | refine wSc (id := 4) qsQd0 mixed ?_); refine k_rund ?_; refine k_run ?_)
    clear fx
    rw [hent]
    refine e_ret [] .nil (by simp; rfl) ⟨by simp [hen], OwnM.fin (have om := hO1; OwnM.re om)⟩
abbrev qsQe0 : Sch := .q 0 <| .q 1 <| .q 2 <| .q 3 <| .q 4 <| .q 5 <| .q 6 <| .q 7 <| .q 8 <| .l 9 [8, 7, 6, 5, 4, 3, 2, 1, 0] <| .l 10 [] <| .done
abbrev qsQe1 : Sch := .q 0 <| .q 1 <| .q 2 <| .q 3 <| .q 4 <| .q 5 <| .q 6 <| .q 7 <| .q 8 <| .l 9 [7, 6, 5, 4, 3, 2, 1, 0] <| .l 10 [7, 6, 5, 3, 2, 1, 0] <| .q 11 <| .q 12 <| .l 13 [11] <| .done
@[simp] theorem cells_fn {f : Fn} {xs ys : List AV} : (AV.fn f xs ys).cells = some [.fn f xs ys] := rfl
@[simp] theorem one_fnav {f : Fn} {xs ys : List AV} : (AV.fn f xs ys).one = true := rfl
@[simp] theorem one_nfn : (AV.sc .nilFunc).one = true := rfl
@[simp] theorem fn_tsz : tsz Tryz.prog 241 = 1 := by kernel_rfl
@[simp] theorem fn_agg : aggO Tryz.prog 241 = some false := by kernel_rfl
theorem cloRows_map {F : Nat} {p : Prg} {l : List (Nat × Nat)} {g : List AV → List AV} (h : ∀ (i : Nat) c, l[i]? = some c → g (cloC F p i c) = cloC F p i c) : (cloRows F p l).map g = cloRows F p l := by
  apply List.ext_getElem?
  intro j
  rw [List.getElem?_map, cloRows_get]
  cases hj : l[j]? with
  | none => rfl
  | some a => simp only [Option.map_some]; rw [h j a hj]
theorem function_fn (gl) (H : Nm → Option AO) (p : Prg) (W : Wld) (a b : Nat) (k : Blk) (hw : WOk p W) (ha : a < W.acts.length) (hk : p[b]? = some k) (hr : Room 1 W) (hpl : k.params.length ≤ 1000) (hO : OwnM H 207 p W) :
    FnE Tryz.prog gl 199 DM [.pt Mn 0, ptE a, iv b] H (fun _ y H' => y = Val.av (2, (W.funs.length : Int)) ∧ OwnM H' 207 p { W with funs := W.funs ++ [(b, a)] }) noE := by
  have hT := hO.top
  have hF := hO.funs
  simp only [mRow] at hT
  obtain ⟨hbl, hkE⟩ := gS hk
  obtain ⟨c, hc⟩ : ∃ c, W.acts[a]? = some c := ⟨_, gE ha⟩
  have hE := hO.env a c hc
  have hfl := hr.funs
  have hfl' : W.funs.length ≤ 1000 := by omega
  have hwr : IntKind.i64.wrap (W.funs.length : Int) = W.funs.length := wrp (by omega) (by omega)
  have hpar : parN p b = k.params.length := by simp [parN, hk]
  have hno : ∀ j, H (.u 8 W.funs.length j) = none := fun j => by
    cases e : H (.u 8 W.funs.length j) with
    | none => rfl
    | some o =>
      rcases hO.only 8 W.funs.length j rfl (by rw [e]; simp) with ⟨h, _⟩ | ⟨h, _⟩ | ⟨_, h, _⟩
      · cases h
      · cases h
      · omega
  have hap : cloRows 207 p W.funs ++ [cloC 207 p W.funs.length (b, a)] = cloRows 207 p (W.funs ++ [(b, a)]) := cloRows_app
  simp only [cloC, hpar] at hap
  refine FnE.of_sem Tryz.func199 rfl (by kernel_rfl) (rs := [.cell 6 117]) rfl Tryz.ntmps199 (Nat.le_of_ble_eq_true rfl) (fun _ => DM_root) fun C w g root hroot => ?_
  have fx := And.intro hT <| And.intro hk <| And.intro hkE <| hbl
  refine k_run ?_
  repeat ((first | refine wSc (id := 1) qsQe0 mixed ?_ | refine wSc (id := 2) qsQe1 mixed ?_); refine k_rund ?_; refine k_run ?_)
  clear fx
  intro K hK
  refine o_mv (.s 3) (.u 8 W.funs.length 3) (.inl rfl) (.inr (by simp [ctx0, hno])) ?_
  refine o_mv (.s 4) (.u 8 W.funs.length 1) (.inl rfl) (.inr (by simp [ctx0, hno])) ?_
  refine o_mv (.s 5) (.u 8 W.funs.length 0) (.inl rfl) (.inr (by simp [ctx0, hno])) ?_
  refine o_mv (.s 7) (.u 8 W.funs.length 2) (.inl rfl) (.inr (by simp [ctx0, hno])) ?_
  have fx := And.intro hT <| And.intro hk <| And.intro hkE <| And.intro hbl <| And.intro hF <| And.intro hfl' <| hwr
  refine k_run ?_
  repeat ((first | refine wSc (id := 1) qsQe0 mixed ?_ | refine wSc (id := 2) qsQe1 mixed ?_); refine k_rund ?_; refine k_run ?_)
  clear fx
  refine e_ret [] .nil (by simp; rfl) ⟨by simp, OwnM.fin ⟨by simp [mRow], ⟨by simp [hO.scs.top], fun j k hj hk => by simp [hO.scs.sc j k hj hk]⟩, by simp [hO.out], by simp [hO.trc], hO.run.imp fun l hl => ⟨hl.1, by simp [hl.2]⟩, ?_, ?_, by simp [hO.clss], fun k c hc => (hO.cls k c hc).imp fun ms hm => ⟨by simp [hm.1], hm.2⟩, fun i d hd => by simp [hO.env i d hd], fun i hi => (hO.nms i hi).imp fun ms hm => ⟨by simp [hm.1], hm.2⟩, ?_⟩⟩
  · simp [← hap]
    rw [List.take_of_length_le (by simp)]
    refine cloRows_map fun i c hc => ?_
    have hne : ¬ i = W.funs.length := by have := (gS hc).1; omega
    have hne' : ¬ W.funs.length = i := by omega
    simp [cloC, trL, hne, hne']
  · intro i g hg
    simp only at hg
    rcases Nat.lt_or_ge i W.funs.length with hlt | hge
    · rw [List.getElem?_append_left hlt] at hg
      obtain ⟨b1, b2, b3, b4⟩ := hO.bx i g hg
      have hne : ¬ i = W.funs.length := by omega
      have hne' : ¬ W.funs.length = i := by omega
      exact ⟨by simp [b1, hne, hne'], by simp [b2, hne, hne'], by simp [b3, hne, hne'], by simp [b4, hne, hne']⟩
    · rw [List.getElem?_append_right hge] at hg
      have hi : i = W.funs.length := by
        have := (gS hg).1
        simp at this
        omega
      subst hi
      simp at hg
      subst hg
      exact ⟨by simp, by simp, by simp [hk], by simp⟩
  · intro k' i j hk' hn
    by_cases e8 : k' = 8 ∧ i = W.funs.length ∧ j < 4
    · exact .inr (.inr ⟨e8.1, by simp; omega, e8.2.2⟩)
    · by_cases e1 : k' = 1 ∧ i = 0 ∧ j = 0
      · exact .inl e1
      · have n0 : ¬ (k' = 8 ∧ i = W.funs.length ∧ j = 0) := fun e => e8 ⟨e.1, e.2.1, by omega⟩
        have n1 : ¬ (k' = 8 ∧ i = W.funs.length ∧ j = 1) := fun e => e8 ⟨e.1, e.2.1, by omega⟩
        have n2 : ¬ (k' = 8 ∧ i = W.funs.length ∧ j = 2) := fun e => e8 ⟨e.1, e.2.1, by omega⟩
        have n3 : ¬ (k' = 8 ∧ i = W.funs.length ∧ j = 3) := fun e => e8 ⟨e.1, e.2.1, by omega⟩
        have hn' : H (.u k' i j) ≠ none := by simpa [hk', e1, n0, n1, n2, n3] using hn
        rcases hO.only k' i j hk' hn' with h | h | h
        · exact .inl h
        · exact .inr (.inl h)
        · exact .inr (.inr ⟨h.1, by simp; omega, h.2.2⟩)
end Go.Proofs.YtcbkblboonkfhaaGreat
end
section
namespace Go.Proofs.YtcbkblboonkfhaaGreat
open Go Go.Hm Go.Proofs
abbrev qsQf0 : Sch := .q 0 <| .q 1 <| .q 2 <| .q 3 <| .q 4 <| .q 5 <| .q 6 <| .q 7 <| .q 8 <| .l 9 [] <| .done
def actI (p : Prg) (w : Wld) (b up : Nat) (vs : List Val) (i : Nat) : Wld := { begI p w b up vs i with stack := w.stack }
theorem actI_ok {p : Prg} {w : Wld} {b up i : Nat} {vs : List Val} (h : WOk p w) (hm : madeAt p w.acts b up) (hv : ∀ v ∈ vs, VOk w.funs.length w.classes.length v) (hr : Room 1 w) : WOk p (actI p w b up vs i) := by
  have hb := begI_ok (i := i) h hm hv hr
  exact ⟨hb.a0, hb.vars, hb.blks, hb.up, hb.glob, hb.funs, hb.cls, fun j hj => by have := h.stk j hj; simp [actI, begI]; omega, hb.nacts, hb.nfuns, hb.ncls, hb.nout, hb.ntr, h.nstk⟩
theorem actI_nms {p : Prg} {w : Wld} {b up i j : Nat} {vs : List Val} (e : ¬ j = w.acts.length) : (actI p w b up vs i).nms j = w.nms j := by
  by_cases e0 : j = 0
  · simp [Wld.nms, actI, begI, e0]
  · simp only [Wld.nms, actI, begI, e0, if_false]
    rcases Nat.lt_or_ge j w.acts.length with hlt | hge
    · rw [List.getElem?_append_left hlt]
    · have h1 : w.acts[j]? = none := List.getElem?_eq_none (by omega)
      rw [h1, List.getElem?_append_right hge, List.getElem?_eq_none (by simp; omega)]
theorem actI_nmsL {p : Prg} {w : Wld} {b up i : Nat} {k : Blk} {vs : List Val} (hpos : ¬ w.acts.length = 0) (hk : p[b]? = some k) : (actI p w b up vs i).nms w.acts.length = bindP (k.params.take i) (vs.take i) := by
  simp [Wld.nms, actI, begI, hpos, hk]
theorem closure_fn (gl) (F : Nat) (p : Prg) (n : Nat) (hR : MBok gl F p n) (H : Nm → Option AO) (W : Wld) (k b up lo : Nat) (vs all : List Val) (hP : ValP p) (hw : WOk p W) (hn : W.left < n) (h0 : W.en = 0) (hg : W.funs[k]? = some (b, up)) (hv : ∀ v ∈ vs, VOk W.funs.length W.classes.length v) (hr : Room 1 W)
    (hall : all.drop lo = vs) (hlo : lo + vs.length = all.length) (hpar : parN p b = vs.length) (hv2 : vs.length ≤ 1) (hO : OwnM H F p W) (hL : H (.u 2 0 0) = some (.row 2 (vrows all))) :
    FnE Tryz.prog gl 207 DM2 [.hs (.u 2 0 0) 2 lo vs.length, .pt (.u 8 k 0) 0, .pt (.u 8 k 1) 0, .pt (.u 8 k 2) 0, .pt (.u 8 k 3) 0] H (fun _ y H' => y = .tup [Val.av (enterW p (runW p n) W b up vs).2, bv (decide ((enterW p (runW p n) W b up vs).1.en = 0))] ∧ OwnM H' F p (enterW p (runW p n) W b up vs).1) noE := by
  have hm := hw.funs k (b, up) hg
  obtain ⟨kb, hk, hpk⟩ := hm.shape
  simp only at hm hk hpk
  obtain ⟨hbl, hkE⟩ := gS hk
  obtain ⟨b1, b2, b3, b4⟩ := hO.bx k (b, up) hg
  simp only [hk] at b1 b2 b3 b4
  refine FnE.of_sem Tryz.func207 rfl (by kernel_rfl) (rs := [.cell 6 117, .tmp 7]) rfl Tryz.ntmps207 (Nat.le_of_ble_eq_true rfl) (fun _ => DM2_root) fun C w g root hroot => ?_
  have fx := And.intro b1 <| And.intro b2 <| And.intro b3 <| b4
  refine k_run ?_
  repeat ((first | refine wSc (id := 5) qsQf0 mixed ?_); refine k_rund ?_; refine k_run ?_)
  clear fx
  intro K hK
  have fx := fx0
  refine x_map (h := ?_)
  clear fx
  have fx := And.intro b1 <| And.intro b2 <| And.intro b3 <| And.intro b4 <| hk
  refine k_run ?_
  repeat ((first | refine wSc (id := 5) qsQf0 mixed ?_); refine k_rund ?_; refine k_run ?_)
  clear fx
  have hpos : ¬ W.acts.length = 0 := by
    obtain ⟨a, ha, _⟩ := hw.a0
    have := (gS ha).1
    omega
  have hno : ∀ j, H (.u 7 W.acts.length j) = none := fun j => by
    cases e : H (.u 7 W.acts.length j) with
    | none => rfl
    | some o =>
      rcases hO.only 7 W.acts.length j rfl (by rw [e]; simp) with ⟨h, _⟩ | ⟨_, h, _⟩ | ⟨h, _⟩
      · cases h
      · omega
      · cases h
  refine w_move (.s 8) (En W.acts.length) (.inl rfl) (.inr (by simp [ctx0, hno])) ?_
  refine w_loop (fun m st => ∃ i : Nat, m = vs.length - i ∧ i ≤ vs.length ∧ st.tm 0 = .hs (.u 2 0 0) 2 lo vs.length ∧ st.hp (.u 2 0 0) = some (.row 2 (vrows all)) ∧ st.tm 4 = .pt (.u 8 k 3) 0 ∧ st.tm 6 = .pt (.s 6) 0 ∧ st.hp (.s 6) = some (.row 2 [[iv 0, iv 0]]) ∧ st.tm 8 = ptE W.acts.length ∧ st.tm 16 = isl kb.params ∧ st.tm 17 = iv vs.length ∧ st.tm 18 = iv i ∧ OwnM st.hp F p (actI p W b up vs i)) vs.length ?_ ?_
  · have hpos' : ¬ 0 = W.acts.length := fun e => hpos e.symm
    have hupl : ¬ up = W.acts.length := by
      obtain ⟨c, _, e, _⟩ := hm
      have := (gS e).1
      omega
    refine ⟨0, by omega, by omega, by simp, by simp [hL], by simp, by simp, by simp, by simp, by simp, by simp [← hpar, hpk], by simp, ?_⟩
    refine ⟨by simp [mRow, actI, begI, hO.top, hpos'], ⟨by simp [hO.scs.top], fun j k hj hk => by simp [hO.scs.sc j k hj hk]⟩, by simp [actI, begI, hO.out], by simp [actI, begI, hO.trc], hO.run.imp fun l hl => ⟨fun i hi => by have := hl.1 i hi; simp [actI, begI]; omega, ?_⟩, by simp [actI, begI, hO.funs], fun k' g hg => ?_, by simp [actI, begI, hO.clss], fun k c hc => (hO.cls k c hc).imp fun ms hm => ⟨by simp [hm.1], hm.2⟩, fun i d hd => ?_, fun i hi => ?_, fun k' i j hk' hn => ?_⟩
    · simp [hl.2, actI]
      refine erows_lt fun i hi => ?_
      have hlt : i < W.acts.length := by
        rcases List.mem_append.1 hi with e | e
        · exact hw.stk i e
        · exact hl.1 i e
      have hne : ¬ i = W.acts.length := by omega
      simp [hne]
    · have hgl : ¬ g.2 = W.acts.length := by
        obtain ⟨c, _, e, _⟩ := hw.funs k' g hg
        have := (gS e).1
        omega
      simp [hO.bx k' g hg, hgl]
    · simp only [actI, begI] at hd
      rcases Nat.lt_or_ge i W.acts.length with hlt | hge
      · rw [List.getElem?_append_left hlt] at hd
        have hne : ¬ i = W.acts.length := by omega
        have hne' : ¬ W.acts.length = i := by omega
        by_cases e0 : i = 0
        · subst e0
          simp [hO.env 0 d hd, envRow, hne, hne']
        · have hup := (hw.up i d hd (by omega)).1
          have hupn : ¬ d.up = W.acts.length := by omega
          simp [hO.env i d hd, envRow, e0, hne, hne', hupn]
      · rw [List.getElem?_append_right hge] at hd
        have hi : i = W.acts.length := by
          have := (gS hd).1
          simp at this
          omega
        subst hi
        simp at hd
        subst hd
        simp [envRow, hpos, hupl]
    · by_cases e : i = W.acts.length
      · subst e
        rw [actI_nmsL hpos hk]
        exact ⟨[], by simp, by simpa [bindP] using MapOk.nil⟩
      · rw [actI_nms e]
        have hlt : i < W.acts.length := by
          simp [actI, begI] at hi
          omega
        have hne' : ¬ W.acts.length = i := by omega
        exact (hO.nms i hlt).imp fun ms hm => ⟨by simp [hm.1, e, hne'], hm.2⟩
    · by_cases e7 : k' = 7 ∧ i = W.acts.length ∧ j = 0
      · exact .inr (.inl ⟨e7.1, by simp [actI, begI]; omega, e7.2.2⟩)
      · by_cases e1 : k' = 1 ∧ i = 0 ∧ j = 0
        · exact .inl e1
        · have hn' : H (.u k' i j) ≠ none := by simpa [hk', e1, e7] using hn
          rcases hO.only k' i j hk' hn' with h | h | h
          · exact .inl h
          · exact .inr (.inl ⟨h.1, by simp [actI, begI]; omega, h.2.2⟩)
          · exact .inr (.inr h)
  rintro m st - - ⟨i, rfl, hi, t0, hp2, t4, t6, hp6, t8, t16, t17, t18, hO1⟩
  have hT1 := hO1.top
  simp only [mRow] at hT1
  have hact : (actI p W b up vs i).acts[W.acts.length]? = some ⟨b, up, bindP (kb.params.take i) (vs.take i)⟩ := by simp [actI, begI, hk]
  have hE1 := hO1.env W.acts.length _ hact
  simp only [envRow, hpos, if_false] at hE1
  obtain ⟨c1, c2, c3, c4⟩ := hO1.bx k (b, up) hg
  by_cases hil : i < vs.length
  · obtain ⟨x, hx⟩ : ∃ x, kb.params[i]? = some x := ⟨_, gE (by omega)⟩
    obtain ⟨hxl, hxE⟩ := gS hx
    have hxr := (hP.sh.names kb (List.mem_of_getElem? hk)).params x (List.mem_of_getElem? hx)
    obtain ⟨v, hvi⟩ : ∃ v, vs[i]? = some v := ⟨_, gE hil⟩
    have hva : all[lo + i]? = some v := by rw [← hvi, ← hall, List.getElem?_drop]
    obtain ⟨hal', hvE⟩ := gS hva
    have hst := begI_store (w := W) (up := up) hP hk hx hvi
    obtain ⟨X, rfl⟩ : ∃ X : Nat, x = X := ⟨x.toNat, by omega⟩
    obtain ⟨v1, v2⟩ := v
    have hokI : WOk p (actI p W b up vs i) := actI_ok hw hm hv hr
    have hloc : (actI p W b up vs i).loc p W.acts.length X = some W.acts.length := by
      have ho := hP.pm b kb hk (X : Int) (List.mem_of_getElem? hx)
      have hnl : ¬ (b : Int) < 0 := by omega
      simp only [Wld.loc, blk_at hact, ho, hnl, if_false, Int.toNat_natCast]
      rw [climb_here hact rfl]
    have hla : W.acts.length < (actI p W b up vs i).acts.length := by simp [actI, begI]
    obtain ⟨hnm, _⟩ := nms_loc (x := (X : Int)) hP.sh.heads hokI hla
    obtain ⟨ms, hms, hmo⟩ := hO1.nms W.acts.length hla
    have hmo' : MapOk ms ((actI p W b up vs i).vars (some W.acts.length)) := by
      rw [hloc] at hnm
      rw [← hnm]
      exact hmo
    have hnext : (actI p W b up vs i).set (some W.acts.length) X (some (v1, v2)) = actI p W b up vs (i + 1) := by
      have hl2 : (begI p W b up vs i).loc p W.acts.length X = some W.acts.length := hloc
      unfold storeW at hst
      rw [hl2] at hst
      unfold actI
      rw [← hst]
      rfl
    have fx := And.intro t0 <| And.intro hp2 <| And.intro t4 <| And.intro t6 <| And.intro hp6 <| And.intro t8 <| And.intro t16 <| And.intro t17 <| And.intro t18 <| And.intro hT1 <| And.intro hE1 <| And.intro hil <| And.intro hx <| And.intro hxE <| And.intro hxl <| And.intro hva <| And.intro hvE <| And.intro hal' <| hms
    refine k_run ?_
    repeat ((first | refine wSc (id := 5) qsQf0 mixed ?_); refine k_rund ?_; refine k_run ?_)
    clear fx
    intro K hK
    have fx := And.intro t8 hms
    refine x_mapUpdate (h := ?_)
    clear fx
    have fx := And.intro t0 <| And.intro hp2 <| And.intro t4 <| And.intro t6 <| And.intro hp6 <| And.intro t8 <| And.intro t16 <| And.intro t17 <| And.intro t18 <| And.intro hT1 <| And.intro hE1 <| And.intro hil <| And.intro hx <| And.intro hxE <| And.intro hxl <| And.intro hva <| And.intro hvE <| And.intro hal' <| hms
    refine k_run ?_
    repeat ((first | refine wSc (id := 5) qsQf0 mixed ?_); refine k_rund ?_; refine k_run ?_)
    clear fx
    refine ⟨vs.length - (i + 1), by omega, i + 1, rfl, by omega, by simp [t0], by simp [hp2], by simp [t4], by simp [t6], by simp [hp6], by simp [t8], by simp [t16], by simp [t17], by simp; exact wrp (by omega) (by omega), ?_⟩
    rw [← hnext]
    refine ownM_set hP.sh.heads hokI hla (by omega) hloc hnm hO1 (hmo'.set ⟨by omega, by omega⟩) fun m hm => ?_
    by_cases e : m = .c (En W.acts.length) 0 1 <;> simp [hIdx, e]
  · obtain rfl : i = vs.length := by omega
    have hbeg : actI p W b up vs vs.length = { beginW p W b up vs with stack := W.stack } := by
      unfold actI
      rw [begI_all (by omega) (Nat.le_refl _)]
    rw [hbeg] at hO1
    have fx := And.intro t0 <| And.intro t4 <| And.intro t6 <| And.intro hp6 <| And.intro t8 <| And.intro t17 <| And.intro t18 <| c4
    refine k_run ?_
    repeat ((first | refine wSc (id := 5) qsQf0 mixed ?_); refine k_rund ?_; refine k_run ?_)
    clear fx
    intro K hK
    have fx := And.intro t8 hT1
    refine x_callM hO (w := { beginW p W b up vs with stack := W.stack }) (have om := hO1; OwnM.re om) (by simp [beginW]) (Nat.le_refl _) (hF := fun hs => enterM_fn gl F p n hR _ W b up vs hP hw hn h0 hm hv hr hs (by simp)) (h := ?_)
    rintro y H2 ⟨rfl, hO2⟩
    clear fx
    generalize hq : enterW p (runW p n) W b up vs = q at hO2
    obtain ⟨V, v1, v2⟩ := q
    simp only at hO2
    have hT2 := hO2.top
    simp only [mRow] at hT2
    have fx := And.intro t6 <| And.intro hp6 <| And.intro t8 <| And.intro hT1 <| hT2
    refine k_run ?_
    repeat ((first | refine wSc (id := 5) qsQf0 mixed ?_); refine k_rund ?_; refine k_run ?_)
    clear fx
    rw [hq]
    refine e_ret [] .nil (by simp [t6]; rfl) ⟨by simp, OwnM.fin (have om := hO2; OwnM.re om)⟩
end Go.Proofs.YtcbkblboonkfhaaGreat
end
section
namespace Go.Proofs.YtcbkblboonkfhaaGreat
open Go Go.Hm Go.Proofs Go.RowKit
theorem clone_calls (b : Nat) (es : Array MapEntry) (clock : Nat) (w : World) (hb : w.heap[b]? = some (.map es clock)) :
    Calls Tryz.prog 209 #[.map (some b)] w fun e w' => e = .returned (.map (some w.heap.size)) ∧ w' = w.alloc (.map es clock) := by
  have hq := fun w => run_eql_map_nil_sl (P := Tryz.prog) w 137 _ _ (some b) Tryz.underlying137
  go_enter Tryz.func209, Tryz.ntmps209
  go_wp2
  rw [run_callFunc_extern Tryz.func221 (by kernel_rfl) (by kernel_rfl) (by kernel_rfl) (e := Extern.MapsClone.clone) (by kernel_rfl), run_maps_clone_sl w 137 hb]
  simp only [Result.andThen]
  rw [Oper.upon_value]
  go_wp2
  rw [run_typeAssert_map_sl _ 137 _ _ _ _ Tryz.underlying137]
  simp only [Result.andThen]
  rw [Oper.upon_value]
  go_wp2
  go_ret
  exact ⟨rfl, rfl⟩
def clSt (d : Nat) (es : List (AV × AV)) (st : St) : St := ((st.kill (.s d)).setO (.s d) (.map es)).put (some d) (.mp (.s d))
theorem x_clone {X : Ctx} {st : St} {K : St → Prop} {E : AV → St → Prop} {ty : TypeId} {pos : String} {aft : Array Edge} {gd : Option (Nat × Bool)} {d : Nat} {args : Array Operand} {Ts : Array TypeId} {n : Nm} {es : List (AV × AV)} {st' : St} (hP : X.P = Tryz.prog)
    (hd : d < X.n := by first | (simp; done) | fail) (ha : args.toList.map (ev st) = [.mp n] := by simp [fx]; first | done | rfl) (hn : st.hp n = some (.map es) := by simp [fx]; first | done | rfl) (hsc : ∀ e ∈ es, ∀ f : Nm → Option Nm, e.1.tr f = e.1 ∧ e.2.tr f = e.2)
    (hs : clSt d es st = st' := by simp [fx, clSt]; first | done | rfl) (h : K st') :
    SemOp X ⟨some d, .call ⟨.value (.func 209), args, Ts⟩, ty, pos, aft, gd⟩ K E st := by
  subst hs
  intro a w Q hR hQ
  obtain ⟨C, g, h1, h2, h3, h4, h5, hg⟩ := hR
  have hcal : Callable X.P 209 := by rw [hP]; exact ⟨_, rfl, rfl, rfl⟩
  obtain ⟨vs, hrun, hsz, hrel⟩ := ent_func (st := st) (o := ⟨some d, .call ⟨.value (.func 209), args, Ts⟩, ty, pos, aft, gd⟩) hcal rfl _ _ _ _ _ _ hg
  rw [ha] at hsz hrel
  unfold Oper.wp
  rw [hrun, Oper.upon_enter]
  obtain ⟨v, rfl⟩ : ∃ v, vs = #[v] := by
    rcases vs with ⟨l⟩
    simp at hsz
    obtain ⟨v, rfl⟩ := List.length_eq_one_iff.1 hsz
    exact ⟨v, rfl⟩
  have hv := hrel 0 v (.mp n) rfl rfl
  cases hv with
  | mp _ b hk =>
  have hat := hg.inv.obj n _ hn
  simp only [OAt, hk] at hat
  obtain ⟨ms, clock, hb, hst, hlen, hrv⟩ := hat
  have hC' : ∀ b', C b' → (w.alloc (.map ms.toArray clock)).heap[b']? = w.heap[b']? := fun b' hb' => alloc_old _ (hg.inv.clt b' hb')
  have hm := hg.made (.s d) (.map es) w.heap.size 0 (w.alloc (.map ms.toArray clock)) [] (by simp) (fun _ => false) rfl rfl rfl (by simp) (.inl (Nat.le_refl _)) (by simp) (fun b' _ hb' => alloc_old _ hb') (by
    simp only [OAt, (fresh_self (g := g) (.s d) (some w.heap.size) 0).1]
    refine ⟨ms, clock, heap_alloc_new w _, hst, hlen, fun i m e hi he => ?_⟩
    obtain ⟨r1, r2⟩ := hrv i m e hi he
    obtain ⟨q1, q2⟩ := hsc e (List.mem_of_getElem? he) (kl (.s d))
    have h1 := hg.rv (g' := g.fresh (.s d) (some w.heap.size) 0) (w' := w.alloc (.map ms.toArray clock)) rfl hC' (fresh_gf (.s d) (some w.heap.size) 0) r1
    have h2 := hg.rv (g' := g.fresh (.s d) (some w.heap.size) 0) (w' := w.alloc (.map ms.toArray clock)) rfl hC' (fresh_gf (.s d) (some w.heap.size) 0) r2
    rw [q1] at h1
    rw [q2] at h2
    exact ⟨h1, h2⟩)
  have e : (st.nm (kl (.s d)) (fun m => if (fun _ => false : Nm → Bool) m then none else hkl (.s d) st.hp m)) = st.kill (.s d) := by simp [St.kill]
  rw [e] at hm
  have hput := hm.put (d := some d) (v := .map (some w.heap.size)) (x := .mp (.s d)) (fun t e => by obtain rfl := Option.some.inj e; show d < st.n; omega) (.mp _ _ (fresh_self _ _ _).1)
  have hcl : Calls X.P 209 #[.map (some b)] w fun e w' => e = .returned (.map (some w.heap.size)) ∧ w' = w.alloc (.map ms.toArray clock) := by
    rw [hP]
    exact clone_calls b ms.toArray clock w hb
  refine hcl.mono ?_
  rintro e w' ⟨rfl, rfl⟩
  exact ⟨clSt d es st, ⟨C, g.fresh (.s d) (some w.heap.size) 0, h1, h2, h3, h4, h5.step (.fresh rfl), hput⟩, h⟩
end Go.Proofs.YtcbkblboonkfhaaGreat
end
section
namespace Go.Proofs.YtcbkblboonkfhaaGreat
open Go Go.Hm Go.Proofs
abbrev qsQg0 : Sch := .q 0 <| .q 1 <| .q 2 <| .q 3 <| .q 4 <| .q 5 <| .q 6 <| .q 7 <| .q 8 <| .l 9 [7, 6, 5, 4, 3, 2, 1, 0] <| .l 10 [7, 6, 5, 4, 3, 2, 1, 0] <| .l 11 [7, 6, 5, 3, 2, 1, 0] <| .q 12 <| .q 13 <| .l 14 [12] <| .done
theorem mrows_sc {ms : NMap} : ∀ e ∈ mrows ms, ∀ f : Nm → Option Nm, e.1.tr f = e.1 ∧ e.2.tr f = e.2 := by
  intro e he f
  simp only [mrows, List.mem_map] at he
  obtain ⟨q, _, rfl⟩ := he
  simp
theorem class_fn (gl) (F : Nat) (p : Prg) (n : Nat) (hR : MBok gl F p n) (H : Nm → Option AO) (W : Wld) (a b : Nat) (hP : ValP p) (hw : WOk p W) (hn : W.left < n) (h0 : W.en = 0) (hm : madeAt p W.acts b a) (hr : Room 2 W) (hO : OwnM H F p W) (hV : H (.u 2 0 0) = none) :
    FnE Tryz.prog gl 200 DM [.pt Mn 0, ptE a, iv b] H (fun _ y H' => y = .tup [Val.av (classW p (runW p n) W b a).2, bv (decide ((classW p (runW p n) W b a).1.en = 0))] ∧ OwnM H' F p (classW p (runW p n) W b a).1) noE := by
  obtain ⟨k, hk, hpk⟩ := hm.shape
  obtain ⟨hbl, hkE⟩ := gS hk
  have hT := hO.top
  simp only [mRow] at hT
  have hpos : ¬ W.acts.length = 0 := by
    obtain ⟨a, ha, _⟩ := hw.a0
    have := (gS ha).1
    omega
  have hpos' : ¬ 0 = W.acts.length := fun e => hpos e.symm
  have hupl : ¬ a = W.acts.length := by
    obtain ⟨c, _, e, _⟩ := hm
    have := (gS e).1
    omega
  have hno : ∀ j, H (.u 7 W.acts.length j) = none := fun j => by
    cases e : H (.u 7 W.acts.length j) with
    | none => rfl
    | some o =>
      rcases hO.only 7 W.acts.length j rfl (by rw [e]; simp) with ⟨h, _⟩ | ⟨_, h, _⟩ | ⟨h, _⟩
      · cases h
      · omega
      · cases h
  have hbeg : actI p W b a [] 0 = { beginW p W b a [] with stack := W.stack } := by
    simp [actI, begI, beginW, bindP]
  have hcl : classW p (runW p n) W b a = if (enterW p (runW p n) W b a []).1.en ≠ 0 then ((enterW p (runW p n) W b a []).1, (0, 0)) else
    ({ (enterW p (runW p n) W b a []).1 with classes := (enterW p (runW p n) W b a []).1.classes ++ [(enterW p (runW p n) W b a []).1.vars (some W.acts.length)] }, (3, ((enterW p (runW p n) W b a []).1.classes.length : Int))) := rfl
  obtain ⟨⟨e1, e2, e3⟩, e4⟩ := enterW_ok (vs := []) (runW_ok hP.sh n) hw hn h0 hm (by simp) (hr.mono (by omega))
  have hrc : (enterW p (runW p n) W b a []).1.classes.length ≤ 1000 := by have := e1.ncls; omega
  have hlen : W.acts.length < (enterW p (runW p n) W b a []).1.acts.length := by
    obtain ⟨g1, g2⟩ := beginW_ok (vs := []) hw hm (fun v hv => by simp at hv) (hr.mono (by omega))
    obtain ⟨⟨_, r2, _⟩, _⟩ := runW_ok hP.sh n (beginW p W b a []) W.acts.length g1 hn (by simp [beginW]) h0
    have := r2.lacts
    unfold enterW endW
    split <;> simp [beginW] at this ⊢ <;> omega
  have hlf : W.funs.length ≤ (enterW p (runW p n) W b a []).1.funs.length := e2.lfuns
  have hent := enterM_fn gl F p n hR (W := W) (b := b) (up := a) (vs := [])
  refine FnE.of_sem Tryz.func200 rfl (by kernel_rfl) (rs := [.cell 6 117, .tmp 7]) rfl Tryz.ntmps200 (Nat.le_of_ble_eq_true rfl) (fun _ => DM_root) fun C w g root hroot => ?_
  have fx := fx0
  refine k_run ?_
  repeat ((first | refine wSc (id := 5) qsQg0 mixed ?_); refine k_rund ?_; refine k_run ?_)
  clear fx
  intro K hK
  have fx := fx0
  refine x_map (h := ?_)
  clear fx
  have fx :=  hT
  refine k_run ?_
  repeat ((first | refine wSc (id := 5) qsQg0 mixed ?_); refine k_rund ?_; refine k_run ?_)
  clear fx
  intro K hK
  refine o_mv (.s 8) (En W.acts.length) (.inl rfl) (.inr (by simp [ctx0, hno])) ?_
  have fx := hT
  refine x_callM hO (w := actI p W b a [] 0) ?_ (by simp [actI, begI]) (Nat.le_refl _) (hF := fun hs => hent _ hP hw hn h0 hm (by simp) (hr.mono (by omega)) (by rw [← hbeg]; exact hs) (by simp [hV])) (h := ?_)
  · clear fx
    refine ⟨by simp [mRow, actI, begI, hO.top, hpos'], ⟨by simp [hO.scs.top], fun j k hj hk => by simp [hO.scs.sc j k hj hk]⟩, by simp [actI, begI, hO.out], by simp [actI, begI, hO.trc], hO.run.imp fun l hl => ⟨fun i hi => by have := hl.1 i hi; simp [actI, begI]; omega, ?_⟩, by simp [actI, begI, hO.funs], fun k' g hg => ?_, by simp [actI, begI, hO.clss], fun k c hc => (hO.cls k c hc).imp fun ms hm => ⟨by simp [hm.1], hm.2⟩, fun i d hd => ?_, fun i hi => ?_, fun k' i j hk' hn => ?_⟩
    · simp [hl.2, actI]
      refine erows_lt fun i hi => ?_
      have hlt : i < W.acts.length := by
        rcases List.mem_append.1 hi with e | e
        · exact hw.stk i e
        · exact hl.1 i e
      have hne : ¬ i = W.acts.length := by omega
      simp [hne]
    · have hgl : ¬ g.2 = W.acts.length := by
        obtain ⟨c, _, e, _⟩ := hw.funs k' g hg
        have := (gS e).1
        omega
      simp [hO.bx k' g hg, hgl]
    · simp only [actI, begI] at hd
      rcases Nat.lt_or_ge i W.acts.length with hlt | hge
      · rw [List.getElem?_append_left hlt] at hd
        have hne : ¬ i = W.acts.length := by omega
        have hne' : ¬ W.acts.length = i := by omega
        by_cases e0 : i = 0
        · subst e0
          simp [hO.env 0 d hd, envRow, hne, hne']
        · have hup := (hw.up i d hd (by omega)).1
          have hupn : ¬ d.up = W.acts.length := by omega
          simp [hO.env i d hd, envRow, e0, hne, hne', hupn]
      · rw [List.getElem?_append_right hge] at hd
        have hi : i = W.acts.length := by
          have := (gS hd).1
          simp at this
          omega
        subst hi
        simp at hd
        subst hd
        simp [envRow, hpos, hupl]
    · by_cases e : i = W.acts.length
      · subst e
        rw [actI_nmsL (vs := []) hpos hk]
        exact ⟨[], by simp, by simpa [bindP] using MapOk.nil⟩
      · rw [actI_nms e]
        have hlt : i < W.acts.length := by
          simp [actI, begI] at hi
          omega
        have hne' : ¬ W.acts.length = i := by omega
        exact (hO.nms i hlt).imp fun ms hm => ⟨by simp [hm.1, e, hne'], hm.2⟩
    · by_cases e7 : k' = 7 ∧ i = W.acts.length ∧ j = 0
      · exact .inr (.inl ⟨e7.1, by simp [actI, begI]; omega, e7.2.2⟩)
      · by_cases e1 : k' = 1 ∧ i = 0 ∧ j = 0
        · exact .inl e1
        · have hn' : H (.u k' i j) ≠ none := by simpa [hk', e1, e7] using hn
          rcases hO.only k' i j hk' hn' with h | h | h
          · exact .inl h
          · exact .inr (.inl ⟨h.1, by simp [actI, begI]; omega, h.2.2⟩)
          · exact .inr (.inr h)
  rintro y H2 ⟨rfl, hO2⟩
  clear fx
  generalize enterW p (runW p n) W b a [] = q2 at hO2 hcl e1 hrc hlen hlf
  obtain ⟨U, v1, v2⟩ := q2
  simp only at hO2 hcl e1 hrc hlen hlf
  have hT2 := hO2.top
  simp only [mRow] at hT2
  obtain ⟨d, hd⟩ : ∃ d, U.acts[W.acts.length]? = some d := ⟨_, gE hlen⟩
  have hE2 := hO2.env W.acts.length d hd
  simp only [envRow, hpos, if_false] at hE2
  by_cases hen2 : U.en = 0
  case neg =>
    rw [if_pos hen2] at hcl
    have fx := And.intro hT <| And.intro hT2 <| And.intro hen2 <| hE2
    refine k_run ?_
    repeat ((first | refine wSc (id := 5) qsQg0 mixed ?_); refine k_rund ?_; refine k_run ?_)
    clear fx
    rw [hcl]
    refine e_ret [] .nil (by simp; rfl) ⟨by simp [hen2], OwnM.fin (have om := hO2; OwnM.re om)⟩
  rw [if_neg (by simpa using hen2)] at hcl
  obtain ⟨ms, hms, hmo⟩ := hO2.nms W.acts.length hlen
  have hnv : U.nms W.acts.length = U.vars (some W.acts.length) := by simp [Wld.nms, Wld.vars, hpos, hd]
  rw [hnv] at hmo
  generalize hnve : U.vars (some W.acts.length) = nv at hmo hcl hnv
  have fx := And.intro hT <| And.intro hT2 <| And.intro hen2 <| And.intro hE2 <| hms
  refine k_run ?_
  repeat ((first | refine wSc (id := 5) qsQg0 mixed ?_); refine k_rund ?_; refine k_run ?_)
  clear fx
  intro K hK
  have fx := And.intro hT (And.intro hT2 (And.intro hE2 hms))
  refine x_clone rfl (n := .c (En W.acts.length) 0 1) (es := mrows ms) (hsc := mrows_sc) (h := ?_)
  clear fx
  have hC := hO2.clss
  have hwr : IntKind.i64.wrap (U.classes.length : Int) = U.classes.length := wrp (by omega) (by omega)
  have fx := And.intro hT <| And.intro hT2 <| And.intro hE2 <| hms
  refine k_run ?_
  repeat ((first | refine wSc (id := 5) qsQg0 mixed ?_); refine k_rund ?_; refine k_run ?_)
  clear fx
  refine o_mv (.c (.s 35) 0 0) (.c Mn (U.classes.length + 1) 9) (.inl rfl) (.inl rfl) ?_
  have fx := And.intro hT <| And.intro hT2 <| And.intro hC <| And.intro hrc <| And.intro hwr <| And.intro hE2 <| hms
  refine k_run ?_
  repeat ((first | refine wSc (id := 5) qsQg0 mixed ?_); refine k_rund ?_; refine k_run ?_)
  clear fx
  rw [hcl]
  have hap : cmpRows Mn U.classes ++ [[.mp (.c Mn (U.classes.length + 1) 9)]] = cmpRows Mn (U.classes ++ [nv]) := cmpRows_app
  refine e_ret [] .nil (by simp; rfl) ⟨by simp [hen2], OwnM.fin ⟨by simp [hT2, mRow], ⟨by simp [hO2.scs.top], fun j k hj hk => by simp [hO2.scs.sc j k hj hk]⟩, by simp [hO2.out], by simp [hO2.trc], hO2.run.imp fun l hl => ⟨hl.1, by simp [hl.2]⟩, by simp [hO2.funs], fun k g hg => by simp [hO2.bx k g hg], ?_, fun k c hc => ?_, fun i a ha => by simp [hO2.env i a ha], fun i hi => ?_, fun k i j hk hn => if e : k = 1 ∧ i = 0 ∧ j = 0 then .inl e else hO2.only k i j hk (by simpa [hk, e] using hn)⟩⟩
  · simp [← hap]
    rw [List.take_of_length_le (by simp)]
    refine cmpRows_map fun i c hc => ?_
    have hne : ¬ i = U.classes.length := by have := (gS hc).1; omega
    have hne' : ¬ U.classes.length = i := by omega
    simp [hne, hne']
  · simp only at hc
    rcases Nat.lt_or_ge k U.classes.length with hlt | hge
    · rw [List.getElem?_append_left hlt] at hc
      have hne : ¬ k = U.classes.length := by omega
      have hne' : ¬ U.classes.length = k := by omega
      exact (hO2.cls k c hc).imp fun ms hm => ⟨by simp [hm.1, hne, hne'], hm.2⟩
    · rw [List.getElem?_append_right hge] at hc
      have hi : k = U.classes.length := by
        have := (gS hc).1
        simp at this
        omega
      subst hi
      simp at hc
      subst hc
      exact ⟨ms, by simp, hmo⟩
  · by_cases e : i = W.acts.length
    · subst e
      have hnv' : ({ U with classes := U.classes ++ [nv] } : Wld).nms W.acts.length = nv := hnv
      exact ⟨ms, by simp [hms], by rw [hnv']; exact hmo⟩
    · exact (hO2.nms i hi).imp fun ms hm => ⟨by simp [hm.1, e], hm.2⟩
abbrev qsQh0 : Sch := .q 0 <| .q 1 <| .q 2 <| .q 3 <| .q 4 <| .q 5 <| .q 6 <| .q 7 <| .l 8 [7, 6, 5, 4, 3, 2, 1, 0] <| .l 9 [] <| .done
@[simp] theorem nilS_nfn : isNilS (AV.sc .nilFunc) = false := rfl
@[simp] theorem nilS_fn {f : Fn} {xs ys : List AV} : isNilS (AV.fn f xs ys) = false := rfl
theorem callM_fn (gl) (p : Prg) (n : Nat) (hR : MBok gl 207 p n) (H : Nm → Option AO) (W : Wld) (f : Val) (lo : Nat) (vs all : List Val) (hP : ValP p) (hw : WOk p W) (hn : W.left < n) (h0 : W.en = 0) (hf : VOk W.funs.length W.classes.length f) (hv : ∀ v ∈ vs, VOk W.funs.length W.classes.length v) (hr : Room 1 W)
    (hall : all.drop lo = vs) (hlo : lo + vs.length = all.length) (hv2 : vs.length ≤ 1) (hO : OwnM H 207 p W) (hL : H (.u 2 0 0) = some (.row 2 (vrows all))) :
    FnE Tryz.prog gl 201 DM2 [.pt Mn 0, Val.av f, .hs (.u 2 0 0) 2 lo vs.length] H (fun _ y H' => y = .tup [Val.av (callW p (runW p n) W f vs).2, bv (decide ((callW p (runW p n) W f vs).1.en = 0))] ∧ OwnM H' 207 p (callW p (runW p n) W f vs).1) noE := by
  have hT := hO.top
  simp only [mRow] at hT
  obtain ⟨f1, f2⟩ := f
  refine FnE.of_sem Tryz.func201 rfl (by kernel_rfl) (rs := [.cell 6 117, .tmp 7]) rfl Tryz.ntmps201 (Nat.le_of_ble_eq_true rfl) (fun _ => DM2_root) fun C w g root hroot => ?_
  by_cases h2 : f1 = 2
  · subst h2
    have hf2 := hf.num
    have hf3 := hf.fn rfl
    simp only at hf2 hf3
    obtain ⟨i, rfl⟩ : ∃ i : Nat, f2 = i := ⟨f2.toNat, by omega⟩
    have hil : i < W.funs.length := by omega
    obtain ⟨⟨g1, g2⟩, hg⟩ : ∃ g, W.funs[i]? = some g := ⟨_, gE hil⟩
    obtain ⟨_, hgE⟩ := gS hg
    have hm := hw.funs i _ hg
    obtain ⟨k, hk, hpk⟩ := hm.shape
    have hF := hO.funs
    have hcc : cloC 207 p i (g1, g2) = [iv (parN p g1), .fn (.func 207) [] [.pt (.u 8 i 0) 0, .pt (.u 8 i 1) 0, .pt (.u 8 i 2) 0, .pt (.u 8 i 3) 0]] := rfl
    obtain ⟨c1, c2, c3, c4⟩ := hO.bx i _ hg
    simp only at hm hk hpk c1 c2 c3 c4
    by_cases hl : parN p g1 = vs.length
    · have hc : callW p (runW p n) W (2, (i : Int)) vs = enterW p (runW p n) W g1 g2 vs := by
        simp [callW, hg, hl]
      have hlb : ((parN p g1 : Int) == (vs.length : Int)) = true := by rw [hl]; simp
      have fx := And.intro hT <| And.intro hF <| And.intro hil <| And.intro hg <| And.intro hgE <| And.intro hcc <| And.intro hlb <| @bne_def
      refine k_run ?_
      repeat ((first | refine wSc (id := 3) qsQh0 mixed ?_); refine k_rund ?_; refine k_run ?_)
      clear fx
      intro K hK
      have fx := And.intro hT hF
      refine x_callMv (xs := []) (ys := [.pt (.u 8 i 0) 0, .pt (.u 8 i 1) 0, .pt (.u 8 i 2) 0, .pt (.u 8 i 3) 0]) hO (have om := hO; OwnM.re om) (by simp [hL]) (Nat.le_refl _) (Nat.le_refl _) (hF := fun hs => closure_fn gl _ p n hR _ W i g1 g2 lo vs all hP hw hn h0 hg hv hr hall hlo hl hv2 hs (by simp [hL])) (h := ?_)
      rintro y H1 ⟨rfl, hO1⟩
      clear fx
      have hT1 := hO1.top
      simp only [mRow] at hT1
      have fx := And.intro hT <| hT1
      refine k_run ?_
      repeat ((first | refine wSc (id := 3) qsQh0 mixed ?_); refine k_rund ?_; refine k_run ?_)
      clear fx
      rw [hc]
      refine e_ret [] .nil (by simp; rfl) ⟨by simp, OwnM.fin (have om := hO1; OwnM.re om)⟩
    · have hc : callW p (runW p n) W (2, (i : Int)) vs = ({ W with en := 6 }, (0, 0)) := by
        simp [callW, hg, hl]
      have hlb : ((parN p g1 : Int) == (vs.length : Int)) = false := by
        rw [beq_eq_false_iff_ne]
        omega
      have fx := And.intro hT <| And.intro hF <| And.intro hil <| And.intro hg <| And.intro hgE <| And.intro hcc <| And.intro hlb <| @bne_def
      refine k_run ?_
      repeat ((first | refine wSc (id := 3) qsQh0 mixed ?_); refine k_rund ?_; refine k_run ?_)
      clear fx
      intro K hK
      have fx := hT
      refine x_callM hO (have om := hO; OwnM.re om) (Nat.le_refl _) (Nat.le_refl _) (hF := fun hs => stop_fn _ _ _ p W 6 hs) (h := ?_)
      rintro y H2 ⟨rfl, hO2⟩
      clear fx
      have hT2 := hO2.top
      simp only [mRow] at hT2
      have fx := And.intro hT <| hT2
      refine k_run ?_
      repeat ((first | refine wSc (id := 3) qsQh0 mixed ?_); refine k_rund ?_; refine k_run ?_)
      clear fx
      rw [hc]
      refine e_ret [] .nil (by simp; rfl) ⟨by simp, OwnM.fin (have om := hO2; OwnM.re om)⟩
  · have hb1 : (f1 == 2) = false := by simpa using h2
    have hc : callW p (runW p n) W (f1, f2) vs = ({ W with en := 5 }, (0, 0)) := by simp [callW, h2]
    have fx := And.intro hT <| And.intro hb1 <| @bne_def
    refine k_run ?_
    repeat ((first | refine wSc (id := 3) qsQh0 mixed ?_); refine k_rund ?_; refine k_run ?_)
    clear fx
    intro K hK
    have fx := hT
    refine x_callM hO (have om := hO; OwnM.re om) (Nat.le_refl _) (Nat.le_refl _) (hF := fun hs => stop_fn _ _ _ p W 5 hs) (h := ?_)
    rintro y H2 ⟨rfl, hO2⟩
    clear fx
    have hT2 := hO2.top
    simp only [mRow] at hT2
    have fx := And.intro hT <| hT2
    refine k_run ?_
    repeat ((first | refine wSc (id := 3) qsQh0 mixed ?_); refine k_rund ?_; refine k_run ?_)
    clear fx
    rw [hc]
    refine e_ret [] .nil (by simp; rfl) ⟨by simp, OwnM.fin (have om := hO2; OwnM.re om)⟩
end Go.Proofs.YtcbkblboonkfhaaGreat
end
section
namespace Go.Proofs.YtcbkblboonkfhaaGreat
open Go Go.Hm Go.Proofs
abbrev qsQi0 : Sch := .q 0 <| .q 1 <| .q 2 <| .q 3 <| .q 4 <| .q 5 <| .q 6 <| .l 7 [5, 4, 2, 1] <| .q 8 <| .q 9 <| .l 10 [] <| .l 11 [] <| .done
abbrev qsQi1 : Sch := .q 0 <| .q 1 <| .q 2 <| .q 3 <| .q 4 <| .q 5 <| .l 6 [4, 2, 1] <| .q 7 <| .q 8 <| .l 9 [] <| .l 10 [] <| .done
theorem valueOfM_fn (gl) (p : Prg) (n : Nat) (hR : MBok gl 207 p n) (H : Nm → Option AO) (W : Wld) (a : Nat) (k : Blk) (s : Stm) (vs : List Val) (hP : ValP p) (hw : WOk p W) (hn : W.left < n) (h0 : W.en = 0) (ha : a < W.acts.length) (hk : p[W.blk a]? = some k) (hs : s ∈ k.body) (hkd : 0 ≤ s.kind ∧ s.kind ≤ 6) (hr : Room 2 W)
    (hl : vs.length = s.reads.length) (hvok : ∀ v ∈ vs, VOk W.funs.length W.classes.length v) (hO : OwnM H 207 p W) (hL : H (.u 2 0 0) = some (.row 2 (vrows vs))) :
    FnE Tryz.prog gl 182 DM2 [.pt Mn 0, ptE a, s.av, .hs (.u 2 0 0) 2 0 vs.length] H (fun _ y H' => y = .tup [Val.av (workW p (runW p n) W a s vs).2, bv (decide ((workW p (runW p n) W a s vs).1.en = 0))] ∧ OwnM H' 207 p (workW p (runW p n) W a s vs).1) noE := by
  have hT := hO.top
  simp only [mRow] at hT
  have hst := hP.sh.stm _ k hk s hs
  have hnm := hP.sh.names k (List.mem_of_getElem? hk)
  have hp1 := hL
  obtain ⟨c, hc⟩ : ∃ c, W.acts[a]? = some c := ⟨_, gE ha⟩
  have hE := hO.env a c hc
  obtain ⟨kd, to, sa, sb⟩ := s
  simp only at hkd
  refine FnE.of_sem Tryz.func182 rfl (by kernel_rfl) (rs := [.cell 8 117, .tmp 9]) rfl Tryz.ntmps182 (Nat.le_of_ble_eq_true rfl) (fun _ => DM2_root) fun C w g root hroot => ?_
  have hkc : kd = 0 ∨ kd = 1 ∨ kd = 2 ∨ kd = 3 ∨ kd = 4 ∨ kd = 5 ∨ kd = 6 := by omega
  rcases hkc with rfl | rfl | rfl | rfl | rfl | rfl | rfl
  · have hw0 : workW p (runW p n) W a ⟨0, to, sa, sb⟩ vs = (W, (1, sa)) := by simp [workW]
    have fx := And.intro hT <| And.intro hp1 <| @bne_def
    refine k_run ?_
    repeat ((first | refine wSc (id := 7) qsQi0 mixed ?_ | refine wSc (id := 13) qsQi1 mixed ?_ | refine wSc (id := 14) qsQi1 mixed ?_); refine k_rund ?_; refine k_run ?_)
    clear fx
    rw [hw0]
    refine e_ret [] .nil (by simp; rfl) ⟨by simp [h0], OwnM.fin (have om := hO; OwnM.re om)⟩
  · obtain ⟨u, rfl⟩ : ∃ u, vs = [u] := by
      match vs, hl with
      | [u], _ => exact ⟨u, rfl⟩
      | [], h => simp [Stm.reads] at h
      | _ :: _ :: _, h => simp [Stm.reads] at h
    have hw0 : workW p (runW p n) W a ⟨1, to, sa, sb⟩ [u] = (W, u) := by simp [workW]
    have fx := And.intro hT <| And.intro hp1 <| @bne_def
    refine k_run ?_
    repeat ((first | refine wSc (id := 7) qsQi0 mixed ?_ | refine wSc (id := 13) qsQi1 mixed ?_ | refine wSc (id := 14) qsQi1 mixed ?_); refine k_rund ?_; refine k_run ?_)
    clear fx
    rw [hw0]
    refine e_ret [] .nil (by simp; rfl) ⟨by simp [h0], OwnM.fin (have om := hO; OwnM.re om)⟩
  · obtain ⟨u, v, rfl⟩ : ∃ u v, vs = [u, v] := by
      match vs, hl with
      | [u, v], _ => exact ⟨u, v, rfl⟩
      | [], h => simp [Stm.reads] at h
      | [_], h => simp [Stm.reads] at h
      | _ :: _ :: _ :: _, h => simp [Stm.reads] at h
    have hw0 : workW p (runW p n) W a ⟨2, to, sa, sb⟩ [u, v] = plusW W u v := by simp [workW]
    have fx := And.intro hT <| And.intro hp1 <| @bne_def
    refine k_run ?_
    repeat ((first | refine wSc (id := 7) qsQi0 mixed ?_ | refine wSc (id := 13) qsQi1 mixed ?_ | refine wSc (id := 14) qsQi1 mixed ?_); refine k_rund ?_; refine k_run ?_)
    clear fx
    intro K hK
    have fx := And.intro hT hp1
    refine x_callM hO (have om := hO; OwnM.re om) (Nat.le_refl _) (Nat.le_refl _) (hF := fun hs => add_fn _ _ _ p W u v h0 (hvok u (by simp)) (hvok v (by simp)) hs) (h := ?_)
    rintro y H2 ⟨rfl, hO2⟩
    clear fx
    have hT2 := hO2.top
    simp only [mRow] at hT2
    have fx := And.intro hT <| And.intro hp1 <| And.intro hT2 <| @bne_def
    refine k_run ?_
    repeat ((first | refine wSc (id := 7) qsQi0 mixed ?_ | refine wSc (id := 13) qsQi1 mixed ?_ | refine wSc (id := 14) qsQi1 mixed ?_); refine k_rund ?_; refine k_run ?_)
    clear fx
    rw [hw0]
    refine e_ret [] .nil (by simp; rfl) ⟨by simp, OwnM.fin (have om := hO2; OwnM.re om)⟩
  · obtain ⟨q, hq1, hq2, hq3, hq4⟩ := StmOk.made hst (.inl rfl)
    simp only at hq1 hq3
    obtain ⟨A, rfl⟩ : ∃ A : Nat, sa = A := ⟨sa.toNat, by omega⟩
    simp only [Int.toNat_natCast] at hq1
    have hw0 : workW p (runW p n) W a ⟨3, to, (A : Int), sb⟩ vs = ({ W with funs := W.funs ++ [(A, a)] }, (2, (W.funs.length : Int))) := by simp [workW]
    have fx := And.intro hT <| And.intro hp1 <| @bne_def
    refine k_run ?_
    repeat ((first | refine wSc (id := 7) qsQi0 mixed ?_ | refine wSc (id := 13) qsQi1 mixed ?_ | refine wSc (id := 14) qsQi1 mixed ?_); refine k_rund ?_; refine k_run ?_)
    clear fx
    intro K hK
    have fx := hT
    refine x_callM hO (have om := hO; OwnM.re om) (Nat.le_refl _) (Nat.le_refl _) (hF := fun hs => function_fn _ _ p W a A q hw ha hq1 (hr.mono (by omega)) (by have hh := hP.sh.head A q hq1; simp only [HeadOk] at hh; split at hh <;> omega) hs) (h := ?_)
    rintro y H2 ⟨rfl, hO2⟩
    clear fx
    have hT2 := hO2.top
    simp only [mRow] at hT2
    have fx := And.intro hT <| And.intro hp1 <| And.intro hT2 <| @bne_def
    refine k_run ?_
    repeat ((first | refine wSc (id := 7) qsQi0 mixed ?_ | refine wSc (id := 13) qsQi1 mixed ?_ | refine wSc (id := 14) qsQi1 mixed ?_); refine k_rund ?_; refine k_run ?_)
    clear fx
    rw [hw0]
    refine e_ret [] .nil (by simp; rfl) ⟨by simp [h0], OwnM.fin (have om := hO2; OwnM.re om)⟩
  · have hm := stm_made hst ha (.inr rfl)
    obtain ⟨q, hq1, hq2, hq3, hq4⟩ := StmOk.made hst (.inr rfl)
    simp only at hm hq3
    obtain ⟨A, rfl⟩ : ∃ A : Nat, sa = A := ⟨sa.toNat, by omega⟩
    simp only [Int.toNat_natCast] at hm
    have hw0 : workW p (runW p n) W a ⟨4, to, (A : Int), sb⟩ vs = classW p (runW p n) W A a := by simp [workW]
    have fx := And.intro hT <| And.intro hp1 <| @bne_def
    refine k_run ?_
    repeat ((first | refine wSc (id := 7) qsQi0 mixed ?_ | refine wSc (id := 13) qsQi1 mixed ?_ | refine wSc (id := 14) qsQi1 mixed ?_); refine k_rund ?_; refine k_run ?_)
    clear fx
    intro K hK
    have fx := hT
    refine x_callM hO (have om := hO; OwnM.re om) (Nat.le_refl _) (Nat.le_refl _) (hF := fun hs => class_fn gl _ p n hR _ W a A hP hw hn h0 hm hr hs (by simp)) (h := ?_)
    rintro y H2 ⟨rfl, hO2⟩
    clear fx
    have hT2 := hO2.top
    simp only [mRow] at hT2
    have fx := And.intro hT <| And.intro hp1 <| And.intro hT2 <| @bne_def
    refine k_run ?_
    repeat ((first | refine wSc (id := 7) qsQi0 mixed ?_ | refine wSc (id := 13) qsQi1 mixed ?_ | refine wSc (id := 14) qsQi1 mixed ?_); refine k_rund ?_; refine k_run ?_)
    clear fx
    rw [hw0]
    refine e_ret [] .nil (by simp; rfl) ⟨by simp, OwnM.fin (have om := hO2; OwnM.re om)⟩
  · have hpos : 0 < vs.length := by
      rw [hl]
      by_cases e : sb = -1 <;> simp [Stm.reads, e]
    have hlt : vs.length ≤ 2 := by
      rw [hl]
      by_cases e : sb = -1 <;> simp [Stm.reads, e]
    obtain ⟨u, tl, rfl⟩ : ∃ u tl, vs = u :: tl := by
      match vs, hpos with
      | u :: tl, _ => exact ⟨u, tl, rfl⟩
    have htl : tl.length ≤ 1 := by simp at hlt; omega
    have hw0 : workW p (runW p n) W a ⟨5, to, sa, sb⟩ (u :: tl) = callW p (runW p n) W u tl := by simp [workW]
    have hle1 : (1 : Int) ≤ (tl.length : Int) + 1 := by omega
    have htn : ((tl.length : Int) + 1).toNat = tl.length + 1 := by omega
    have fx := And.intro hT <| And.intro hp1 <| And.intro htl <| And.intro hle1 <| And.intro htn <| @bne_def
    refine k_run ?_
    repeat ((first | refine wSc (id := 7) qsQi0 mixed ?_ | refine wSc (id := 13) qsQi1 mixed ?_ | refine wSc (id := 14) qsQi1 mixed ?_); refine k_rund ?_; refine k_run ?_)
    clear fx
    intro K hK
    have fx := And.intro hT hp1
    refine x_callM2 hO (have om := hO; OwnM.re om) (by simp [hp1]) (Nat.le_refl _) (Nat.le_refl _) (hF := fun hs => callM_fn gl p n hR _ W u 1 tl (u :: tl) hP hw hn h0 (hvok u (by simp)) (fun v hv => hvok v (by simp [hv])) (hr.mono (by omega)) rfl (by simp; omega) htl hs (by simp [hp1])) (h := ?_)
    rintro y H2 ⟨rfl, hO2⟩
    clear fx
    have hT2 := hO2.top
    simp only [mRow] at hT2
    have fx := And.intro hT <| And.intro hp1 <| And.intro hT2 <| And.intro htl <| And.intro hle1 <| And.intro htn <| @bne_def
    refine k_run ?_
    repeat ((first | refine wSc (id := 7) qsQi0 mixed ?_ | refine wSc (id := 13) qsQi1 mixed ?_ | refine wSc (id := 14) qsQi1 mixed ?_); refine k_rund ?_; refine k_run ?_)
    clear fx
    rw [hw0]
    refine e_ret [] .nil (by simp; rfl) ⟨by simp, OwnM.fin (have om := hO2; OwnM.re om)⟩
  · obtain ⟨u, rfl⟩ : ∃ u, vs = [u] := by
      match vs, hl with
      | [u], _ => exact ⟨u, rfl⟩
      | [], h => simp [Stm.reads] at h
      | _ :: _ :: _, h => simp [Stm.reads] at h
    have hsb : 0 ≤ sb ∧ sb ≤ 7 := by
      simp only [StmOk] at hst
      simp at hst
      omega
    obtain ⟨x, rfl⟩ : ∃ x : Nat, sb = x := ⟨sb.toNat, by omega⟩
    have hw0 : workW p (runW p n) W a ⟨6, to, sa, (x : Int)⟩ [u] = attrW W u x := by simp [workW]
    have fx := And.intro hT <| And.intro hp1 <| @bne_def
    refine k_run ?_
    repeat ((first | refine wSc (id := 7) qsQi0 mixed ?_ | refine wSc (id := 13) qsQi1 mixed ?_ | refine wSc (id := 14) qsQi1 mixed ?_); refine k_rund ?_; refine k_run ?_)
    clear fx
    intro K hK
    have fx := And.intro hT hp1
    refine x_callM hO (have om := hO; OwnM.re om) (Nat.le_refl _) (Nat.le_refl _) (hF := fun hs => attribute_fn _ _ _ p W u x h0 hw (hvok u (by simp)) (by omega) hs) (h := ?_)
    rintro y H2 ⟨rfl, hO2⟩
    clear fx
    have hT2 := hO2.top
    simp only [mRow] at hT2
    have fx := And.intro hT <| And.intro hp1 <| And.intro hT2 <| @bne_def
    refine k_run ?_
    repeat ((first | refine wSc (id := 7) qsQi0 mixed ?_ | refine wSc (id := 13) qsQi1 mixed ?_ | refine wSc (id := 14) qsQi1 mixed ?_); refine k_rund ?_; refine k_run ?_)
    clear fx
    rw [hw0]
    refine e_ret [] .nil (by simp; rfl) ⟨by simp, OwnM.fin (have om := hO2; OwnM.re om)⟩
end Go.Proofs.YtcbkblboonkfhaaGreat
end
