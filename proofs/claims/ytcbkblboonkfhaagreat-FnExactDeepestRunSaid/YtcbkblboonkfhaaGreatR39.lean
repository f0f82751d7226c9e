/-
  Own texts, joined by mkclaim.py: Pf, Pg, Ph, Vd.
-/
import Derived.Test.YtcbkblboonkfhaaGreatR38
import Derived.Test.YtcbkblboonkfhaaGreatR21
import Derived.Test.YtcbkblboonkfhaaGreatR15
import Derived.Test.YtcbkblboonkfhaaGreatR27
import Derived.Test.YtcbkblboonkfhaaGreatR17
set_option linter.unusedSimpArgs false
set_option linter.unusedVariables false

section
set_option maxRecDepth 100000
set_option maxHeartbeats 4000000
set_option linter.unusedSimpArgs false
namespace Go.Proofs.YtcbkblboonkfhaaGreat
open Go Go.Hm Go.Proofs
theorem runStmt_fn (gl) (p : Prg) (n : Nat) (hR : RBok gl p n) (H : Nm → Option AO) (W : Wld) (a : Nat) (k : Blk) (s : Stm) (hP : ValP p) (hw : WOk p W) (hn : W.left < n) (h0 : W.en = 0) (ha : a < W.acts.length) (hk : p[W.blk a]? = some k) (hs : s ∈ k.body) (h8 : s.kind ≠ 8) (hr : Room 2 W) (hO : OwnW H p W) (hV : H (.u 2 0 0) = none) :
    FnE Tryz.prog gl 149 (Nm.under Wn) [.pt Wn 0, iv a, s.av] H (fun _ y H' => OwnW H' p (stmW p (runW p n) W a s)) noE := by
  have hT := hO.top
  simp only [wRow] at hT
  have hst := hP.sh.stm _ k hk s hs
  have hnm := hP.sh.names k (List.mem_of_getElem? hk)
  have hkd := hnm.kinds s hs
  have hto := hnm.tos s hs
  have hvl := valueOf_fn gl p n hR
  obtain ⟨kd, to, sa, sb⟩ := s
  simp only at h8 hkd hto
  obtain ⟨x, rfl⟩ : ∃ x : Nat, to = x := ⟨to.toNat, by omega⟩
  refine FnE.of_sem Tryz.func149 rfl (by kernel_rfl) (rs := []) rfl Tryz.ntmps149 (Nat.le_of_ble_eq_true rfl) (fun _ => under_usroot rfl) fun C w g root hroot => ?_
  by_cases h9 : kd = 9
  · subst h9
    have hc : stmW p (runW p n) W a ⟨9, x, sa, sb⟩ = W := by simp [stmW]
    have fx :=  hT
    refine k_run ?_
    repeat ((first | refine w_sch (id := 9) (.q 0 <| .q 1 <| .q 2 <| .q 3 <| .q 4 <| .q 5 <| .l 6 [4, 3, 2, 1, 0] <| .l 7 [4, 3, 2, 1, 0] <| .l 8 [3, 2, 1, 0] <| .q 9 <| .q 10 <| .l 11 [9] <| .done) mixed (by kernel_rfl) (by kernel_rfl) ?_); refine k_rund ?_; refine k_run ?_)
    clear fx
    rw [hc]
    refine e_ret [] .nil (by simp; rfl) ⟨by simp [hO.top, wRow], by simp [hO.acts], fun i a ha => by simp [hO.act i a ha], hO.stk.imp fun l hl => by simp [hl], by simp [hO.glob], by simp [hO.funs], by simp [hO.clss], fun i c hc => by simp [hO.cls i c hc], by simp [hO.out], by simp [hO.trc]⟩
  by_cases h10 : kd = 10
  · subst h10
    have hc : stmW p (runW p n) W a ⟨10, x, sa, sb⟩ = W := by simp [stmW]
    have fx :=  hT
    refine k_run ?_
    repeat ((first | refine w_sch (id := 9) (.q 0 <| .q 1 <| .q 2 <| .q 3 <| .q 4 <| .q 5 <| .l 6 [4, 3, 2, 1, 0] <| .l 7 [4, 3, 2, 1, 0] <| .l 8 [3, 2, 1, 0] <| .q 9 <| .q 10 <| .l 11 [9] <| .done) mixed (by kernel_rfl) (by kernel_rfl) ?_); refine k_rund ?_; refine k_run ?_)
    clear fx
    rw [hc]
    refine e_ret [] .nil (by simp; rfl) ⟨by simp [hO.top, wRow], by simp [hO.acts], fun i a ha => by simp [hO.act i a ha], hO.stk.imp fun l hl => by simp [hl], by simp [hO.glob], by simp [hO.funs], by simp [hO.clss], fun i c hc => by simp [hO.cls i c hc], by simp [hO.out], by simp [hO.trc]⟩
  have hb9 : (kd == 9) = false := by simpa using h9
  have hb10 : (kd == 10) = false := by simpa using h10
  by_cases h11 : kd = 11
  · subst h11
    have hc : stmW p (runW p n) W a ⟨11, x, sa, sb⟩ = takeW p W a x := by simp [stmW]
    have fx :=  hT
    refine k_run ?_
    repeat ((first | refine w_sch (id := 9) (.q 0 <| .q 1 <| .q 2 <| .q 3 <| .q 4 <| .q 5 <| .l 6 [4, 3, 2, 1, 0] <| .l 7 [4, 3, 2, 1, 0] <| .l 8 [3, 2, 1, 0] <| .q 9 <| .q 10 <| .l 11 [9] <| .done) mixed (by kernel_rfl) (by kernel_rfl) ?_); refine k_rund ?_; refine k_run ?_)
    clear fx
    intro K hK
    have fx := hT
    refine x_mut Wn rfl (by simp [hT]) (hF := take_fn _ _ p W a x hP.sh hw ha (by omega) ⟨by simp [hO.top, wRow], by simp [hO.acts], fun i a ha => by simp [hO.act i a ha], hO.stk.imp fun l hl => by simp [hl], by simp [hO.glob], by simp [hO.funs], by simp [hO.clss], fun i c hc => by simp [hO.cls i c hc], by simp [hO.out], by simp [hO.trc]⟩) (h := ?_)
    rintro y H1 hO1
    clear fx
    have hT1 := hO1.top
    simp only [wRow] at hT1
    have fx := And.intro hT <| hT1
    refine k_run ?_
    repeat ((first | refine w_sch (id := 9) (.q 0 <| .q 1 <| .q 2 <| .q 3 <| .q 4 <| .q 5 <| .l 6 [4, 3, 2, 1, 0] <| .l 7 [4, 3, 2, 1, 0] <| .l 8 [3, 2, 1, 0] <| .q 9 <| .q 10 <| .l 11 [9] <| .done) mixed (by kernel_rfl) (by kernel_rfl) ?_); refine k_rund ?_; refine k_run ?_)
    clear fx
    rw [hc]
    refine e_ret [] .nil (by simp; rfl) ⟨by simp [hO1.top, wRow], by simp [hO1.acts], fun i a ha => by simp [hO1.act i a ha], hO1.stk.imp fun l hl => by simp [hl], by simp [hO1.glob], by simp [hO1.funs], by simp [hO1.clss], fun i c hc => by simp [hO1.cls i c hc], by simp [hO1.out], by simp [hO1.trc]⟩
  have hb11 : (kd == 11) = false := by simpa using h11
  have hc : stmW p (runW p n) W a ⟨kd, x, sa, sb⟩ = if (valueW p (runW p n) W a ⟨kd, x, sa, sb⟩).1.en ≠ 0 then (valueW p (runW p n) W a ⟨kd, x, sa, sb⟩).1
      else if kd = 7 then { (valueW p (runW p n) W a ⟨kd, x, sa, sb⟩).1 with out := (valueW p (runW p n) W a ⟨kd, x, sa, sb⟩).1.out ++ [Hm.shown (valueW p (runW p n) W a ⟨kd, x, sa, sb⟩).2] }
      else storeW p (valueW p (runW p n) W a ⟨kd, x, sa, sb⟩).1 a x (valueW p (runW p n) W a ⟨kd, x, sa, sb⟩).2 := by
    simp only [stmW]
    rw [if_neg (by omega), if_neg h11]
  have fx := And.intro hT <| And.intro hb9 <| And.intro hb10 <| hb11
  refine k_run ?_
  repeat ((first | refine w_sch (id := 9) (.q 0 <| .q 1 <| .q 2 <| .q 3 <| .q 4 <| .q 5 <| .l 6 [4, 3, 2, 1, 0] <| .l 7 [4, 3, 2, 1, 0] <| .l 8 [3, 2, 1, 0] <| .q 9 <| .q 10 <| .l 11 [9] <| .done) mixed (by kernel_rfl) (by kernel_rfl) ?_); refine k_rund ?_; refine k_run ?_)
  clear fx
  intro K hK
  have fx := hT
  refine x_mut Wn rfl (by simp [hT]) (hF := hvl _ W a k ⟨kd, x, sa, sb⟩ hP hw hn h0 ha hk hs ⟨by simp only; omega, by simp only; omega⟩ hr ⟨by simp [hO.top, wRow], by simp [hO.acts], fun i a ha => by simp [hO.act i a ha], hO.stk.imp fun l hl => by simp [hl], by simp [hO.glob], by simp [hO.funs], by simp [hO.clss], fun i c hc => by simp [hO.cls i c hc], by simp [hO.out], by simp [hO.trc]⟩ (by simp)) (h := ?_)
  rintro y H1 ⟨rfl, hO1⟩
  clear fx
  obtain ⟨hA, hvok⟩ := valueW_ok (runW_ok hP.sh n) hw hn h0 ha hst hr
  generalize valueW p (runW p n) W a ⟨kd, x, sa, sb⟩ = q at hO1 hA hvok hc
  obtain ⟨V, v⟩ := q
  simp only at hO1 hA hvok hc
  have hT1 := hO1.top
  simp only [wRow] at hT1
  have haV : a < V.acts.length := Nat.lt_of_lt_of_le ha hA.grow.lacts
  by_cases hen : V.en = 0
  case neg =>
    rw [if_pos hen] at hc
    have henb : (V.en == 0) = false := by simpa using hen
    have fx := And.intro hT <| And.intro hT1 <| And.intro henb <| @bne_def
    refine k_run ?_
    repeat ((first | refine w_sch (id := 9) (.q 0 <| .q 1 <| .q 2 <| .q 3 <| .q 4 <| .q 5 <| .l 6 [4, 3, 2, 1, 0] <| .l 7 [4, 3, 2, 1, 0] <| .l 8 [3, 2, 1, 0] <| .q 9 <| .q 10 <| .l 11 [9] <| .done) mixed (by kernel_rfl) (by kernel_rfl) ?_); refine k_rund ?_; refine k_run ?_)
    clear fx
    rw [hc]
    refine e_ret [] .nil (by simp; rfl) ⟨by simp [hO1.top, wRow], by simp [hO1.acts], fun i a ha => by simp [hO1.act i a ha], hO1.stk.imp fun l hl => by simp [hl], by simp [hO1.glob], by simp [hO1.funs], by simp [hO1.clss], fun i c hc => by simp [hO1.cls i c hc], by simp [hO1.out], by simp [hO1.trc]⟩
  rw [if_neg (by simpa using hen)] at hc
  have henb : (V.en == 0) = true := by simpa using hen
  by_cases h7 : kd = 7
  · subst h7
    rw [if_pos rfl] at hc
    have hU := hO1.out
    have hol := hA.ok.nout
    have hol' : V.out.length ≤ 1000 := by omega
    have hap : irows V.out ++ [[iv (Hm.shown v)]] = irows (V.out ++ [Hm.shown v]) := by simp [irows]
    have hsh := spec_shown_fn gl v
    obtain ⟨v1, v2⟩ := v
    have fx := And.intro hT <| And.intro hT1 <| And.intro henb <| And.intro hU <| And.intro hol' <| @bne_def
    have c1 := hsh
    refine k_run ?_
    repeat ((first | refine w_sch (id := 9) (.q 0 <| .q 1 <| .q 2 <| .q 3 <| .q 4 <| .q 5 <| .l 6 [4, 3, 2, 1, 0] <| .l 7 [4, 3, 2, 1, 0] <| .l 8 [3, 2, 1, 0] <| .q 9 <| .q 10 <| .l 11 [9] <| .done) mixed (by kernel_rfl) (by kernel_rfl) ?_); refine k_rund ?_; refine k_run ?_)
    clear fx c1
    rw [hc]
    refine e_ret [] .nil (by simp; rfl) (OwnW.fin ⟨by simp [wRow, hT1], by simp [hO1.acts], fun i b hb => by simp [hO1.act i b hb], hO1.stk.imp fun l hl => by simp [hl], by simp [hO1.glob], by simp [hO1.funs], by simp [hO1.clss], fun i c hc => by simp [hO1.cls i c hc], ?_, by simp [hO1.trc]⟩)
    simp
  · rw [if_neg h7] at hc
    have hb7 : (kd == 7) = false := by simpa using h7
    have hst2 := store_fn gl (p := p) (W := V) (a := a) (x := x) (v := v)
    obtain ⟨v1, v2⟩ := v
    have fx := And.intro hT <| And.intro hT1 <| And.intro henb <| And.intro hb7 <| @bne_def
    refine k_run ?_
    repeat ((first | refine w_sch (id := 9) (.q 0 <| .q 1 <| .q 2 <| .q 3 <| .q 4 <| .q 5 <| .l 6 [4, 3, 2, 1, 0] <| .l 7 [4, 3, 2, 1, 0] <| .l 8 [3, 2, 1, 0] <| .q 9 <| .q 10 <| .l 11 [9] <| .done) mixed (by kernel_rfl) (by kernel_rfl) ?_); refine k_rund ?_; refine k_run ?_)
    clear fx
    intro K hK
    have fx := And.intro hT hT1
    refine x_mut Wn rfl (by simp [hT1]) (hF := hst2 _ hP.sh hA.ok haV (by omega) ⟨by simp [hO1.top, wRow], by simp [hO1.acts], fun i a ha => by simp [hO1.act i a ha], hO1.stk.imp fun l hl => by simp [hl], by simp [hO1.glob], by simp [hO1.funs], by simp [hO1.clss], fun i c hc => by simp [hO1.cls i c hc], by simp [hO1.out], by simp [hO1.trc]⟩) (h := ?_)
    rintro y H2 hO2
    clear fx
    have hT2 := hO2.top
    simp only [wRow] at hT2
    have fx := And.intro hT <| And.intro hT1 <| hT2
    refine k_run ?_
    repeat ((first | refine w_sch (id := 9) (.q 0 <| .q 1 <| .q 2 <| .q 3 <| .q 4 <| .q 5 <| .l 6 [4, 3, 2, 1, 0] <| .l 7 [4, 3, 2, 1, 0] <| .l 8 [3, 2, 1, 0] <| .q 9 <| .q 10 <| .l 11 [9] <| .done) mixed (by kernel_rfl) (by kernel_rfl) ?_); refine k_rund ?_; refine k_run ?_)
    clear fx
    rw [hc]
    refine e_norm [] .nil (by simp; rfl) ⟨by simp [hO2.top, wRow], by simp [hO2.acts], fun i a ha => by simp [hO2.act i a ha], hO2.stk.imp fun l hl => by simp [hl], by simp [hO2.glob], by simp [hO2.funs], by simp [hO2.clss], fun i c hc => by simp [hO2.cls i c hc], by simp [hO2.out], by simp [hO2.trc]⟩
end Go.Proofs.YtcbkblboonkfhaaGreat
end

section
set_option maxRecDepth 100000
set_option maxHeartbeats 4000000
set_option linter.unusedSimpArgs false
namespace Go.Proofs.YtcbkblboonkfhaaGreat
open Go Go.Hm Go.Proofs
theorem runBlock_step (gl) (p : Prg) (n : Nat) (hR : RBok gl p n) (hP : ValP p) : RBok gl p (n + 1) := by
  intro H W a hO hw hn ha h0 hV
  show FnE Tryz.prog gl 102 (Nm.under Wn) [.pt Wn 0, iv a] H _ noE
  obtain ⟨c, hc⟩ : ∃ c, W.acts[a]? = some c := ⟨_, List.getElem?_eq_getElem ha⟩
  obtain ⟨_, hcE⟩ := List.getElem?_eq_some_iff.1 hc
  have hbl := hw.blks a c hc
  obtain ⟨k, hk⟩ : ∃ k, p[c.blk]? = some k := ⟨_, List.getElem?_eq_getElem hbl⟩
  obtain ⟨_, hkE⟩ := List.getElem?_eq_some_iff.1 hk
  have hbk := blk_at hc
  have hT := hO.top
  have hA := hO.acts
  simp only [wRow] at hT
  have hb12 := hP.sh.body k (List.mem_of_getElem? hk)
  have hrun : runW p (n + 1) W a = bodyW p (runW p n) a W 0 k.body := by simp only [runW, hbk, hk]
  refine FnE.of_sem Tryz.func102 rfl (by kernel_rfl) (rs := [.cell 4 117]) rfl Tryz.ntmps102 (Nat.le_of_ble_eq_true rfl) (fun _ => under_usroot rfl) fun C w g root hroot => ?_
  have fx := And.intro hT <| And.intro hA <| And.intro hc <| And.intro hcE <| And.intro ha <| And.intro hk <| And.intro hkE <| hbl
  refine k_run ?_
  repeat ((first | refine w_sch (id := 1) (.q 0 <| .q 1 <| .q 2 <| .q 3 <| .q 4 <| .q 5 <| .q 6 <| .q 7 <| .q 8 <| .q 9 <| .q 10 <| .q 11 <| .q 12 <| .q 13 <| .q 14 <| .q 15 <| .l 16 [] <| .done) mixed (by kernel_rfl) (by kernel_rfl) ?_ | refine w_sch (id := 9) (.q 0 <| .q 1 <| .q 2 <| .q 3 <| .q 4 <| .q 5 <| .q 6 <| .q 7 <| .q 8 <| .q 9 <| .q 10 <| .q 11 <| .q 12 <| .q 13 <| .q 14 <| .l 15 [13, 12, 11, 10, 9, 8, 7, 6, 5, 4, 3, 2, 1, 0] <| .l 16 [13, 12, 11, 10, 9, 8, 7, 6, 5, 3, 2, 1, 0] <| .q 17 <| .q 18 <| .l 19 [17] <| .done) mixed (by kernel_rfl) (by kernel_rfl) ?_); refine k_rund ?_; refine k_run ?_)
  clear fx
  refine w_loop (fun m st => ∃ (i : Nat) (V : Wld), m = k.body.length - i ∧ i ≤ k.body.length ∧ runW p (n + 1) W a = bodyW p (runW p n) a V i (k.body.drop i) ∧ WOk p V ∧ V.left < n + 1 ∧ a < V.acts.length ∧ V.en = 0 ∧ V.blk a = c.blk ∧ st.tm 0 = .pt Wn 0 ∧ st.tm 1 = iv a ∧ st.tm 4 = .pt (.s 4) 0 ∧ st.hp (.s 4) = some (.row 2 [[iv 0, iv 0]]) ∧ st.tm 5 = ssl k.body ∧ st.tm 6 = iv i ∧ OwnW st.hp p V) k.body.length ?_ ?_
  · exact ⟨0, W, by omega, by omega, by simpa using hrun, hw, hn, ha, h0, hbk, by simp, by simp, by simp, by simp, by simp, by simp, ⟨by simp [hO.top, wRow], by simp [hO.acts], fun i a ha => by simp [hO.act i a ha], hO.stk.imp fun l hl => by simp [hl], by simp [hO.glob], by simp [hO.funs], by simp [hO.clss], fun i c hc => by simp [hO.cls i c hc], by simp [hO.out], by simp [hO.trc]⟩⟩
  clear hT hA hO
  rintro m st - - ⟨i, V, rfl, hi, hres, hw', hn', ha', h0', hbV, t0, t1, t4, hp4, t5, t6, hO⟩
  clear hrun h0 hn hw hc hcE ha
  obtain ⟨d, hd⟩ : ∃ d, V.acts[a]? = some d := ⟨_, List.getElem?_eq_getElem ha'⟩
  obtain ⟨_, hdE⟩ := List.getElem?_eq_some_iff.1 hd
  have hdb : d.blk = c.blk := by rw [← blk_at hd]; exact hbV
  have hT := hO.top
  have hA := hO.acts
  simp only [wRow] at hT
  by_cases hil : i < k.body.length
  case neg =>
    have hge : i = k.body.length := by omega
    rw [hge, List.drop_length] at hres
    simp only [bodyW] at hres
    have fx := And.intro t0 <| And.intro t1 <| And.intro t4 <| And.intro hp4 <| And.intro t5 <| And.intro t6 <| hil
    refine k_run ?_
    repeat ((first | refine w_sch (id := 1) (.q 0 <| .q 1 <| .q 2 <| .q 3 <| .q 4 <| .q 5 <| .q 6 <| .q 7 <| .q 8 <| .q 9 <| .q 10 <| .q 11 <| .q 12 <| .q 13 <| .q 14 <| .q 15 <| .l 16 [] <| .done) mixed (by kernel_rfl) (by kernel_rfl) ?_ | refine w_sch (id := 9) (.q 0 <| .q 1 <| .q 2 <| .q 3 <| .q 4 <| .q 5 <| .q 6 <| .q 7 <| .q 8 <| .q 9 <| .q 10 <| .q 11 <| .q 12 <| .q 13 <| .q 14 <| .l 15 [13, 12, 11, 10, 9, 8, 7, 6, 5, 4, 3, 2, 1, 0] <| .l 16 [13, 12, 11, 10, 9, 8, 7, 6, 5, 3, 2, 1, 0] <| .q 17 <| .q 18 <| .l 19 [17] <| .done) mixed (by kernel_rfl) (by kernel_rfl) ?_); refine k_rund ?_; refine k_run ?_)
    clear fx
    rw [hres]
    refine e_ret [] .nil (by simp [t4]; rfl) ⟨by simp, ⟨by simp [hO.top, wRow], by simp [hO.acts], fun i a ha => by simp [hO.act i a ha], hO.stk.imp fun l hl => by simp [hl], by simp [hO.glob], by simp [hO.funs], by simp [hO.clss], fun i c hc => by simp [hO.cls i c hc], by simp [hO.out], by simp [hO.trc]⟩⟩
  obtain ⟨s, hs⟩ : ∃ s, k.body[i]? = some s := ⟨_, List.getElem?_eq_getElem hil⟩
  obtain ⟨_, hsE⟩ := List.getElem?_eq_some_iff.1 hs
  have hsm := List.mem_of_getElem? hs
  have hdr : k.body.drop i = s :: k.body.drop (i + 1) := by rw [List.drop_eq_getElem_cons hil, hsE]
  rw [hdr] at hres
  by_cases hl : V.left = 0
  · have hr2 : bodyW p (runW p n) a V i (s :: k.body.drop (i + 1)) = ({ V with en := 1 }, (0, 0)) := by simp only [bodyW, hl, if_true]
    rw [hr2] at hres
    have fx := And.intro t0 <| And.intro t1 <| And.intro t4 <| And.intro hp4 <| And.intro t5 <| And.intro t6 <| And.intro hil <| And.intro hT <| hl
    refine k_run ?_
    repeat ((first | refine w_sch (id := 1) (.q 0 <| .q 1 <| .q 2 <| .q 3 <| .q 4 <| .q 5 <| .q 6 <| .q 7 <| .q 8 <| .q 9 <| .q 10 <| .q 11 <| .q 12 <| .q 13 <| .q 14 <| .q 15 <| .l 16 [] <| .done) mixed (by kernel_rfl) (by kernel_rfl) ?_ | refine w_sch (id := 9) (.q 0 <| .q 1 <| .q 2 <| .q 3 <| .q 4 <| .q 5 <| .q 6 <| .q 7 <| .q 8 <| .q 9 <| .q 10 <| .q 11 <| .q 12 <| .q 13 <| .q 14 <| .l 15 [13, 12, 11, 10, 9, 8, 7, 6, 5, 4, 3, 2, 1, 0] <| .l 16 [13, 12, 11, 10, 9, 8, 7, 6, 5, 3, 2, 1, 0] <| .q 17 <| .q 18 <| .l 19 [17] <| .done) mixed (by kernel_rfl) (by kernel_rfl) ?_); refine k_rund ?_; refine k_run ?_)
    clear fx
    rw [hres]
    refine e_ret [] .nil (by simp [t4]; rfl) ⟨by simp, ⟨by simp [hO.top, wRow, hT, hl], by simp [hO.acts, hT, hl], fun i a ha => by simp [hO.act i a ha, hT, hl], hO.stk.imp fun l hl => by simp [hl, hT, hl], by simp [hO.glob, hT, hl], by simp [hO.funs, hT, hl], by simp [hO.clss, hT, hl], fun i c hc => by simp [hO.cls i c hc, hT, hl], by simp [hO.out, hT, hl], by simp [hO.trc, hT, hl]⟩⟩
  obtain ⟨l, hll⟩ : ∃ l, V.left = l + 1 := ⟨V.left - 1, by omega⟩
  have hr2 : bodyW p (runW p n) a V i (s :: k.body.drop (i + 1)) = if s.kind = 8 then loadW p (tickW V a i) a s.a else if (stmW p (runW p n) (tickW V a i) a s).en ≠ 0 then (stmW p (runW p n) (tickW V a i) a s, (0, 0)) else bodyW p (runW p n) a (stmW p (runW p n) (tickW V a i) a s) (i + 1) (k.body.drop (i + 1)) := by
    simp only [bodyW, hl, if_false]
  rw [hr2] at hres
  clear hr2
  obtain ⟨tk1, tk2⟩ := tickW_ok (a := a) (i := i) hw' hl
  have hTt : tickW V a i = { V with left := l, trace := V.trace ++ [(d.blk, i)] } := by simp only [tickW, blk_at hd]; rw [hll]; rfl
  have hbV2 : (tickW V a i).blk a = d.blk := by rw [show (tickW V a i).blk a = V.blk a from rfl, blk_at hd]
  have hleft : (tickW V a i).left < n := by simp only [tickW]; omega
  have hTr := hO.trc
  have hnt := hw'.ntr
  have hnl := hw'.nacts
  have htl' : V.trace.length ≤ 1000 := by omega
  have hl8 : l ≤ 1000 := by omega
  have hlb : ((l : Int) + 1 == 0) = false := by rw [beq_eq_false_iff_ne]; omega
  have hwl : IntKind.i64.wrap (l : Int) = l := wrp (by omega) (by omega)
  have hap : nrows V.trace ++ [[iv d.blk, iv i]] = nrows (V.trace ++ [(d.blk, i)]) := nrows_app1
  by_cases h8 : s.kind = 8
  · rw [if_pos h8] at hres
    have hb8 : (s.kind == 8) = true := by simpa using h8
    have hrs := (hP.sh.names k (List.mem_of_getElem? hk)).reads s hsm s.a (by simp [Stm.reads, h8])
    obtain ⟨x, hx⟩ : ∃ x : Nat, s.a = x := ⟨s.a.toNat, by omega⟩
    rw [hx] at hres
    have fx := And.intro t0 <| And.intro t1 <| And.intro t4 <| And.intro hp4 <| And.intro t5 <| And.intro t6 <| And.intro hil <| And.intro hT <| And.intro hll <| And.intro hlb <| And.intro hwl <| And.intro hTr <| And.intro htl' <| And.intro hA <| And.intro hd <| And.intro hdE <| And.intro ha' <| And.intro hs <| And.intro hsE <| And.intro hb8 <| hx
    refine k_run ?_
    repeat ((first | refine w_sch (id := 1) (.q 0 <| .q 1 <| .q 2 <| .q 3 <| .q 4 <| .q 5 <| .q 6 <| .q 7 <| .q 8 <| .q 9 <| .q 10 <| .q 11 <| .q 12 <| .q 13 <| .q 14 <| .q 15 <| .l 16 [] <| .done) mixed (by kernel_rfl) (by kernel_rfl) ?_ | refine w_sch (id := 9) (.q 0 <| .q 1 <| .q 2 <| .q 3 <| .q 4 <| .q 5 <| .q 6 <| .q 7 <| .q 8 <| .q 9 <| .q 10 <| .q 11 <| .q 12 <| .q 13 <| .q 14 <| .l 15 [13, 12, 11, 10, 9, 8, 7, 6, 5, 4, 3, 2, 1, 0] <| .l 16 [13, 12, 11, 10, 9, 8, 7, 6, 5, 3, 2, 1, 0] <| .q 17 <| .q 18 <| .l 19 [17] <| .done) mixed (by kernel_rfl) (by kernel_rfl) ?_); refine k_rund ?_; refine k_run ?_)
    clear fx
    intro K hK
    have fx := And.intro t0 (And.intro t1 hT)
    refine x_mut Wn rfl (by simp [hT]) (hF := load_fn _ _ p (tickW V a i) a x hP.sh tk1 ha' (by omega) (by rw [hTt]; exact ⟨by simp [wRow, hT], by simp [hO.acts], fun j b hb => by simp [hO.act j b hb], hO.stk.imp fun l hl => by simp [hl], by simp [hO.glob], by simp [hO.funs], by simp [hO.clss], fun j b hb => by simp [hO.cls j b hb], by simp [hO.out], by simp [← hap]⟩)) (h := ?_)
    rintro y H1 ⟨rfl, hO1⟩
    clear fx
    generalize loadW p (tickW V a i) a x = q at hO1 hres
    obtain ⟨U, v1, v2⟩ := q
    have hT1 := hO1.top
    simp only [wRow] at hT1
    have fx := And.intro t0 <| And.intro t1 <| And.intro t4 <| And.intro hp4 <| And.intro t5 <| And.intro t6 <| And.intro hT <| hT1
    refine k_run ?_
    repeat ((first | refine w_sch (id := 1) (.q 0 <| .q 1 <| .q 2 <| .q 3 <| .q 4 <| .q 5 <| .q 6 <| .q 7 <| .q 8 <| .q 9 <| .q 10 <| .q 11 <| .q 12 <| .q 13 <| .q 14 <| .q 15 <| .l 16 [] <| .done) mixed (by kernel_rfl) (by kernel_rfl) ?_ | refine w_sch (id := 9) (.q 0 <| .q 1 <| .q 2 <| .q 3 <| .q 4 <| .q 5 <| .q 6 <| .q 7 <| .q 8 <| .q 9 <| .q 10 <| .q 11 <| .q 12 <| .q 13 <| .q 14 <| .l 15 [13, 12, 11, 10, 9, 8, 7, 6, 5, 4, 3, 2, 1, 0] <| .l 16 [13, 12, 11, 10, 9, 8, 7, 6, 5, 3, 2, 1, 0] <| .q 17 <| .q 18 <| .l 19 [17] <| .done) mixed (by kernel_rfl) (by kernel_rfl) ?_); refine k_rund ?_; refine k_run ?_)
    clear fx
    rw [hres]
    refine e_ret [] .nil (by simp [t4]; rfl) ⟨by simp, ⟨by simp [hO1.top, wRow], by simp [hO1.acts], fun i a ha => by simp [hO1.act i a ha], hO1.stk.imp fun l hl => by simp [hl], by simp [hO1.glob], by simp [hO1.funs], by simp [hO1.clss], fun i c hc => by simp [hO1.cls i c hc], by simp [hO1.out], by simp [hO1.trc]⟩⟩
  · rw [if_neg h8] at hres
    have hb8 : (s.kind == 8) = false := by simpa using h8
    have hk' : p[(tickW V a i).blk a]? = some k := by rw [hbV2, hdb]; exact hk
    have hst := hP.sh.stm _ k hk s hsm
    have hSo := stmW_ok (s := s) (k := k) (runW_ok hP.sh n) tk1 hleft h0' ha' (by rw [hbV2, hdb]; exact hst) tk2
    have fx := And.intro t0 <| And.intro t1 <| And.intro t4 <| And.intro hp4 <| And.intro t5 <| And.intro t6 <| And.intro hil <| And.intro hT <| And.intro hll <| And.intro hlb <| And.intro hwl <| And.intro hTr <| And.intro htl' <| And.intro hA <| And.intro hd <| And.intro hdE <| And.intro ha' <| And.intro hs <| And.intro hsE <| hb8
    refine k_run ?_
    repeat ((first | refine w_sch (id := 1) (.q 0 <| .q 1 <| .q 2 <| .q 3 <| .q 4 <| .q 5 <| .q 6 <| .q 7 <| .q 8 <| .q 9 <| .q 10 <| .q 11 <| .q 12 <| .q 13 <| .q 14 <| .q 15 <| .l 16 [] <| .done) mixed (by kernel_rfl) (by kernel_rfl) ?_ | refine w_sch (id := 9) (.q 0 <| .q 1 <| .q 2 <| .q 3 <| .q 4 <| .q 5 <| .q 6 <| .q 7 <| .q 8 <| .q 9 <| .q 10 <| .q 11 <| .q 12 <| .q 13 <| .q 14 <| .l 15 [13, 12, 11, 10, 9, 8, 7, 6, 5, 4, 3, 2, 1, 0] <| .l 16 [13, 12, 11, 10, 9, 8, 7, 6, 5, 3, 2, 1, 0] <| .q 17 <| .q 18 <| .l 19 [17] <| .done) mixed (by kernel_rfl) (by kernel_rfl) ?_); refine k_rund ?_; refine k_run ?_)
    clear fx
    intro K hK
    have fx := And.intro t0 (And.intro t1 hT)
    refine x_mut Wn rfl (by simp [hT]) (hF := runStmt_fn gl p n hR _ (tickW V a i) a k s hP tk1 hleft h0' ha' hk' hsm h8 tk2 (by rw [hTt]; exact ⟨by simp [wRow, hT], by simp [hO.acts], fun j b hb => by simp [hO.act j b hb], hO.stk.imp fun l hl => by simp [hl], by simp [hO.glob], by simp [hO.funs], by simp [hO.clss], fun j b hb => by simp [hO.cls j b hb], by simp [hO.out], by simp [← hap]⟩) (by simp)) (h := ?_)
    rintro y H1 hO1
    clear fx
    have hAf := hSo.tick hl
    generalize stmW p (runW p n) (tickW V a i) a s = U at hO1 hAf hres hSo
    have hT1 := hO1.top
    simp only [wRow] at hT1
    by_cases hen : U.en = 0
    · rw [if_neg (by simpa using hen)] at hres
      have henb : (U.en == 0) = true := by simpa using hen
      have fx := And.intro t0 <| And.intro t1 <| And.intro t4 <| And.intro hp4 <| And.intro t5 <| And.intro t6 <| And.intro hT <| And.intro hT1 <| And.intro henb <| @bne_def
      refine k_run ?_
      repeat ((first | refine w_sch (id := 1) (.q 0 <| .q 1 <| .q 2 <| .q 3 <| .q 4 <| .q 5 <| .q 6 <| .q 7 <| .q 8 <| .q 9 <| .q 10 <| .q 11 <| .q 12 <| .q 13 <| .q 14 <| .q 15 <| .l 16 [] <| .done) mixed (by kernel_rfl) (by kernel_rfl) ?_ | refine w_sch (id := 9) (.q 0 <| .q 1 <| .q 2 <| .q 3 <| .q 4 <| .q 5 <| .q 6 <| .q 7 <| .q 8 <| .q 9 <| .q 10 <| .q 11 <| .q 12 <| .q 13 <| .q 14 <| .l 15 [13, 12, 11, 10, 9, 8, 7, 6, 5, 4, 3, 2, 1, 0] <| .l 16 [13, 12, 11, 10, 9, 8, 7, 6, 5, 3, 2, 1, 0] <| .q 17 <| .q 18 <| .l 19 [17] <| .done) mixed (by kernel_rfl) (by kernel_rfl) ?_); refine k_rund ?_; refine k_run ?_)
      clear fx
      exact ⟨k.body.length - (i + 1), by omega, i + 1, U, rfl, by omega, hres, hAf.ok, by have := hAf.grow.left; omega, Nat.lt_of_lt_of_le ha' hAf.grow.lacts, hen, by rw [hAf.grow.blk hd]; exact hbV, by simp [t0, hT], by simp [t1], by simp [t4], by simp [hp4], by simp [t5], by simp [t6]; exact wrp (by omega) (by omega), ⟨by simp [hO1.top, wRow], by simp [hO1.acts], fun i a ha => by simp [hO1.act i a ha], hO1.stk.imp fun l hl => by simp [hl], by simp [hO1.glob], by simp [hO1.funs], by simp [hO1.clss], fun i c hc => by simp [hO1.cls i c hc], by simp [hO1.out], by simp [hO1.trc]⟩⟩
    · rw [if_pos (by simpa using hen)] at hres
      have henb : (U.en == 0) = false := by simpa using hen
      have fx := And.intro t0 <| And.intro t1 <| And.intro t4 <| And.intro hp4 <| And.intro t5 <| And.intro t6 <| And.intro hT <| And.intro hT1 <| And.intro henb <| @bne_def
      refine k_run ?_
      repeat ((first | refine w_sch (id := 1) (.q 0 <| .q 1 <| .q 2 <| .q 3 <| .q 4 <| .q 5 <| .q 6 <| .q 7 <| .q 8 <| .q 9 <| .q 10 <| .q 11 <| .q 12 <| .q 13 <| .q 14 <| .q 15 <| .l 16 [] <| .done) mixed (by kernel_rfl) (by kernel_rfl) ?_ | refine w_sch (id := 9) (.q 0 <| .q 1 <| .q 2 <| .q 3 <| .q 4 <| .q 5 <| .q 6 <| .q 7 <| .q 8 <| .q 9 <| .q 10 <| .q 11 <| .q 12 <| .q 13 <| .q 14 <| .l 15 [13, 12, 11, 10, 9, 8, 7, 6, 5, 4, 3, 2, 1, 0] <| .l 16 [13, 12, 11, 10, 9, 8, 7, 6, 5, 3, 2, 1, 0] <| .q 17 <| .q 18 <| .l 19 [17] <| .done) mixed (by kernel_rfl) (by kernel_rfl) ?_); refine k_rund ?_; refine k_run ?_)
      clear fx
      rw [hres]
      refine e_ret [] .nil (by simp [t4]; rfl) ⟨by simp, ⟨by simp [hO1.top, wRow], by simp [hO1.acts], fun i a ha => by simp [hO1.act i a ha], hO1.stk.imp fun l hl => by simp [hl], by simp [hO1.glob], by simp [hO1.funs], by simp [hO1.clss], fun i c hc => by simp [hO1.cls i c hc], by simp [hO1.out], by simp [hO1.trc]⟩⟩
theorem runBlock_fn (gl) (p : Prg) (hP : ValP p) : ∀ n, RBok gl p n
  | 0 => fun H W a _ _ h => absurd h (by omega)
  | n + 1 => runBlock_step gl p n (runBlock_fn gl p hP n) hP
end Go.Proofs.YtcbkblboonkfhaaGreat
end

section
set_option maxRecDepth 100000
set_option maxHeartbeats 4000000
set_option linter.unusedSimpArgs false
namespace Go.Proofs.YtcbkblboonkfhaaGreat
open Go Go.Hm Go.Proofs
theorem validFuel_fn (gl) (p : Prg) (f : Int) (hs : Sml p) : FnOk Tryz.prog gl 49 [pav p, iv f] (fun _ y _ => y = bv (fuelOk p f)) := by
  refine FnOk.of_sem Tryz.func49 rfl (by kernel_rfl) (rs := [.tmp 4]) rfl Tryz.ntmps49 (Nat.le_of_ble_eq_true rfl) fun C w g root => ?_
  cases hv : progOk p
  · skip
    have fx :=  hv
    have c1 := hv ▸ validProgram_fn gl p hs
    refine k_run ?_
    clear fx c1
    refine e_ret [] .nil (by simp; rfl) (by simp [fuelOk, hv])
  · skip
    have fx :=  hv
    have c1 := hv ▸ validProgram_fn gl p hs
    have c2 := inRange_fn gl f 0 150
    refine k_run ?_
    clear fx c1 c2
    refine e_ret [] .nil (by simp; rfl) (by simp [fuelOk, hv])
theorem meant_fn (gl) (H : Nm → Option AO) (p : Prg) (f : Nat) (hP : ValP p) (hf : f ≤ 150) (h1 : H (.u 1 0 0) = none) :
    FnE Tryz.prog gl 50 (Nm.under Wn) [pav p, iv f] H (fun _ y H' => y = .pt Wn 0 ∧ OwnW H' p (meantW p f)) noE := by
  have hw := startW_ok hP.sh hf
  refine FnE.of_sem Tryz.func50 rfl (by kernel_rfl) (rs := [.tmp 4]) rfl Tryz.ntmps50 (Nat.le_of_ble_eq_true rfl) (fun _ => under_usroot rfl) fun C w g root hroot => ?_
  have fx := fx0
  have d1 := emptySlots_fn gl
  refine k_run ?_
  repeat ((first | refine w_sch (id := 1) (.q 0 <| .q 2 <| .l 1 [2, 0] <| .q 3 <| .l 4 [2, 0] <| .l 5 [] <| .done) mixed (by kernel_rfl) (by kernel_rfl) ?_); refine k_rund ?_; refine k_run ?_)
  clear fx d1
  intro K hK
  refine o_mv (.s 5) (.u 1 0 0) (.inl rfl) (.inr (by simp [ctx0, h1])) ?_
  have fx := fx0
  refine x_mut Wn rfl (by simp) (hF := runBlock_fn gl p hP 151 _ (startW f) 0 ?_ hw (by simp only [startW]; omega) (by simp [startW]) rfl (by simp)) (h := ?_)
  · have e1 : irows (nints [0] ++ []) = [[iv 0]] := rfl
    have hsl : slrows noSlots = slrows (startW f).globals := rfl
    refine ⟨by simp [wRow, startW], by simp [startW, actRows, outI], fun i a ha => ?_, ⟨[], by simp [startW, nints, irows]⟩, by simp [startW], by simp [startW, funRows], by simp [startW, clsRows], fun i c hc => by simp [startW] at hc, by simp [startW], by simp [startW]⟩
    have hi : i = 0 := by
      have := (List.getElem?_eq_some_iff.1 ha).1
      simp [startW] at this
      omega
    subst hi
    have ha' : a = ⟨0, 0, noSlots⟩ := by simpa [startW] using ha.symm
    subst ha'
    simp
  rintro y H1 ⟨rfl, hO1⟩
  clear fx
  have hT1 := hO1.top
  simp only [wRow] at hT1
  have hme : (runW p 151 (startW f) 0).1 = meantW p f := rfl
  rw [hme] at hO1 hT1
  have fx :=  hT1
  refine k_run ?_
  repeat ((first | refine w_sch (id := 1) (.q 0 <| .q 2 <| .l 1 [2, 0] <| .q 3 <| .l 4 [2, 0] <| .l 5 [] <| .done) mixed (by kernel_rfl) (by kernel_rfl) ?_); refine k_rund ?_; refine k_run ?_)
  clear fx
  refine e_ret [] .nil (by simp; rfl) ⟨by simp, ⟨by simp [hO1.top, wRow], by simp [hO1.acts], fun i a ha => by simp [hO1.act i a ha], hO1.stk.imp fun l hl => by simp [hl], by simp [hO1.glob], by simp [hO1.funs], by simp [hO1.clss], fun i c hc => by simp [hO1.cls i c hc], by simp [hO1.out], by simp [hO1.trc]⟩⟩
end Go.Proofs.YtcbkblboonkfhaaGreat
end

section
set_option maxRecDepth 100000
set_option maxHeartbeats 4000000
set_option linter.unusedSimpArgs false
namespace Go.Proofs.YtcbkblboonkfhaaGreat
open Go Go.Hm Go.Proofs
theorem spec_DeepestRun_fn (gl) (p : Prg) (f : Int) (hs : Sml p) : FnOk Tryz.prog gl 11 [pav p, iv f] (fun _ y _ => y = iv (deepG p f)) := by
  refine FnOk.of_sem Tryz.func11 rfl (by kernel_rfl) (rs := [.tmp 4]) rfl Tryz.ntmps11 (Nat.le_of_ble_eq_true rfl) fun C w g root => ?_
  cases hv : fuelOk p f
  · skip
    have fx :=  hv
    have c1 := hv ▸ validFuel_fn gl p f hs
    refine k_run ?_
    clear fx c1
    refine e_ret [] .nil (by simp; rfl) (by simp [deepG, hv])
  · obtain ⟨hpo, n, rfl, hn⟩ := fuelOk_of hv
    have hP := ValP.of hs hpo
    have hG : deepG p n = deepN p (n + 1) := by simp [deepG, hv]
    rw [hG]
    have fx :=  hv
    have c1 := hv ▸ validFuel_fn gl p n hs
    refine k_run ?_
    clear fx c1
    refine w_loop (fun m st => ∃ i : Nat, m = n + 1 - i ∧ i ≤ n + 1 ∧ st.tm 1 = iv n ∧ st.tm 2 = .pt (.s 2) 0 ∧ st.hp (.s 2) = some (.row 1 [[ksl p]]) ∧ st.tm 6 = iv i ∧ st.tm 5 = iv (deepN p i)) (n + 1) ⟨0, by simp [deepN]⟩ ?_
    rintro m st - - ⟨i, rfl, hi, h1, h2, hp2, h6, h5⟩
    refine w_forget (Nm.under Wn) ?_
    refine w_abs (fun st => st.tm 1 = iv n ∧ st.tm 2 = .pt (.s 2) 0 ∧ st.hp (.s 2) = some (.row 1 [[ksl p]]) ∧ st.tm 6 = iv i ∧ st.tm 5 = iv (deepN p i) ∧ st.hp (.u 1 0 0) = none) ⟨by simp [h1], by simp [h2], by simp [hp2], by simp [h6], by simp [h5], by simp⟩ ?_
    clear h1 h2 hp2 h6 h5
    rintro st ⟨h1, h2, hp2, h6, h5, hU⟩
    by_cases hil : i ≤ n
    · have hle : (i : Int) ≤ n := by omega
      have hm := meantOk hP.sh (show i ≤ 150 by omega)
      have fx := And.intro h1 <| And.intro h2 <| And.intro hp2 <| And.intro h6 <| And.intro h5 <| hle
      refine k_run ?_
      clear fx
      intro K hK
      have fx := And.intro h1 (And.intro h2 (And.intro hp2 (And.intro h6 h5)))
      refine x_mut Wn rfl (by simp [ctx0, noH]) (hF := meant_fn gl _ p i hP (by omega) (by simp [hU])) (h := ?_)
      rintro y H1 ⟨rfl, hO1⟩
      clear fx
      have hT1 := hO1.top
      simp only [wRow] at hT1
      have fx := And.intro hT1 <| And.intro h1 <| And.intro h2 <| And.intro hp2 <| And.intro h6 <| h5
      refine k_run ?_
      clear fx
      have fx := And.intro hT1 h5
      refine x_max (i := (deepN p i : Int)) (j := ((meantW p i).stack.length : Int)) (deepN p (i + 1) : Nat) (by simp only [deepN]; omega) (h := ?_)
      clear fx
      have fx := And.intro hT1 <| And.intro h1 <| And.intro h2 <| And.intro hp2 <| And.intro h6 <| h5
      refine k_run ?_
      clear fx
      exact ⟨n + 1 - (i + 1), by omega, i + 1, rfl, by omega, by simp [h1], by simp [h2], by simp [hp2], by simp [h6]; exact wrp (by omega) (by omega), by simp⟩
    · obtain rfl : i = n + 1 := by omega
      have hlt : (n : Int) < (n : Int) + 1 := by omega
      have fx := And.intro h1 <| And.intro h2 <| And.intro hp2 <| And.intro h6 <| And.intro h5 <| hlt
      refine k_run ?_
      clear fx
      refine e_ret [] .nil (by simp; rfl) (by simp)
theorem impl_DeepestRun_fn (gl) (p : Prg) (f : Int) (hs : Sml p) : FnOk Tryz.prog gl 13 [pav p, iv f] (fun _ y _ => y = iv (deepG p f)) := by
  refine FnOk.of_sem Tryz.func13 rfl (by kernel_rfl) (rs := [.tmp 4]) rfl Tryz.ntmps13 (Nat.le_of_ble_eq_true rfl) fun C w g root => ?_
  cases hv0 : progOk p
  · have hv : fuelOk p f = false := by simp [fuelOk, hv0]
    have fx :=  hv0
    have c1 := hv0 ▸ impl_ValidProgram_fn gl p hs
    refine k_run ?_
    clear fx c1
    refine e_ret [] .nil (by simp; rfl) (by simp [deepG, hv])
  cases hv : fuelOk p f
  · have hf : (decide (0 ≤ f) && decide (f ≤ 150)) = false := by simpa [fuelOk, hv0] using hv
    have fx := And.intro hv0 <| hf
    have c1 := hv0 ▸ impl_ValidProgram_fn gl p hs
    have c2 := hf ▸ isFuel_fn gl f
    refine k_run ?_
    clear fx c1 c2
    refine e_ret [] .nil (by simp; rfl) (by simp [deepG, hv])
  · obtain ⟨hpo, n, rfl, hn⟩ := fuelOk_of hv
    have hP := ValP.of hs hpo
    have hf : (decide (0 ≤ (n : Int)) && decide ((n : Int) ≤ 150)) = true := by simpa [fuelOk, hv0] using hv
    have hG : deepG p n = deepN p (n + 1) := by simp [deepG, hv]
    rw [hG]
    have hw : IntKind.i64.wrap ((n : Int) + 1) = (n + 1 : Nat) := by rw [wrp (by omega) (by omega)]; omega
    have fx := And.intro hv0 <| And.intro hf <| hw
    have c1 := hv0 ▸ impl_ValidProgram_fn gl p hs
    have c2 := hf ▸ isFuel_fn gl n
    refine k_run ?_
    clear fx c1 c2
    refine w_loop (fun m st => ∃ i : Nat, m = n + 1 - i ∧ i ≤ n + 1 ∧ st.tm 2 = .pt (.s 2) 0 ∧ st.hp (.s 2) = some (.row 1 [[ksl p]]) ∧ st.tm 16 = iv (n + 1 : Nat) ∧ st.tm 17 = iv i ∧ st.tm 5 = iv (deepN p i)) (n + 1) ⟨0, by simp [deepN]⟩ ?_
    rintro m st - - ⟨i, rfl, hi, h2, hp2, h16, h17, h5⟩
    refine w_forget DM ?_
    refine w_abs (fun st => st.tm 2 = .pt (.s 2) 0 ∧ st.hp (.s 2) = some (.row 1 [[ksl p]]) ∧ st.tm 16 = iv (n + 1 : Nat) ∧ st.tm 17 = iv i ∧ st.tm 5 = iv (deepN p i) ∧ ∀ k i j, dsub DM st.hp (.u k i j) = none) ⟨by simp [h2], by simp [hp2], by simp [h16], by simp [h17], by simp [h5], fun k i j => ?_⟩ ?_
    · rw [dsub_eq]
      split
      · rename_i hd
        simp [hd]
      · rfl
    clear h2 hp2 h16 h17 h5
    rintro st ⟨h2, hp2, h16, h17, h5, hU⟩
    by_cases hil : i < n + 1
    · have hlt : (i : Int) < (n : Int) + 1 := by omega
      have hm := meantOk hP.sh (show i ≤ 150 by omega)
      have fx := And.intro h2 <| And.intro hp2 <| And.intro h16 <| And.intro h17 <| And.intro h5 <| hlt
      refine k_run ?_
      clear fx
      intro K hK
      have fx := And.intro h2 (And.intro hp2 (And.intro h16 (And.intro h17 h5)))
      refine x_mutM (fun k i j he => by simp [ctx0, noH] at he) (hF := meaningOf_fn gl _ p i hP (by omega) hU) (h := ?_)
      rintro y H1 ⟨rfl, hO1⟩
      clear fx
      have hT1 := hO1.top
      simp only [mRow] at hT1
      have fx := And.intro hT1 <| And.intro h2 <| And.intro hp2 <| And.intro h16 <| And.intro h17 <| h5
      refine k_run ?_
      clear fx
      have fx := And.intro hT1 h5
      refine x_max (i := (deepN p i : Int)) (j := ((meantW p i).stack.length : Int)) (deepN p (i + 1) : Nat) (by simp only [deepN]; omega) (h := ?_)
      clear fx
      have fx := And.intro hT1 <| And.intro h2 <| And.intro hp2 <| And.intro h16 <| And.intro h17 <| h5
      refine k_run ?_
      clear fx
      exact ⟨n + 1 - (i + 1), by omega, i + 1, rfl, by omega, by simp [h2], by simp [hp2], by simp [h16], by simp [h17]; exact wrp (by omega) (by omega), by simp⟩
    · obtain rfl : i = n + 1 := by omega
      have hlt : ¬ n + 1 < n + 1 := by omega
      have fx := And.intro h2 <| And.intro hp2 <| And.intro h16 <| And.intro h17 <| And.intro h5 <| hlt
      refine k_run ?_
      clear fx
      refine e_ret [] .nil (by simp; rfl) (by simp)
end Go.Proofs.YtcbkblboonkfhaaGreat
end
