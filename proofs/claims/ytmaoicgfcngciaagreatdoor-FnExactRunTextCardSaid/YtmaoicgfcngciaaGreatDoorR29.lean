/-
  Own texts, joined by mkclaim.py: Pa, Pb, Pc, Pd.
-/
import Derived.Test.YtmaoicgfcngciaaGreatDoorR23
import Derived.Test.YtmaoicgfcngciaaGreatDoorR14
set_option linter.unusedSimpArgs false
set_option linter.unusedVariables false
set_option maxRecDepth 100000
set_option maxHeartbeats 4000000

section
namespace Go.Proofs.YtmaoicgfcngciaaGreatDoor
open Go Go.Hm Go.Proofs
abbrev qsPa0 : Sch := .q 0 <| .q 1 <| .q 2 <| .q 3 <| .q 4 <| .q 5 <| .q 6 <| .q 7 <| .q 8 <| .q 9 <| .q 10 <| .q 11 <| .q 12 <| .l 13 [10, 9, 8, 7, 6, 5, 4, 2, 1, 0] <| .l 14 [] <| .done
abbrev qsPa1 : Sch := .q 0 <| .q 1 <| .q 2 <| .q 3 <| .q 4 <| .q 5 <| .q 6 <| .l 7 [6, 5, 4, 3, 2, 1] <| .l 8 [] <| .done
abbrev qsPa2 : Sch := .q 0 <| .q 1 <| .q 2 <| .q 3 <| .q 4 <| .q 5 <| .q 6 <| .q 7 <| .q 8 <| .q 9 <| .q 10 <| .l 11 [10, 9, 8, 7, 6, 5, 4, 3, 2, 1] <| .l 12 [] <| .done
theorem spec_shown_fn (gl) (v : Val) : FnOk Tryz.prog gl 192 [Val.av v] (fun _ y _ => y = iv (Hm.shown v)) := by
  refine FnOk.of_sem Tryz.func192 rfl (by kernel_rfl) (rs := [.tmp 2]) rfl Tryz.ntmps192 (Nat.le_of_ble_eq_true rfl) fun C w g root => ?_
  by_cases h1 : v.1 = 1
  · skip
    have fx :=  h1
    refine k_run ?_
    clear fx
    refine e_ret [] .nil (by simp; rfl) (by simp [Hm.shown, h1])
  by_cases h2 : v.1 = 2
  · skip
    have fx := And.intro h1 <| h2
    refine k_run ?_
    clear fx
    refine e_ret [] .nil (by simp; rfl) (by simp [Hm.shown, h1, h2])
  by_cases h3 : v.1 = 3
  · skip
    have fx := And.intro h1 <| And.intro h2 <| h3
    refine k_run ?_
    clear fx
    refine e_ret [] .nil (by simp; rfl) (by simp [Hm.shown, h1, h2, h3])
  · skip
    have fx := And.intro h1 <| And.intro h2 <| h3
    refine k_run ?_
    clear fx
    refine e_ret [] .nil (by simp; rfl) (by simp [Hm.shown, h1, h2, h3])
theorem slotOf_fn (gl) (H : Nm → Option AO) (p : Prg) (W : Wld) (a x : Nat) (hP : ShapeP p) (hw : WOk p W) (ha : a < W.acts.length) (hx : x < 8) (hO : OwnW H p W) :
    FnE Tryz.prog gl 187 (Nm.under Wn) [.pt Wn 0, iv a, iv x] H (fun _ y H' => y = .tup [iv (owner p (W.blk a) x), .ep (locN (W.loc p a x)) 3 x 0] ∧ OwnW H' p W) noE := by
  have hh := hP.heads
  have hxi : (x : Int) < 8 := by omega
  have hlen := hw.nacts
  obtain ⟨c, hc⟩ : ∃ c, W.acts[a]? = some c := ⟨_, gE ha⟩
  obtain ⟨_, hcE⟩ := gS hc
  have hbl := hw.blks a c hc
  obtain ⟨k, hk⟩ : ∃ k, p[c.blk]? = some k := ⟨_, gE hbl⟩
  have hbk := blk_at hc
  have hT := hO.top
  have hA := hO.acts
  have hG := hO.glob
  have hgl := hw.glob.1
  simp only [wRow] at hT
  refine FnE.of_sem Tryz.func187 rfl (by kernel_rfl) (rs := [.tmp 6, .tmp 7]) rfl Tryz.ntmps187 (Nat.le_of_ble_eq_true rfl) (fun _ => under_usroot rfl) fun C w g root hroot => ?_
  rcases loc_spec (x := (x : Int)) hh hw ha with ⟨h1, h2⟩ | ⟨o, i, d, ho, h1, h2, h3, hd, hdb, hins⟩
  · rw [hbk] at h1
    have h0 : owner p c.blk x < 0 := by omega
    have fx := And.intro hT <| And.intro hA <| And.intro hc <| And.intro hcE <| And.intro ha <| And.intro h1 <| And.intro hG <| And.intro hgl <| And.intro hx <| And.intro hxi <| h0
    have c1 := owner_fn gl p c.blk k x hk hP.sml hh
    refine k_run ?_
    repeat ((first | refine wSc (id := 1) qsPa0 mixed ?_ | refine wSc (id := 3) qsPa1 mixed ?_ | refine wSc (id := 6) qsPa2 mixed ?_); refine k_rund ?_; refine k_run ?_)
    clear fx c1
    refine e_ret [] .nil (by simp; rfl) ⟨by simp [hbk, h1, h2, locN], ?_⟩
    exact (have ow := hO; OwnW.re ow)
  · rw [hbk] at h1
    have h0 : ¬ (o : Int) < 0 := by omega
    have fx := And.intro hT <| And.intro hA <| And.intro hc <| And.intro hcE <| And.intro ha <| And.intro h1 <| And.intro hG <| And.intro hgl <| And.intro hx <| And.intro hxi <| h0
    have c1 := owner_fn gl p c.blk k x hk hP.sml hh
    refine k_run ?_
    repeat ((first | refine wSc (id := 1) qsPa0 mixed ?_ | refine wSc (id := 3) qsPa1 mixed ?_ | refine wSc (id := 6) qsPa2 mixed ?_); refine k_rund ?_; refine k_run ?_)
    clear fx c1
    refine w_loop (fun n st => ∃ b : Nat, n = b ∧ b < W.acts.length ∧ climb W.acts o b b = i ∧ inside p (W.blk b) o = true ∧ st.tm 0 = .pt Wn 0 ∧ st.tm 1 = iv b ∧ st.tm 2 = iv x ∧ st.tm 8 = iv o ∧ OwnW st.hp p W) a ?_ ?_
    · exact ⟨a, rfl, ha, h3.symm, hins, by simp, by simp, by simp, by simp, (have ow := hO; OwnW.re ow)⟩
    clear hT hA hG hO
    rintro n st - - ⟨b, rfl, hb, hcl, hib, h0', h1', h2', h8', hO⟩
    obtain ⟨e, he⟩ : ∃ e, W.acts[n]? = some e := ⟨_, gE hb⟩
    obtain ⟨_, heE⟩ := gS he
    have hT := hO.top
    have hA := hO.acts
    simp only [wRow] at hT
    have hV := hO.act n e he
    have hvl := (hw.vars n e he).1
    by_cases heb : e.blk = o
    · have hni : n = i := by rw [← hcl, climb_here he heb]
      subst hni
      have fx := And.intro h0' <| And.intro h1' <| And.intro h2' <| And.intro h8' <| And.intro hT <| And.intro hA <| And.intro he <| And.intro heE <| And.intro hb <| And.intro heb <| And.intro hV <| And.intro hvl <| And.intro hx <| And.intro hxi <| @bne_def
      refine k_run ?_
      repeat ((first | refine wSc (id := 1) qsPa0 mixed ?_ | refine wSc (id := 3) qsPa1 mixed ?_ | refine wSc (id := 6) qsPa2 mixed ?_); refine k_rund ?_; refine k_run ?_)
      clear fx
      refine e_ret [] .nil (by simp; rfl) ⟨by simp [hbk, h1, h2, locN], ?_⟩
      exact (have ow := hO; OwnW.re ow)
    · obtain ⟨e1, e2, e3⟩ := inside_up hh hw he heb ho hib
      have hne : ¬ ((e.blk : Int) = o) := by omega
      have hoi : outI n e = e.up := by simp only [outI]; rw [if_neg (by omega)]
      have fx := And.intro h0' <| And.intro h1' <| And.intro h2' <| And.intro h8' <| And.intro hT <| And.intro hA <| And.intro he <| And.intro heE <| And.intro hb <| And.intro hne <| And.intro hoi <| @bne_def
      refine k_run ?_
      repeat ((first | refine wSc (id := 1) qsPa0 mixed ?_ | refine wSc (id := 3) qsPa1 mixed ?_ | refine wSc (id := 6) qsPa2 mixed ?_); refine k_rund ?_; refine k_run ?_)
      clear fx
      refine ⟨e.up, by omega, e.up, rfl, by omega, ?_, e3, by simp [h0'], by simp, by simp [h2'], by simp [h8'], (have ow := hO; OwnW.re ow)⟩
      rw [← hcl, climb_up hh hw ho he heb hib]
theorem lack_fn (gl) (H : Nm → Option AO) (p : Prg) (W : Wld) (a : Nat) (o : Int) (ha : a < W.acts.length) (hw : WOk p W) (hO : OwnW H p W) :
    FnE Tryz.prog gl 188 (Nm.under Wn) [.pt Wn 0, iv a, iv o] H (fun _ y H' => y = iv (Hm.lack p (W.blk a) o) ∧ OwnW H' p W) noE := by
  have hlen := hw.nacts
  obtain ⟨c, hc⟩ : ∃ c, W.acts[a]? = some c := ⟨_, gE ha⟩
  obtain ⟨_, hcE⟩ := gS hc
  have hbl := hw.blks a c hc
  obtain ⟨k, hk⟩ : ∃ k, p[c.blk]? = some k := ⟨_, gE hbl⟩
  obtain ⟨_, hkE⟩ := gS hk
  have hbk := blk_at hc
  have hka : kindAt p c.blk = k.kind := by simp [kindAt, hk]
  have hT := hO.top
  have hA := hO.acts
  simp only [wRow] at hT
  refine FnE.of_sem Tryz.func188 rfl (by kernel_rfl) (rs := [.tmp 6]) rfl Tryz.ntmps188 (Nat.le_of_ble_eq_true rfl) (fun _ => under_usroot rfl) fun C w g root hroot => ?_
  by_cases h0 : o < 0
  · skip
    have fx := And.intro hT <| And.intro hA <| And.intro hc <| And.intro hcE <| And.intro ha <| And.intro h0 <| And.intro hk <| And.intro hkE <| hbl
    refine k_run ?_
    clear fx
    refine e_ret [] .nil (by simp; rfl) ⟨by simp [Hm.lack, h0], (have ow := hO; OwnW.re ow)⟩
  by_cases h1 : o = c.blk
  · subst h1
    by_cases h2 : k.kind = 2
    · skip
      have fx := And.intro hT <| And.intro hA <| And.intro hc <| And.intro hcE <| And.intro ha <| And.intro h0 <| And.intro h2 <| And.intro hk <| And.intro hkE <| hbl
      refine k_run ?_
      clear fx
      refine e_ret [] .nil (by simp; rfl) ⟨by simp [Hm.lack, h0, hbk, hka, h2], (have ow := hO; OwnW.re ow)⟩
    · skip
      have fx := And.intro hT <| And.intro hA <| And.intro hc <| And.intro hcE <| And.intro ha <| And.intro h0 <| And.intro h2 <| And.intro hk <| And.intro hkE <| hbl
      refine k_run ?_
      clear fx
      refine e_ret [] .nil (by simp; rfl) ⟨by simp [Hm.lack, h0, hbk, hka, h2], (have ow := hO; OwnW.re ow)⟩
  · have hb1 : (o == (c.blk : Int)) = false := by simpa using h1
    have fx := And.intro hT <| And.intro hA <| And.intro hc <| And.intro hcE <| And.intro ha <| And.intro h0 <| And.intro hb1 <| And.intro hk <| And.intro hkE <| hbl
    refine k_run ?_
    clear fx
    refine e_ret [] .nil (by simp; rfl) ⟨by simp [Hm.lack, h0, h1, hbk], (have ow := hO; OwnW.re ow)⟩
theorem globalValue_fn (gl) (H : Nm → Option AO) (p : Prg) (W : Wld) (x : Nat) (hw : WOk p W) (hx : x < 8) (hO : OwnW H p W) :
    FnE Tryz.prog gl 189 (Nm.under Wn) [.pt Wn 0, iv x] H (fun _ y H' => (match W.get none x with | some v => y = .tup [Val.av v, bv true] | none => y = .tup [Val.av (1, 70), bv (decide (x = 7))]) ∧ OwnW H' p W) noE := by
  have hT := hO.top
  have hG := hO.glob
  have hxi : (x : Int) < 8 := by omega
  simp only [wRow] at hT
  have hgl := hw.glob.1
  obtain ⟨s, hs⟩ : ∃ s, W.globals[x]? = some s := ⟨_, gE (by omega)⟩
  obtain ⟨_, hsE⟩ := gS hs
  have hget : W.get none x = s := by simp [Wld.get, Wld.vars, hs]
  refine FnE.of_sem Tryz.func189 rfl (by kernel_rfl) (rs := [.cell 4 171, .tmp 5]) rfl Tryz.ntmps189 (Nat.le_of_ble_eq_true rfl) (fun _ => under_usroot rfl) fun C w g root hroot => ?_
  cases s with
  | some v =>
    have fx := And.intro hT <| And.intro hG <| And.intro hgl <| And.intro hx <| And.intro hxi <| And.intro hs <| hsE
    refine k_run ?_
    clear fx
    refine e_ret [] .nil (by simp; rfl) ⟨by rw [hget]; simp, (have ow := hO; OwnW.re ow)⟩
  | none =>
    by_cases h7 : x = 7
    · subst h7
      have fx := And.intro hT <| And.intro hG <| And.intro hgl <| And.intro hs <| hsE
      refine k_run ?_
      clear fx
      refine e_ret [] .nil (by simp; rfl) ⟨by rw [hget]; simp, (have ow := hO; OwnW.re ow)⟩
    · have h7i : ¬ (x : Int) = 7 := by omega
      have h7b : ((x : Int) == 7) = false := by simpa using h7i
      have fx := And.intro hT <| And.intro hG <| And.intro hgl <| And.intro hx <| And.intro hxi <| And.intro hs <| And.intro hsE <| h7b
      refine k_run ?_
      clear fx
      refine e_ret [] .nil (by simp; rfl) ⟨by rw [hget]; simp [h7, h7i], (have ow := hO; OwnW.re ow)⟩
abbrev qsPb0 : Sch := .q 0 <| .q 1 <| .q 2 <| .q 3 <| .q 4 <| .q 5 <| .q 6 <| .q 7 <| .q 8 <| .q 9 <| .q 10 <| .l 11 [10, 9, 8, 7, 6, 5, 4, 3, 2, 1, 0] <| .l 12 [] <| .done
theorem tmod_nat' {v : Int} (hv : 0 ≤ v) : ∃ k : Nat, v.tmod 1000 = k ∧ k < 1000 := by
  have h1 := Int.tmod_nonneg 1000 hv
  have h2 := Int.tmod_lt_of_pos v (show (0 : Int) < 1000 by omega)
  exact ⟨(v.tmod 1000).toNat, by omega, by omega⟩
theorem load_fn (gl) (H : Nm → Option AO) (p : Prg) (W : Wld) (a x : Nat) (hP : ShapeP p) (hw : WOk p W) (ha : a < W.acts.length) (hx : x < 8) (hO : OwnW H p W) :
    FnE Tryz.prog gl 164 (Nm.under Wn) [.pt Wn 0, iv a, iv x] H (fun _ y H' => y = Val.av (loadW p W a x).2 ∧ OwnW H' p (loadW p W a x).1) noE := by
  have hh := hP.heads
  have hxi : (x : Int) < 8 := by omega
  have hll := loc_lt (x := (x : Int)) hh hw ha
  have hT := hO.top
  simp only [wRow] at hT
  have hV8 := (hw.vars_of hll).1
  refine FnE.of_sem Tryz.func164 rfl (by kernel_rfl) (rs := [.cell 6 171]) rfl Tryz.ntmps164 (Nat.le_of_ble_eq_true rfl) (fun _ => under_usroot rfl) fun C w g root hroot => ?_
  have fx := fx0
  refine k_run ?_
  clear fx
  intro K hK
  have fx := fx0
  refine x_mut Wn rfl (by simp [hT]) (hF := slotOf_fn _ _ p W a x hP hw ha hx (have ow := hO; OwnW.re ow)) (h := ?_)
  rintro y H1 ⟨rfl, hO1⟩
  clear fx
  have hV := hO1.loc hll
  obtain ⟨l, hl⟩ : ∃ l, W.loc p a x = l := ⟨_, rfl⟩
  obtain ⟨o, ho⟩ : ∃ o, owner p (W.blk a) x = o := ⟨_, rfl⟩
  rw [hl] at hV hV8 ⊢
  rw [ho]
  obtain ⟨s, hs⟩ : ∃ s, (W.vars l)[x]? = some s := ⟨_, gE (by omega)⟩
  obtain ⟨_, hsE⟩ := gS hs
  have hget : W.get (W.loc p a x) x = s := by rw [hl]; simp [Wld.get, hs]
  have hT1 := hO1.top
  simp only [wRow] at hT1
  cases s with
  | some v =>
    have hlw : loadW p W a x = (W, v) := by simp only [loadW, hget]
    have fx := And.intro hT <| And.intro hT1 <| And.intro hV <| And.intro hV8 <| And.intro hs <| And.intro hsE <| And.intro hx <| hxi
    refine k_run ?_
    clear fx
    rw [hlw]
    refine e_ret [] .nil (by simp; rfl) ⟨by simp, (have ow := hO1; OwnW.re ow)⟩
  | none =>
    have fx := And.intro hT <| And.intro hT1 <| And.intro hV <| And.intro hV8 <| And.intro hs <| And.intro hsE <| And.intro hx <| hxi
    refine k_run ?_
    clear fx
    intro K hK
    have fx := And.intro hT hT1
    refine x_mut Wn rfl (by simp [hT1]) (hF := lack_fn _ _ p W a o ha hw (have ow := hO1; OwnW.re ow)) (h := ?_)
    rintro y H2 ⟨rfl, hO2⟩
    clear fx
    have hT2 := hO2.top
    simp only [wRow] at hT2
    by_cases h4 : Hm.lack p (W.blk a) o = 4
    · skip
      have fx := And.intro hT <| And.intro hT1 <| And.intro hT2 <| h4
      refine k_run ?_
      clear fx
      intro K hK
      have fx := And.intro hT (And.intro hT1 hT2)
      refine x_mut Wn rfl (by simp [hT2]) (hF := globalValue_fn _ _ p W x hw hx (have ow := hO2; OwnW.re ow)) (h := ?_)
      rintro y H3 ⟨hy, hO3⟩
      clear fx
      have hT3 := hO3.top
      simp only [wRow] at hT3
      cases hg : W.get none x with
      | some v =>
        rw [hg] at hy
        simp only at hy
        subst hy
        have hlw : loadW p W a x = (W, v) := by simp only [loadW, hget, ho, h4, if_true, hg]
        have fx := And.intro hT <| And.intro hT1 <| And.intro hT2 <| hT3
        refine k_run ?_
        clear fx
        rw [hlw]
        refine e_ret [] .nil (by simp; rfl) ⟨by simp, (have ow := hO3; OwnW.re ow)⟩
      | none =>
        rw [hg] at hy
        simp only at hy
        subst hy
        by_cases h7 : x = 7
        · subst h7
          have hlw : loadW p W a ((7 : Nat) : Int) = (W, (1, 70)) := by simp only [loadW, hget, ho, h4, if_true, hg]; simp
          have fx := And.intro hT <| And.intro hT1 <| And.intro hT2 <| hT3
          refine k_run ?_
          clear fx
          rw [hlw]
          refine e_ret [] .nil (by simp; rfl) ⟨by simp, (have ow := hO3; OwnW.re ow)⟩
        · have hlw : loadW p W a x = ({ W with en := 4 }, (0, 0)) := by
            have : ¬ (x : Int) = 7 := by omega
            simp only [loadW, hget, ho, h4, if_true, hg, this, if_false]
          have h7i : ¬ (x : Int) = 7 := by omega
          have fx := And.intro hT <| And.intro hT1 <| And.intro hT2 <| And.intro hT3 <| And.intro h7 <| And.intro h7i <| h4
          refine k_run ?_
          clear fx
          rw [hlw]
          refine e_ret [] .nil (by simp; rfl) ⟨by simp, ⟨by simp [hO3.top, wRow, hT3], by simp [hO3.acts, hT3], fun i a ha => by simp [hO3.act i a ha, hT3], hO3.stk.imp fun l hl => by simp [hl, hT3], by simp [hO3.glob, hT3], by simp [hO3.funs, hT3], by simp [hO3.clss, hT3], fun i c hc => by simp [hO3.cls i c hc, hT3], by simp [hO3.out, hT3], by simp [hO3.trc, hT3]⟩⟩
    · have hlw : loadW p W a x = ({ W with en := Hm.lack p (W.blk a) o }, (0, 0)) := by simp only [loadW, hget, ho, h4, if_false]
      have fx := And.intro hT <| And.intro hT1 <| And.intro hT2 <| h4
      refine k_run ?_
      clear fx
      rw [hlw]
      refine e_ret [] .nil (by simp; rfl) ⟨by simp, ⟨by simp [hO2.top, wRow, hT2], by simp [hO2.acts, hT2], fun i a ha => by simp [hO2.act i a ha, hT2], hO2.stk.imp fun l hl => by simp [hl, hT2], by simp [hO2.glob, hT2], by simp [hO2.funs, hT2], by simp [hO2.clss, hT2], fun i c hc => by simp [hO2.cls i c hc, hT2], by simp [hO2.out, hT2], by simp [hO2.trc, hT2]⟩⟩
theorem ownW_set {hp hp' : Nm → Option AO} {p : Prg} {W : Wld} {l : Option Nat} {x : Nat} {s : Slt} (h : OwnW hp p W) (hh : ∀ m, Nm.under Wn m = true → hp' m = if m = locN l then some (.row 3 (slrows ((W.vars l).set x s))) else hp m) : OwnW hp' p (W.set l x s) := by
  have hu : ∀ j, Nm.under Wn (.c Wn 0 j) = true := fun j => by simp [Nm.under]
  have hu2 : ∀ j i k, Nm.under Wn (.c (.c Wn 0 j) i k) = true := fun j i k => by simp [Nm.under]
  cases l with
  | none =>
    refine ⟨?_, ?_, fun i a ha => ?_, ?_, ?_, ?_, ?_, fun i c hc => ?_, ?_, ?_⟩
    · rw [hh _ (by simp [Nm.under])]; simp [locN]; exact h.top
    · rw [hh _ (hu 1)]; simp [locN]; exact h.acts
    · rw [hh _ (hu2 1 i 2)]; simp [locN]; exact h.act i a ha
    · rw [hh _ (hu 2)]; simp [locN]; exact h.stk.imp fun l hl => by rw [hl]; rfl
    · rw [hh _ (hu 3)]; simp [locN, Wld.set, Wld.vars]
    · rw [hh _ (hu 4)]; simp [locN]; exact h.funs
    · rw [hh _ (hu 5)]; simp [locN]; exact h.clss
    · rw [hh _ (hu2 5 i 0)]; simp [locN]; exact h.cls i c hc
    · rw [hh _ (hu 6)]; simp [locN]; exact h.out
    · rw [hh _ (hu 7)]; simp [locN]; exact h.trc
  | some j =>
    have hrow : actRows (.c Wn 0 1) (W.set (some j) x s).acts = actRows (.c Wn 0 1) W.acts := by
      apply List.ext_getElem?
      intro i
      simp only [actRows_get, Wld.set, List.getElem?_modify]
      cases hi : W.acts[i]? with
      | none => rfl
      | some a => by_cases e : j = i <;> simp [e, outI]
    refine ⟨?_, ?_, fun i a ha => ?_, ?_, ?_, ?_, ?_, fun i c hc => ?_, ?_, ?_⟩
    · rw [hh _ (by simp [Nm.under])]; simp [locN]; rw [h.top]; simp [wRow, Wld.set]
    · rw [hh _ (hu 1), hrow]; simp [locN]; exact h.acts
    · rw [hh _ (hu2 1 i 2)]
      simp only [Wld.set, List.getElem?_modify] at ha
      obtain ⟨b, hb, e⟩ := Option.map_eq_some_iff.1 ha
      by_cases e2 : j = i
      · subst e2
        simp only [if_true] at e
        subst e
        simp [locN, Wld.vars, hb]
      · have e3 : ¬ i = j := fun e => e2 e.symm
        simp only [e2, if_false] at e
        subst e
        simp [locN, e3]
        exact h.act i b hb
    · rw [hh _ (hu 2)]; simp [locN]; exact h.stk.imp fun l hl => by rw [hl]; rfl
    · rw [hh _ (hu 3)]; simp [locN]; exact h.glob
    · rw [hh _ (hu 4)]; simp [locN]; exact h.funs
    · rw [hh _ (hu 5)]; simp [locN]; exact h.clss
    · rw [hh _ (hu2 5 i 0)]; simp [locN]; exact h.cls i c hc
    · rw [hh _ (hu 6)]; simp [locN]; exact h.out
    · rw [hh _ (hu 7)]; simp [locN]; exact h.trc
theorem store_fn (gl) (H : Nm → Option AO) (p : Prg) (W : Wld) (a x : Nat) (v : Val) (hP : ShapeP p) (hw : WOk p W) (ha : a < W.acts.length) (hx : x < 8) (hO : OwnW H p W) :
    FnE Tryz.prog gl 193 (Nm.under Wn) [.pt Wn 0, iv a, iv x, Val.av v] H (fun _ y H' => OwnW H' p (storeW p W a x v)) noE := by
  have hh := hP.heads
  have hxi : (x : Int) < 8 := by omega
  have hll := loc_lt (x := (x : Int)) hh hw ha
  have hT := hO.top
  simp only [wRow] at hT
  have hV8 := (hw.vars_of hll).1
  obtain ⟨v1, v2⟩ := v
  refine FnE.of_sem Tryz.func193 rfl (by kernel_rfl) (rs := []) rfl Tryz.ntmps193 (Nat.le_of_ble_eq_true rfl) (fun _ => under_usroot rfl) fun C w g root hroot => ?_
  have fx := fx0
  refine k_run ?_
  clear fx
  intro K hK
  have fx := fx0
  refine x_mut Wn rfl (by simp [hT]) (hF := slotOf_fn _ _ p W a x hP hw ha hx (have ow := hO; OwnW.re ow)) (h := ?_)
  rintro y H1 ⟨rfl, hO1⟩
  clear fx
  have hV := hO1.loc hll
  obtain ⟨l, hl⟩ : ∃ l, W.loc p a x = l := ⟨_, rfl⟩
  have hlw : storeW p W a x (v1, v2) = W.set l x (some (v1, v2)) := by simp only [storeW, hl]
  rw [hl] at hV hV8 ⊢
  have hT1 := hO1.top
  simp only [wRow] at hT1
  have fx := And.intro hT <| And.intro hT1 <| And.intro hV <| And.intro hV8 <| And.intro hx <| hxi
  refine k_run ?_
  clear fx
  rw [hlw]
  refine e_norm [] .nil (by simp; rfl) (OwnW.fin (ownW_set hO1 fun m hm => ?_))
  simp [hm]
theorem take_fn (gl) (H : Nm → Option AO) (p : Prg) (W : Wld) (a x : Nat) (hP : ShapeP p) (hw : WOk p W) (ha : a < W.acts.length) (hx : x < 8) (hO : OwnW H p W) :
    FnE Tryz.prog gl 190 (Nm.under Wn) [.pt Wn 0, iv a, iv x] H (fun _ y H' => OwnW H' p (takeW p W a x)) noE := by
  have hh := hP.heads
  have hxi : (x : Int) < 8 := by omega
  have hll := loc_lt (x := (x : Int)) hh hw ha
  have hT := hO.top
  simp only [wRow] at hT
  have hV8 := (hw.vars_of hll).1
  refine FnE.of_sem Tryz.func190 rfl (by kernel_rfl) (rs := []) rfl Tryz.ntmps190 (Nat.le_of_ble_eq_true rfl) (fun _ => under_usroot rfl) fun C w g root hroot => ?_
  have fx := fx0
  refine k_run ?_
  clear fx
  intro K hK
  have fx := fx0
  refine x_mut Wn rfl (by simp [hT]) (hF := slotOf_fn _ _ p W a x hP hw ha hx (have ow := hO; OwnW.re ow)) (h := ?_)
  rintro y H1 ⟨rfl, hO1⟩
  clear fx
  have hV := hO1.loc hll
  obtain ⟨l, hl⟩ : ∃ l, W.loc p a x = l := ⟨_, rfl⟩
  obtain ⟨o, ho⟩ : ∃ o, owner p (W.blk a) x = o := ⟨_, rfl⟩
  rw [hl] at hV hV8 ⊢
  rw [ho]
  obtain ⟨s, hs⟩ : ∃ s, (W.vars l)[x]? = some s := ⟨_, gE (by omega)⟩
  obtain ⟨_, hsE⟩ := gS hs
  have hget : W.get (W.loc p a x) x = s := by rw [hl]; simp [Wld.get, hs]
  have hT1 := hO1.top
  simp only [wRow] at hT1
  cases s with
  | some v =>
    have hlw : takeW p W a x = W.set l x none := by
      unfold takeW
      rw [hget]
      simp only [hl]
    have fx := And.intro hT <| And.intro hT1 <| And.intro hV <| And.intro hV8 <| And.intro hs <| And.intro hsE <| And.intro hx <| hxi
    refine k_run ?_
    clear fx
    rw [hlw]
    refine e_norm [] .nil (by simp; rfl) (OwnW.fin (ownW_set hO1 fun m hm => ?_))
    simp [hm]
  | none =>
    have hlw : takeW p W a x = { W with en := Hm.lack p (W.blk a) o } := by simp only [takeW, hget, ho]
    have fx := And.intro hT <| And.intro hT1 <| And.intro hV <| And.intro hV8 <| And.intro hs <| And.intro hsE <| And.intro hx <| hxi
    refine k_run ?_
    clear fx
    intro K hK
    have fx := And.intro hT hT1
    refine x_mut Wn rfl (by simp [hT1]) (hF := lack_fn _ _ p W a o ha hw (have ow := hO1; OwnW.re ow)) (h := ?_)
    rintro y H2 ⟨rfl, hO2⟩
    clear fx
    have hT2 := hO2.top
    simp only [wRow] at hT2
    have fx := And.intro hT <| And.intro hT1 <| hT2
    refine k_run ?_
    clear fx
    rw [hlw]
    refine e_ret [] .nil (by simp; rfl) ⟨by simp [hO2.top, wRow, hT2], by simp [hO2.acts, hT2], fun i a ha => by simp [hO2.act i a ha, hT2], hO2.stk.imp fun l hl => by simp [hl, hT2], by simp [hO2.glob, hT2], by simp [hO2.funs, hT2], by simp [hO2.clss, hT2], fun i c hc => by simp [hO2.cls i c hc, hT2], by simp [hO2.out, hT2], by simp [hO2.trc, hT2]⟩
theorem plus_fn (gl) (H : Nm → Option AO) (p : Prg) (W : Wld) (u v : Val) (hu : VOk W.funs.length W.classes.length u) (hv : VOk W.funs.length W.classes.length v) (hO : OwnW H p W) :
    FnE Tryz.prog gl 207 (Nm.under Wn) [.pt Wn 0, Val.av u, Val.av v] H (fun _ y H' => y = Val.av (plusW W u v).2 ∧ OwnW H' p (plusW W u v).1) noE := by
  have hT := hO.top
  simp only [wRow] at hT
  obtain ⟨u1, u2⟩ := u
  obtain ⟨v1, v2⟩ := v
  have hu2 := hu.num
  have hv2 := hv.num
  simp only at hu2 hv2
  have hwr : IntKind.i64.wrap (u2 + v2) = u2 + v2 := wrp (by omega) (by omega)
  obtain ⟨q, hq, hql⟩ := tmod_nat' (v := u2 + v2) (by omega)
  have hwq : IntKind.i64.wrap (q : Int) = q := wrp (by omega) (by omega)
  refine FnE.of_sem Tryz.func207 rfl (by kernel_rfl) (rs := [.cell 6 171]) rfl Tryz.ntmps207 (Nat.le_of_ble_eq_true rfl) (fun _ => under_usroot rfl) fun C w g root hroot => ?_
  by_cases h1 : u1 = 1
  · by_cases h2 : v1 = 1
    · subst h1
      subst h2
      have hlw : plusW W (1, u2) (1, v2) = (W, (1, (q : Int))) := by simp [plusW, hq]
      have fx := And.intro hT <| And.intro hwr <| And.intro hq <| And.intro hwq <| @bne_def
      refine k_run ?_
      clear fx
      rw [hlw]
      refine e_ret [] .nil (by simp; rfl) ⟨by simp, (have ow := hO; OwnW.re ow)⟩
    · subst h1
      have hb2 : (v1 == 1) = false := by simpa using h2
      have hlw : plusW W (1, u2) (v1, v2) = ({ W with en := 5 }, (0, 0)) := by simp [plusW, h2]
      have fx := And.intro hT <| And.intro hb2 <| @bne_def
      refine k_run ?_
      clear fx
      rw [hlw]
      refine e_ret [] .nil (by simp; rfl) ⟨by simp, ⟨by simp [hO.top, wRow, hT], by simp [hO.acts, hT], fun i a ha => by simp [hO.act i a ha, hT], hO.stk.imp fun l hl => by simp [hl, hT], by simp [hO.glob, hT], by simp [hO.funs, hT], by simp [hO.clss, hT], fun i c hc => by simp [hO.cls i c hc, hT], by simp [hO.out, hT], by simp [hO.trc, hT]⟩⟩
  · have hb1 : (u1 == 1) = false := by simpa using h1
    have hlw : plusW W (u1, u2) (v1, v2) = ({ W with en := 5 }, (0, 0)) := by simp [plusW, h1]
    have fx := And.intro hT <| And.intro hb1 <| @bne_def
    refine k_run ?_
    clear fx
    rw [hlw]
    refine e_ret [] .nil (by simp; rfl) ⟨by simp, ⟨by simp [hO.top, wRow, hT], by simp [hO.acts, hT], fun i a ha => by simp [hO.act i a ha, hT], hO.stk.imp fun l hl => by simp [hl, hT], by simp [hO.glob, hT], by simp [hO.funs, hT], by simp [hO.clss, hT], fun i c hc => by simp [hO.cls i c hc, hT], by simp [hO.out, hT], by simp [hO.trc, hT]⟩⟩
theorem attr_fn (gl) (H : Nm → Option AO) (p : Prg) (W : Wld) (v : Val) (x : Nat) (hw : WOk p W) (hv : VOk W.funs.length W.classes.length v) (hx : x < 8) (hO : OwnW H p W) :
    FnE Tryz.prog gl 210 (Nm.under Wn) [.pt Wn 0, Val.av v, iv x] H (fun _ y H' => y = Val.av (attrW W v x).2 ∧ OwnW H' p (attrW W v x).1) noE := by
  have hT := hO.top
  simp only [wRow] at hT
  have hxi : (x : Int) < 8 := by omega
  obtain ⟨v1, v2⟩ := v
  refine FnE.of_sem Tryz.func210 rfl (by kernel_rfl) (rs := [.cell 6 171]) rfl Tryz.ntmps210 (Nat.le_of_ble_eq_true rfl) (fun _ => under_usroot rfl) fun C w g root hroot => ?_
  by_cases h1 : v1 = 3
  · subst h1
    have hv2 := hv.num
    have hv3 := hv.cls rfl
    simp only at hv2 hv3
    obtain ⟨i, rfl⟩ : ∃ i : Nat, v2 = i := ⟨v2.toNat, by omega⟩
    have hil : i < W.classes.length := by omega
    obtain ⟨c, hc⟩ : ∃ c, W.classes[i]? = some c := ⟨_, gE hil⟩
    have hC := hO.clss
    have hCc := hO.cls i c hc
    have hcl := (hw.cls c (List.mem_of_getElem? hc)).1
    obtain ⟨s, hs⟩ : ∃ s, c[x]? = some s := ⟨_, gE (by omega)⟩
    obtain ⟨_, hsE⟩ := gS hs
    cases s with
    | some u =>
      have hlw : attrW W (3, (i : Int)) x = (W, u) := by simp [attrW, hc, hs]
      have fx := And.intro hT <| And.intro hC <| And.intro hCc <| And.intro hil <| And.intro hcl <| And.intro hs <| And.intro hsE <| And.intro hx <| And.intro hxi <| @bne_def
      refine k_run ?_
      repeat ((first | refine wSc (id := 4) qsPb0 mixed ?_); refine k_rund ?_; refine k_run ?_)
      clear fx
      rw [hlw]
      refine e_ret [] .nil (by simp; rfl) ⟨by simp, (have ow := hO; OwnW.re ow)⟩
    | none =>
      have hlw : attrW W (3, (i : Int)) x = ({ W with en := 7 }, (0, 0)) := by simp [attrW, hc, hs]
      have fx := And.intro hT <| And.intro hC <| And.intro hCc <| And.intro hil <| And.intro hcl <| And.intro hs <| And.intro hsE <| And.intro hx <| And.intro hxi <| @bne_def
      refine k_run ?_
      repeat ((first | refine wSc (id := 4) qsPb0 mixed ?_); refine k_rund ?_; refine k_run ?_)
      clear fx
      rw [hlw]
      refine e_ret [] .nil (by simp; rfl) ⟨by simp, ⟨by simp [hO.top, wRow, hT], by simp [hO.acts, hT], fun i a ha => by simp [hO.act i a ha, hT], hO.stk.imp fun l hl => by simp [hl, hT], by simp [hO.glob, hT], by simp [hO.funs, hT], by simp [hO.clss, hT], fun i c hc => by simp [hO.cls i c hc, hT], by simp [hO.out, hT], by simp [hO.trc, hT]⟩⟩
  · have hb1 : (v1 == 3) = false := by simpa using h1
    have hlw : attrW W (v1, v2) x = ({ W with en := 5 }, (0, 0)) := by simp [attrW, h1]
    have fx := And.intro hT <| And.intro hb1 <| @bne_def
    refine k_run ?_
    repeat ((first | refine wSc (id := 4) qsPb0 mixed ?_); refine k_rund ?_; refine k_run ?_)
    clear fx
    rw [hlw]
    refine e_ret [] .nil (by simp; rfl) ⟨by simp, ⟨by simp [hO.top, wRow, hT], by simp [hO.acts, hT], fun i a ha => by simp [hO.act i a ha, hT], hO.stk.imp fun l hl => by simp [hl, hT], by simp [hO.glob, hT], by simp [hO.funs, hT], by simp [hO.clss, hT], fun i c hc => by simp [hO.cls i c hc, hT], by simp [hO.out, hT], by simp [hO.trc, hT]⟩⟩
theorem loads_fn (gl) (H : Nm → Option AO) (p : Prg) (W : Wld) (a : Nat) (xs : List Int) (hP : ShapeP p) (hw : WOk p W) (ha : a < W.acts.length) (hxs : ∀ x ∈ xs, 0 ≤ x ∧ x ≤ 7) (hxl : xs.length ≤ 2) (hO : OwnW H p W) (hL : H (.u 2 0 0) = some (.row 1 (irows xs))) :
    FnE Tryz.prog gl 206 D12 [.pt Wn 0, iv a, .hs (.u 2 0 0) 1 0 xs.length] H (fun r y H' => y = .hs r 2 0 (loadsW p W a xs).2.length ∧ H' r = some (.row 2 (vrows (loadsW p W a xs).2)) ∧ OwnW H' p (loadsW p W a xs).1) noE := by
  refine FnE.of_sem Tryz.func206 rfl (by kernel_rfl) (rs := [.tmp 6]) rfl Tryz.ntmps206 (Nat.le_of_ble_eq_true rfl) (fun _ => D12_root) fun C w g root hroot => ?_
  have hr0 := hroot root (Nm.under_self _)
  simp only [D12_eq, Bool.or_eq_false_iff] at hr0
  obtain ⟨hr1, hr2⟩ := hr0
  have fx := fx0
  refine k_run ?_
  clear fx
  refine w_loop (fun n st => ∃ (i : Nat) (V : Wld) (vs : List Val), n = xs.length - i ∧ i ≤ xs.length ∧ vs.length = i ∧ loadsW p W a xs = ((loadsW p V a (xs.drop i)).1, vs ++ (loadsW p V a (xs.drop i)).2) ∧ WOk p V ∧ a < V.acts.length ∧ st.tm 0 = .pt Wn 0 ∧ st.tm 1 = iv a ∧ st.tm 2 = .hs (.u 2 0 0) 1 0 xs.length ∧ st.hp (.u 2 0 0) = some (.row 1 (irows xs)) ∧ st.tm 7 = .hs (.s 7) 2 0 vs.length ∧ st.hp (.s 7) = some (.row 2 (vrows vs)) ∧ st.tm 8 = iv i ∧ OwnW st.hp p V) xs.length ?_ ?_
  · exact ⟨0, W, [], by omega, by omega, rfl, by simp, hw, ha, by simp, by simp, by simp, by simp [hL], by simp, by simp, by simp, (have ow := hO; OwnW.re ow)⟩
  rintro n st - - ⟨i, V, vs, rfl, hi, hvl, hres, hV, haV, h0, h1, h2, hp2, h7, hp7, h8, hO⟩
  have hT := hO.top
  simp only [wRow] at hT
  have hstop : i = xs.length ∨ V.en ≠ 0 → loadsW p W a xs = (V, vs) := by
    intro e
    rw [hres]
    rcases e with e | e
    · subst e
      simp [loadsW]
    · cases hd : xs.drop i with
      | nil => simp [loadsW]
      | cons y l => simp only [loadsW]; rw [if_pos e]; simp
  by_cases hil : i < xs.length
  · by_cases hen : V.en = 0
    · obtain ⟨x, hx⟩ : ∃ x, xs[i]? = some x := ⟨_, gE hil⟩
      obtain ⟨_, hxE⟩ := gS hx
      obtain ⟨hx0, hx7⟩ := hxs x (List.mem_of_getElem? hx)
      obtain ⟨X, rfl⟩ : ∃ X : Nat, x = X := ⟨x.toNat, by omega⟩
      have hdr : xs.drop i = (X : Int) :: xs.drop (i + 1) := by rw [List.drop_eq_getElem_cons hil, hxE]
      have hstep : loadsW p V a (xs.drop i) = ((loadsW p (loadW p V a X).1 a (xs.drop (i + 1))).1, (loadW p V a X).2 :: (loadsW p (loadW p V a X).1 a (xs.drop (i + 1))).2) := by
        rw [hdr]
        simp only [loadsW]
        rw [if_neg (by rw [hen]; decide)]
      obtain ⟨hA, _, _⟩ := loadW_ok (a := a) (x := (X : Int)) hV
      have hl2 : vs.length ≤ 2 := by omega
      have fx := And.intro h0 <| And.intro h1 <| And.intro h2 <| And.intro hp2 <| And.intro h7 <| And.intro hp7 <| And.intro h8 <| And.intro hT <| And.intro hil <| And.intro hen <| And.intro hx <| hxE
      refine k_run ?_
      clear fx
      intro K hK
      have fx := And.intro h0 (And.intro h1 hT)
      refine x_mut Wn rfl (by simp [hT]) (hF := load_fn _ _ p V a X hP hV haV (by omega) (have ow := hO; OwnW.re ow)) (h := ?_)
      rintro y H1 ⟨rfl, hO1⟩
      clear fx
      generalize hq : loadW p V a X = q at hstep hA hO1
      obtain ⟨V', v1, v2⟩ := q
      have fx := And.intro h0 <| And.intro h1 <| And.intro h2 <| And.intro hp2 <| And.intro h7 <| And.intro hp7 <| And.intro h8 <| And.intro hT <| hl2
      refine k_run ?_
      clear fx
      refine ⟨xs.length - (i + 1), by omega, i + 1, V', vs ++ [(v1, v2)], rfl, by omega, by simp [hvl], ?_, hA.ok, Nat.lt_of_lt_of_le haV hA.grow.lacts, by simp [h0, hT], by simp [h1], by simp [h2], by simp [hp2], by simp, by simp [vrows], by simp [h8]; exact wrp (by omega) (by omega), (have ow := hO1; OwnW.re ow)⟩
      rw [hres, hstep]
      simp
    · have hend := hstop (.inr hen)
      have henb : (V.en == 0) = false := by simpa using hen
      have fx := And.intro h0 <| And.intro h1 <| And.intro h2 <| And.intro hp2 <| And.intro h7 <| And.intro hp7 <| And.intro h8 <| And.intro hT <| And.intro hil <| henb
      refine k_run ?_
      clear fx
      rw [hend]
      refine e_ret [(.s 6, root)] (.one rfl) (by simp; rfl) ⟨by simp, by simp [hp7, hr1, hr2], OwnW.finD (have ow := hO; OwnW.re ow) (fun _ => D12_root) (fun m hm => by simp [hm]) (by simp [Nm.sroot])⟩
  · have hend := hstop (.inl (by omega))
    have fx := And.intro h0 <| And.intro h1 <| And.intro h2 <| And.intro hp2 <| And.intro h7 <| And.intro hp7 <| And.intro h8 <| And.intro hT <| hil
    refine k_run ?_
    clear fx
    rw [hend]
    refine e_ret [(.s 6, root)] (.one rfl) (by simp; rfl) ⟨by simp, by simp [hp7, hr1, hr2], OwnW.finD (have ow := hO; OwnW.re ow) (fun _ => D12_root) (fun m hm => by simp [hm]) (by simp [Nm.sroot])⟩
end Go.Proofs.YtmaoicgfcngciaaGreatDoor
end
section
namespace Go.Proofs.YtmaoicgfcngciaaGreatDoor
open Go Go.Hm Go.Proofs
abbrev qsPc0 : Sch := .q 0 <| .q 1 <| .q 2 <| .q 3 <| .q 4 <| .q 5 <| .q 6 <| .l 7 [6, 5, 4, 3, 2, 1, 0] <| .q 8 <| .l 9 [6, 5, 4, 3, 2, 1, 0] <| .l 10 [6, 5, 3, 2, 1, 0] <| .q 11 <| .q 12 <| .l 13 [11] <| .done
abbrev qsPc1 : Sch := .q 0 <| .q 1 <| .q 2 <| .q 3 <| .q 4 <| .q 5 <| .q 6 <| .q 7 <| .q 8 <| .q 9 <| .q 10 <| .q 11 <| .q 12 <| .q 13 <| .q 14 <| .q 15 <| .q 16 <| .q 17 <| .l 18 [16, 15, 14, 12, 11, 10, 9, 8, 7, 6, 5, 4, 3, 2] <| .done
abbrev qsPc2 : Sch := .q 0 <| .q 1 <| .q 2 <| .q 3 <| .q 4 <| .q 5 <| .q 6 <| .q 7 <| .q 8 <| .q 9 <| .q 10 <| .q 11 <| .q 12 <| .q 13 <| .l 14 [12] <| .done
abbrev qsPc3 : Sch := .q 0 <| .q 1 <| .q 2 <| .q 3 <| .q 4 <| .q 5 <| .q 6 <| .q 7 <| .q 8 <| .l 9 [7, 6, 5, 4, 3, 2, 1, 0] <| .l 10 [7, 6, 5, 4, 3, 2, 1] <| .l 11 [] <| .done
theorem actRows_map {n m : Nm} {l : List Hm.Act} {g : List AV → List AV} (h : ∀ (i : Nat) a, l[i]? = some a → g [iv a.blk, iv (outI i a), .hs (.c n i 2) 3 0 8] = [iv a.blk, iv (outI i a), .hs (.c m i 2) 3 0 8]) : (actRows n l).map g = actRows m l := by
  apply List.ext_getElem?
  intro j
  rw [List.getElem?_map, actRows_get, actRows_get]
  cases hj : l[j]? with
  | none => rfl
  | some a => simp only [Option.map_some]; rw [h j a hj]
theorem clsRows_map {n m : Nm} {l : List (List Slt)} {g : List AV → List AV} (h : ∀ (i : Nat) c, l[i]? = some c → g [.hs (.c n i 0) 3 0 8] = [.hs (.c m i 0) 3 0 8]) : (clsRows n l).map g = clsRows m l := by
  apply List.ext_getElem?
  intro j
  rw [List.getElem?_map, clsRows_get, clsRows_get]
  cases hj : l[j]? with
  | none => rfl
  | some a => simp only [Option.map_some]; rw [h j a hj]
theorem funRows_map {n m : Nm} {l : List (Nat × Nat)} {g : List AV → List AV} (h : ∀ (i : Nat) c, l[i]? = some c → g [iv c.1, iv c.2, .hs (.c n i 2) 3 0 0] = [iv c.1, iv c.2, .hs (.c m i 2) 3 0 0]) : (funRows n l).map g = funRows m l := by
  apply List.ext_getElem?
  intro j
  rw [List.getElem?_map, funRows_get, funRows_get]
  cases hj : l[j]? with
  | none => rfl
  | some a => simp only [Option.map_some]; rw [h j a hj]
@[simp] theorem slc_hs {P : Program} {T : TypeId} {hp : Nm → Option AO} {n : Nm} {z q len : Nat} {lo hi : Option Int} : slcAV P T hp (.hs n z q len) lo hi = match tel P T with
    | some e => if z = tsz P e ∧ 0 ≤ lo.getD 0 ∧ lo.getD 0 ≤ hi.getD len ∧ (hi.getD len ≤ len ∨ q + (hi.getD len).toNat ≤ rowsIn hp n z) then some (.hs n z (q + (lo.getD 0).toNat) ((hi.getD len).toNat - (lo.getD 0).toNat)) else none
    | none => none := rfl
@[simp] theorem mem_slrows {l : List Slt} {r : List AV} : r ∈ slrows l ↔ ∃ s ∈ l, slotC s = r := by simp [slrows]
theorem emptySlots_fn (gl) : FnOk Tryz.prog gl 119 [] (fun r y H' => y = .hs r 3 0 8 ∧ H' r = some (.row 3 (slrows noSlots))) := by
  have h0 : List.replicate 8 [bv false, iv 0, iv 0] = slrows noSlots := rfl
  refine FnOk.of_sem Tryz.func119 rfl (by kernel_rfl) (rs := [.tmp 0]) rfl Tryz.ntmps119 (Nat.le_of_ble_eq_true rfl) fun C w g root => ?_
  have fx :=  h0
  refine k_run ?_
  clear fx
  refine e_ret [(.s 0, root)] (.one rfl) (by simp; rfl) ⟨by simp, by simp [← h0]⟩
theorem copySlots_fn (gl) (l : List Slt) (hl : l.length = 8) : FnOk Tryz.prog gl 225 [.sl 3 (slrows l)] (fun r y H' => y = .hs r 3 0 8 ∧ H' r = some (.row 3 (slrows l))) := by
  refine FnOk.of_sem Tryz.func225 rfl (by kernel_rfl) (rs := [.tmp 2]) rfl Tryz.ntmps225 (Nat.le_of_ble_eq_true rfl) fun C w g root => ?_
  have fx :=  hl
  refine k_run ?_
  clear fx
  refine e_ret [(.s 2, root)] (.one rfl) (by simp; rfl) ⟨by simp, by simp⟩
def RBok (gl : Nat → Option (List AV)) (p : Prg) (n : Nat) : Prop := ∀ (H : Nm → Option AO) (W : Wld) (a : Nat), OwnW H p W → WOk p W → W.left < n → a < W.acts.length → W.en = 0 → H (.u 2 0 0) = none →
  FnE Tryz.prog gl 120 (Nm.under Wn) [.pt Wn 0, iv a] H (fun _ y H' => y = Val.av (runW p n W a).2 ∧ OwnW H' p (runW p n W a).1) noE
theorem enter_fn (gl) (p : Prg) (n : Nat) (hR : RBok gl p n) (H : Nm → Option AO) (W : Wld) (b up lo : Nat) (vs all : List Val) (hP : ValP p) (hw : WOk p W) (hn : W.left < n) (h0 : W.en = 0) (hm : madeAt p W.acts b up) (hv : ∀ v ∈ vs, VOk W.funs.length W.classes.length v) (hr : Room 1 W)
    (hall : all.drop lo = vs) (hlo : lo + vs.length = all.length) (hpar : parN p b = vs.length) (hv2 : vs.length ≤ 1) (hO : OwnW H p W) (hL : H (.u 2 0 0) = some (.row 2 (vrows all))) :
    FnE Tryz.prog gl 208 D12 [.pt Wn 0, iv b, iv up, .hs (.u 2 0 0) 2 lo vs.length] H (fun r y H' => y = .tup [Val.av (enterW p (runW p n) W b up vs).2, .hs r 3 0 8] ∧ H' r = some (.row 3 (slrows ((enterW p (runW p n) W b up vs).1.vars (some W.acts.length)))) ∧ OwnW H' p (enterW p (runW p n) W b up vs).1) noE := by
  have hT := hO.top
  have hA := hO.acts
  obtain ⟨sl, hS⟩ := hO.stk
  simp only [wRow] at hT
  have hl1 := hr.acts
  have hl2 := hr.stk
  have hal : W.acts.length ≤ 1000 := by omega
  have hsl : W.stack.length ≤ 1000 := by omega
  refine FnE.of_sem Tryz.func208 rfl (by kernel_rfl) (rs := [.cell 8 171, .tmp 9]) rfl Tryz.ntmps208 (Nat.le_of_ble_eq_true rfl) (fun _ => D12_root) fun C w g root hroot => ?_
  have hr0 := hroot root (Nm.under_self _)
  simp only [D12_eq, Bool.or_eq_false_iff] at hr0
  obtain ⟨hr1, hr2⟩ := hr0
  have fx := And.intro hT <| And.intro hA <| And.intro hS <| And.intro hal <| hsl
  have d1 := emptySlots_fn gl
  refine k_run ?_
  repeat ((first | refine wSc (id := 2) qsPc0 mixed ?_ | refine wSc (id := 7) qsPc1 mixed ?_ | refine wSc (id := 10) qsPc2 mixed ?_ | refine wSc (id := 11) qsPc3 mixed ?_); refine k_rund ?_; refine k_run ?_)
  clear fx d1
  have hap : actRows (.c Wn 0 1) W.acts ++ [[iv b, iv (outI W.acts.length ⟨b, up, noSlots⟩), .hs (.c (.c Wn 0 1) W.acts.length 2) 3 0 8]] = actRows (.c Wn 0 1) (W.acts ++ [⟨b, up, noSlots⟩]) := actRows_app (a := ⟨b, up, noSlots⟩)
  have hpos : ¬ W.acts.length = 0 := by
    obtain ⟨a, ha, _⟩ := hw.a0
    have := (gS ha).1
    omega
  have hoi : outI W.acts.length ⟨b, up, noSlots⟩ = up := by simp only [outI, hpos, if_false]
  rw [hoi] at hap
  have hb0 : begI p W b up vs 0 = { W with acts := W.acts ++ [⟨b, up, noSlots⟩], stack := W.stack ++ [W.acts.length] } := by simp [begI, bindP]
  refine w_loop (fun n st => ∃ i : Nat, n = vs.length - i ∧ i ≤ vs.length ∧ st.tm 0 = .pt Wn 0 ∧ st.tm 1 = iv b ∧ st.tm 3 = .hs (.u 2 0 0) 2 lo vs.length ∧ st.hp (.u 2 0 0) = some (.row 2 (vrows all)) ∧ st.tm 8 = .pt (.s 8) 0 ∧ st.hp (.s 8) = some (.row 2 [[iv 0, iv 0]]) ∧ st.tm 10 = iv W.acts.length ∧ st.tm 11 = iv i ∧ OwnW st.hp p (begI p W b up vs i)) vs.length ?_ ?_
  · refine ⟨0, by omega, by omega, by simp, by simp, by simp, by simp [hL], by simp, by simp, by simp, by simp, ?_⟩
    rw [hb0]
    refine ⟨by simp [wRow], ?_, fun i a ha => ?_, ⟨[], by simp [nints]⟩, by simp [hO.glob], by simp [hO.funs], by simp [hO.clss], fun i c hc => by simp [hO.cls i c hc], by simp [hO.out], by simp [hO.trc]⟩
    · simp [← hap]
      rw [List.take_of_length_le (by simp)]
      refine actRows_map fun i a ha => ?_
      have hne : ¬ i = W.acts.length := by have := (gS ha).1; omega
      have hne' : ¬ W.acts.length = i := by omega
      simp [hne, hne']
    rcases Nat.lt_or_ge i W.acts.length with hlt | hge
    · have ha' : W.acts[i]? = some a := by simpa [List.getElem?_append_left hlt] using ha
      have hne : ¬ i = W.acts.length := by omega
      have hne' : ¬ W.acts.length = i := by omega
      simp [hO.act i a ha', hne, hne']
    · have hi : i = W.acts.length := by
        have := (gS ha).1
        simp at this
        omega
      subst hi
      have ha' : a = ⟨b, up, noSlots⟩ := by simpa using ha.symm
      subst ha'
      simp
  clear hT hA hS hap hb0 hO
  obtain ⟨k, hk, hpk⟩ := hm.shape
  obtain ⟨_, hkE⟩ := gS hk
  have hkl := (gS hk).1
  rintro m st - - ⟨i, rfl, hi, t0, t1, t3, hp2, t8, hp8, t10, t11, hO⟩
  have hT := hO.top
  have hA := hO.acts
  have hok : WOk p (begI p W b up vs i) := begI_ok hw hm hv hr
  have hlen : (begI p W b up vs i).acts.length = W.acts.length + 1 := by simp [begI]
  simp only [wRow] at hT
  by_cases hil : i < vs.length
  · obtain ⟨x, hx⟩ : ∃ x, k.params[i]? = some x := ⟨_, gE (by omega)⟩
    obtain ⟨hxl, hxE⟩ := gS hx
    have hxr := (hP.sh.names k (List.mem_of_getElem? hk)).params x (List.mem_of_getElem? hx)
    obtain ⟨v, hvi⟩ : ∃ v, vs[i]? = some v := ⟨_, gE hil⟩
    have hva : all[lo + i]? = some v := by rw [← hvi, ← hall, List.getElem?_drop]
    obtain ⟨hal', hvE⟩ := gS hva
    have hst := begI_store (w := W) (up := up) hP hk hx hvi
    obtain ⟨X, rfl⟩ : ∃ X : Nat, x = X := ⟨x.toNat, by omega⟩
    obtain ⟨v1, v2⟩ := v
    have fx := And.intro t0 <| And.intro t1 <| And.intro t3 <| And.intro hp2 <| And.intro t8 <| And.intro hp8 <| And.intro t10 <| And.intro t11 <| And.intro hT <| And.intro hil <| And.intro hk <| And.intro hkE <| And.intro hkl <| And.intro hx <| And.intro hxE <| And.intro hxl <| And.intro hva <| And.intro hvE <| hal'
    refine k_run ?_
    repeat ((first | refine wSc (id := 2) qsPc0 mixed ?_ | refine wSc (id := 7) qsPc1 mixed ?_ | refine wSc (id := 10) qsPc2 mixed ?_ | refine wSc (id := 11) qsPc3 mixed ?_); refine k_rund ?_; refine k_run ?_)
    clear fx
    intro K hK
    have fx := And.intro t0 (And.intro t10 hT)
    refine x_mut Wn rfl (by simp [hT]) (hF := store_fn _ _ p (begI p W b up vs i) W.acts.length X (v1, v2) hP.sh hok (by omega) (by omega) (have ow := hO; OwnW.re ow)) (h := ?_)
    rintro y H1 hO1
    clear fx
    rw [hst] at hO1
    have hT1 := hO1.top
    simp only [wRow] at hT1
    have fx := And.intro t0 <| And.intro t1 <| And.intro t3 <| And.intro hp2 <| And.intro t8 <| And.intro hp8 <| And.intro t10 <| And.intro t11 <| And.intro hT <| And.intro hT1 <| And.intro hil <| And.intro hk <| And.intro hkE <| And.intro hkl <| And.intro hx <| And.intro hxE <| And.intro hxl <| And.intro hva <| And.intro hvE <| hal'
    refine k_run ?_
    repeat ((first | refine wSc (id := 2) qsPc0 mixed ?_ | refine wSc (id := 7) qsPc1 mixed ?_ | refine wSc (id := 10) qsPc2 mixed ?_ | refine wSc (id := 11) qsPc3 mixed ?_); refine k_rund ?_; refine k_run ?_)
    clear fx
    refine ⟨vs.length - (i + 1), by omega, i + 1, rfl, by omega, by simp [t0, hT], by simp [t1], by simp [t3], by simp [hp2], by simp [t8], by simp [hp8], by simp [t10], by simp [t11]; exact wrp (by omega) (by omega), (have ow := hO1; OwnW.re ow)⟩
  · obtain rfl : i = vs.length := by omega
    have hbeg : begI p W b up vs vs.length = beginW p W b up vs := begI_all (by omega) (Nat.le_refl _)
    rw [hbeg] at hO hok hlen hT hA
    have fx := And.intro t0 <| And.intro t1 <| And.intro t3 <| And.intro t10 <| And.intro t11 <| hT
    refine k_run ?_
    repeat ((first | refine wSc (id := 2) qsPc0 mixed ?_ | refine wSc (id := 7) qsPc1 mixed ?_ | refine wSc (id := 10) qsPc2 mixed ?_ | refine wSc (id := 11) qsPc3 mixed ?_); refine k_rund ?_; refine k_run ?_)
    clear fx
    intro K hK
    have fx := And.intro t0 (And.intro t10 hT)
    refine x_mut Wn rfl (by simp [hT]) (hF := hR _ (beginW p W b up vs) W.acts.length (have ow := hO; OwnW.re ow) hok hn (by omega) h0 (by simp)) (h := ?_)
    rintro y H1 ⟨rfl, hO1⟩
    clear fx
    obtain ⟨hAf, hvok⟩ := runW_ok hP.sh n (beginW p W b up vs) W.acts.length hok hn (by omega) h0
    have hent : enterW p (runW p n) W b up vs = (endW (runW p n (beginW p W b up vs) W.acts.length).1, (runW p n (beginW p W b up vs) W.acts.length).2) := rfl
    generalize runW p n (beginW p W b up vs) W.acts.length = q at hO1 hAf hvok hent
    obtain ⟨V, v1, v2⟩ := q
    simp only at hO1 hAf hvok hent
    have hVl : W.acts.length < V.acts.length := by have := hAf.grow.lacts; omega
    obtain ⟨a', ha'⟩ : ∃ a', V.acts[W.acts.length]? = some a' := ⟨_, gE hVl⟩
    obtain ⟨_, haE⟩ := gS ha'
    have hal8 := (hAf.ok.vars _ a' ha').1
    have hT1 := hO1.top
    have hA1 := hO1.acts
    have hV1 := hO1.act _ a' ha'
    obtain ⟨sl1, hS1⟩ := hO1.stk
    simp only [wRow] at hT1
    by_cases hen : V.en = 0
    · have hstk : V.stack = W.stack ++ [W.acts.length] := hAf.stk hen
      have hsl1 : V.stack.length = W.stack.length + 1 := by rw [hstk]; simp
      have hwr : IntKind.i64.wrap (W.stack.length : Int) = W.stack.length := wrp (by omega) (by omega)
      have hend : endW V = { V with stack := W.stack } := by
        unfold endW
        rw [if_pos hen, hstk]
        simp
      rw [hend] at hent
      rw [hsl1] at hT1
      have hle1 : (W.stack.length : Int) ≤ (W.stack.length : Int) + 1 := by omega
      have hle0 : (0 : Int) ≤ (W.stack.length : Int) := by omega
      have fx := And.intro t0 <| And.intro t1 <| And.intro t3 <| And.intro t8 <| And.intro hp8 <| And.intro t10 <| And.intro t11 <| And.intro hT <| And.intro hT1 <| And.intro hA1 <| And.intro hV1 <| And.intro hS1 <| And.intro hen <| And.intro hsl1 <| And.intro hwr <| And.intro hle1 <| And.intro hle0 <| And.intro ha' <| And.intro haE <| hVl
      have d1 := copySlots_fn gl a'.vars hal8
      refine k_run ?_
      repeat ((first | refine wSc (id := 2) qsPc0 mixed ?_ | refine wSc (id := 7) qsPc1 mixed ?_ | refine wSc (id := 10) qsPc2 mixed ?_ | refine wSc (id := 11) qsPc3 mixed ?_); refine k_rund ?_; refine k_run ?_)
      clear fx d1
      rw [hent]
      refine e_ret [(.s 9, root)] (.one rfl) (by simp [t8]; rfl) ⟨by simp, ?_, OwnW.finD ?_ (fun _ => D12_root) (fun m hm => by simp [hm]) (by simp [Nm.sroot])⟩
      · simp [hr1, hr2, Wld.vars, ha']
      · exact ⟨by simp [wRow, hen], by simp [hA1], fun i a ha => by simp [hO1.act i a ha], ⟨(W.acts.length : Int) :: sl1, by simp [hS1, hstk, nints]⟩, by simp [hO1.glob], by simp [hO1.funs], by simp [hO1.clss], fun i c hc => by simp [hO1.cls i c hc], by simp [hO1.out], by simp [hO1.trc]⟩
    · have hend : endW V = V := by
        unfold endW
        rw [if_neg hen]
      have henb : (V.en == 0) = false := by simpa using hen
      rw [hend] at hent
      have fx := And.intro t0 <| And.intro t1 <| And.intro t3 <| And.intro t8 <| And.intro hp8 <| And.intro t10 <| And.intro t11 <| And.intro hT <| And.intro hT1 <| And.intro hA1 <| And.intro hV1 <| And.intro henb <| And.intro ha' <| And.intro haE <| hVl
      have d1 := copySlots_fn gl a'.vars hal8
      refine k_run ?_
      repeat ((first | refine wSc (id := 2) qsPc0 mixed ?_ | refine wSc (id := 7) qsPc1 mixed ?_ | refine wSc (id := 10) qsPc2 mixed ?_ | refine wSc (id := 11) qsPc3 mixed ?_); refine k_rund ?_; refine k_run ?_)
      clear fx d1
      rw [hent]
      refine e_ret [(.s 9, root)] (.one rfl) (by simp [t8]; rfl) ⟨by simp, ?_, OwnW.finD (have ow := hO1; OwnW.re ow) (fun _ => D12_root) (fun m hm => by simp [hm]) (by simp [Nm.sroot])⟩
      simp [hr1, hr2, Wld.vars, ha']
abbrev qsPd0 : Sch := .q 0 <| .q 1 <| .q 2 <| .q 3 <| .q 4 <| .q 5 <| .q 6 <| .q 7 <| .l 8 [7, 6, 5, 4, 3, 2, 1, 0] <| .l 9 [] <| .done
abbrev qsPd1 : Sch := .q 0 <| .q 1 <| .q 2 <| .q 3 <| .q 4 <| .q 5 <| .q 6 <| .q 7 <| .q 8 <| .q 9 <| .q 10 <| .q 11 <| .q 12 <| .q 13 <| .done
theorem call_fn (gl) (p : Prg) (n : Nat) (hR : RBok gl p n) (H : Nm → Option AO) (W : Wld) (f : Val) (lo : Nat) (vs all : List Val) (hP : ValP p) (hw : WOk p W) (hn : W.left < n) (h0 : W.en = 0) (hf : VOk W.funs.length W.classes.length f) (hv : ∀ v ∈ vs, VOk W.funs.length W.classes.length v) (hr : Room 1 W)
    (hall : all.drop lo = vs) (hlo : lo + vs.length = all.length) (hv2 : vs.length ≤ 1) (hO : OwnW H p W) (hL : H (.u 2 0 0) = some (.row 2 (vrows all))) :
    FnE Tryz.prog gl 209 D12 [.pt Wn 0, Val.av f, .hs (.u 2 0 0) 2 lo vs.length] H (fun _ y H' => y = Val.av (callW p (runW p n) W f vs).2 ∧ OwnW H' p (callW p (runW p n) W f vs).1) noE := by
  have hT := hO.top
  simp only [wRow] at hT
  obtain ⟨f1, f2⟩ := f
  refine FnE.of_sem Tryz.func209 rfl (by kernel_rfl) (rs := [.cell 6 171]) rfl Tryz.ntmps209 (Nat.le_of_ble_eq_true rfl) (fun _ => D12_root) fun C w g root hroot => ?_
  by_cases h2 : f1 = 2
  · subst h2
    have hf2 := hf.num
    have hf3 := hf.fn rfl
    simp only at hf2 hf3
    obtain ⟨i, rfl⟩ : ∃ i : Nat, f2 = i := ⟨f2.toNat, by omega⟩
    have hil : i < W.funs.length := by omega
    obtain ⟨g, hg⟩ : ∃ g, W.funs[i]? = some g := ⟨_, gE hil⟩
    obtain ⟨_, hgE⟩ := gS hg
    have hm := hw.funs i g hg
    obtain ⟨k, hk, hpk⟩ := hm.shape
    obtain ⟨hkl, hkE⟩ := gS hk
    have hF := hO.funs
    by_cases hl : k.params.length = vs.length
    · have hc : callW p (runW p n) W (2, (i : Int)) vs = enterW p (runW p n) W g.1 g.2 vs := by
        simp [callW, hg, hpk, hl]
      have hlb : ((k.params.length : Int) == (vs.length : Int)) = true := by rw [hl]; simp
      have fx := And.intro hT <| And.intro hF <| And.intro hil <| And.intro hg <| And.intro hgE <| And.intro hk <| And.intro hkE <| And.intro hkl <| And.intro hlb <| @bne_def
      refine k_run ?_
      repeat ((first | refine wSc (id := 4) qsPd0 mixed ?_ | refine wSc (id := 5) qsPd1 mixed ?_); refine k_rund ?_; refine k_run ?_)
      clear fx
      intro K hK
      have fx := And.intro hT hF
      refine x_mut12 (by simp [hT]) (by simp [hL]) (hF := enter_fn _ p n hR _ W g.1 g.2 lo vs all hP hw hn h0 hm hv hr hall hlo (by rw [hpk, hl]) hv2 (have ow := hO; OwnW.re ow) (by simp [hL])) (h := ?_)
      rintro y H1 ⟨rfl, hp1, hO1⟩
      clear fx
      have hT1 := hO1.top
      simp only [wRow] at hT1
      have fx := And.intro hT <| And.intro hT1 <| hp1
      refine k_run ?_
      repeat ((first | refine wSc (id := 4) qsPd0 mixed ?_ | refine wSc (id := 5) qsPd1 mixed ?_); refine k_rund ?_; refine k_run ?_)
      clear fx
      rw [hc]
      refine e_ret [] .nil (by simp; rfl) ⟨by simp, OwnW.finD (have ow := hO1; OwnW.re ow) (fun _ => D12_root) (fun m hm => by simp [hm]) (by simp)⟩
    · have hc : callW p (runW p n) W (2, (i : Int)) vs = ({ W with en := 6 }, (0, 0)) := by
        simp [callW, hg, hpk, hl]
      have hlb : ((k.params.length : Int) == (vs.length : Int)) = false := by
        rw [beq_eq_false_iff_ne]
        omega
      have fx := And.intro hT <| And.intro hF <| And.intro hil <| And.intro hg <| And.intro hgE <| And.intro hk <| And.intro hkE <| And.intro hkl <| And.intro hlb <| @bne_def
      refine k_run ?_
      repeat ((first | refine wSc (id := 4) qsPd0 mixed ?_ | refine wSc (id := 5) qsPd1 mixed ?_); refine k_rund ?_; refine k_run ?_)
      clear fx
      rw [hc]
      refine e_ret [] .nil (by simp; rfl) ⟨by simp, OwnW.finD ⟨by simp [hO.top, wRow, hT], by simp [hO.acts, hT], fun i a ha => by simp [hO.act i a ha, hT], hO.stk.imp fun l hl => by simp [hl, hT], by simp [hO.glob, hT], by simp [hO.funs, hT], by simp [hO.clss, hT], fun i c hc => by simp [hO.cls i c hc, hT], by simp [hO.out, hT], by simp [hO.trc, hT]⟩ (fun _ => D12_root) (fun m hm => by simp [hm]) (by simp)⟩
  · have hb1 : (f1 == 2) = false := by simpa using h2
    have hc : callW p (runW p n) W (f1, f2) vs = ({ W with en := 5 }, (0, 0)) := by simp [callW, h2]
    have fx := And.intro hT <| And.intro hb1 <| @bne_def
    refine k_run ?_
    repeat ((first | refine wSc (id := 4) qsPd0 mixed ?_ | refine wSc (id := 5) qsPd1 mixed ?_); refine k_rund ?_; refine k_run ?_)
    clear fx
    rw [hc]
    refine e_ret [] .nil (by simp; rfl) ⟨by simp, OwnW.finD ⟨by simp [hO.top, wRow, hT], by simp [hO.acts, hT], fun i a ha => by simp [hO.act i a ha, hT], hO.stk.imp fun l hl => by simp [hl, hT], by simp [hO.glob, hT], by simp [hO.funs, hT], by simp [hO.clss, hT], fun i c hc => by simp [hO.cls i c hc, hT], by simp [hO.out, hT], by simp [hO.trc, hT]⟩ (fun _ => D12_root) (fun m hm => by simp [hm]) (by simp)⟩
end Go.Proofs.YtmaoicgfcngciaaGreatDoor
end
