/-
  Own texts, joined by mkclaim.py: Qb, Qc, Qd, Qe, Qf, Qm.
-/
import Derived.Test.YtmaoicgfcngciaaGreatDoorR30
import Derived.Test.YtmaoicgfcngciaaGreatDoorR19
import Derived.Test.YtmaoicgfcngciaaGreatDoorR25
import Derived.Test.YtmaoicgfcngciaaGreatDoorR14
import Derived.Test.YtmaoicgfcngciaaGreatDoorR20
import Derived.Shelf.SlMaps.Clone
set_option linter.unusedSimpArgs false
set_option linter.unusedVariables false
set_option maxRecDepth 100000
set_option maxHeartbeats 4000000

section
namespace Go.Proofs.YtmaoicgfcngciaaGreatDoor
open Go Go.Hm Go.Proofs
theorem readM_fn (gl) (H : Nm → Option AO) (F : Nat) (p : Prg) (W : Wld) (a x : Nat) (hP : ShapeP p) (hw : WOk p W) (ha : a < W.acts.length) (hx : x < 8) (h0 : W.en = 0) (hO : OwnM H F p W) :
    FnE Tryz.prog gl 194 DM [.pt Mn 0, ptE a, iv x] H (fun _ y H' => y = .tup [Val.av (loadW p W a x).2, bv (decide ((loadW p W a x).1.en = 0))] ∧ OwnM H' F p (loadW p W a x).1) noE := by
  have hh := hP.heads
  have hx7 : 0 ≤ (x : Int) ∧ (x : Int) ≤ 7 := by omega
  obtain ⟨hnm, hil⟩ := nms_loc (x := (x : Int)) hh hw ha
  have hT := hO.top
  simp only [mRow] at hT
  obtain ⟨c, hc⟩ : ∃ c, W.acts[a]? = some c := ⟨_, gE ha⟩
  have hE := hO.env a c hc
  refine FnE.of_sem Tryz.func194 rfl (by kernel_rfl) (rs := [.cell 6 171, .tmp 7]) rfl Tryz.ntmps194 (Nat.le_of_ble_eq_true rfl) (fun _ => DM_root) fun C w g root hroot => ?_
  have fx := fx0
  refine k_run ?_
  clear fx
  intro K hK
  have fx := fx0
  refine x_callM hO (have om := hO; OwnM.re om) (Nat.le_refl _) (Nat.le_refl _) (hF := fun hs => holderOf_fn _ _ F p W a x hP hw ha hx hs) (h := ?_)
  rintro y H1 ⟨rfl, hO1⟩
  clear fx
  have hT1 := hO1.top
  simp only [mRow] at hT1
  obtain ⟨o, ho⟩ : ∃ o, owner p (W.blk a) x = o := ⟨_, rfl⟩
  obtain ⟨l, hl⟩ : ∃ l, W.loc p a x = l := ⟨_, rfl⟩
  rw [hl] at hnm hil ⊢
  rw [ho]
  obtain ⟨i, hi⟩ : ∃ i, hIdx l = i := ⟨_, rfl⟩
  rw [hi] at hnm hil ⊢
  obtain ⟨d, hd⟩ : ∃ d, W.acts[i]? = some d := ⟨_, gE hil⟩
  have hE1 := hO1.env i d hd
  simp only [envRow] at hE1
  obtain ⟨ms, hms, hmo⟩ := hO1.nms i hil
  rw [hnm] at hmo
  have hlk := hmo.get' hx7
  cases hg : W.get l x with
  | some v =>
    rw [hg] at hlk
    have hlw : loadW p W a x = (W, v) := by simp only [loadW, hl, hg]
    have fx := And.intro hT <| And.intro hE <| And.intro hT1 <| And.intro hE1 <| And.intro hms <| hlk
    refine k_run ?_
    clear fx
    rw [hlw]
    refine e_ret [] .nil (by simp; rfl) ⟨by simp [h0], OwnM.fin (have om := hO1; OwnM.re om)⟩
  | none =>
    rw [hg] at hlk
    by_cases h4 : Hm.lack p (W.blk a) o = 4
    · have h4b : (Hm.lack p (W.blk a) o == 4) = true := by simpa using h4
      obtain ⟨a0, h00, hb0⟩ := hw.a0
      have hl0 := (gS h00).1
      have hE0 := hO1.env 0 a0 h00
      simp only [envRow] at hE0
      obtain ⟨mg, hmg, hgo⟩ := hO1.nms 0 hl0
      have hgo' : MapOk mg (W.vars none) := by simpa [Wld.nms, Wld.vars] using hgo
      have hlg := hgo'.get' hx7
      cases hg2 : W.get none x with
      | some v =>
        rw [hg2] at hlg
        have hlw : loadW p W a x = (W, v) := by simp only [loadW, hl, ho, hg, h4, if_true, hg2]
        have fx := And.intro hT <| And.intro hE <| And.intro hT1 <| And.intro hE1 <| And.intro hms <| And.intro hlk <| And.intro h4b <| And.intro hE0 <| And.intro hmg <| And.intro hlg <| @bne_def
        refine k_run ?_
        clear fx
        rw [hlw]
        refine e_ret [] .nil (by simp; rfl) ⟨by simp [h0], OwnM.fin (have om := hO1; OwnM.re om)⟩
      | none =>
        rw [hg2] at hlg
        by_cases h7 : x = 7
        · subst h7
          have hlw : loadW p W a ((7 : Nat) : Int) = (W, (1, 70)) := by simp only [loadW, hl, ho, hg, h4, if_true, hg2]; simp
          have hlk7 : lk (7 : Int) ms = none := hlk
          have hlg7 : lk (7 : Int) mg = none := hlg
          have fx := And.intro hT <| And.intro hE <| And.intro hT1 <| And.intro hE1 <| And.intro hms <| And.intro hlk7 <| And.intro h4b <| And.intro hE0 <| And.intro hmg <| And.intro hlg7 <| @bne_def
          refine k_run ?_
          clear fx
          rw [hlw]
          refine e_ret [] .nil (by simp; rfl) ⟨by simp [h0], OwnM.fin (have om := hO1; OwnM.re om)⟩
        · have h7i : ¬ (x : Int) = 7 := by omega
          have h7b : ((x : Int) == 7) = false := by simpa using h7i
          have hlw : loadW p W a x = ({ W with en := 4 }, (0, 0)) := by
            simp only [loadW, hl, ho, hg, h4, if_true, hg2, h7i, if_false]
          have fx := And.intro hT <| And.intro hE <| And.intro hT1 <| And.intro hE1 <| And.intro hms <| And.intro hlk <| And.intro h4b <| And.intro hE0 <| And.intro hmg <| And.intro hlg <| And.intro h7b <| @bne_def
          refine k_run ?_
          clear fx
          intro K hK
          have fx := And.intro hT (And.intro hE hT1)
          refine x_callM hO (have om := hO1; OwnM.re om) (Nat.le_refl _) (Nat.le_refl _) (hF := fun hs => stop_fn _ _ F p W 4 hs) (h := ?_)
          rintro y H2 ⟨rfl, hO2⟩
          clear fx
          have hT2 := hO2.top
          simp only [mRow] at hT2
          have fx := And.intro hT <| And.intro hE <| And.intro hT1 <| And.intro hE1 <| hT2
          refine k_run ?_
          clear fx
          rw [hlw]
          refine e_ret [] .nil (by simp; rfl) ⟨by simp, OwnM.fin (have om := hO2; OwnM.re om)⟩
    · have h4b : (Hm.lack p (W.blk a) o == 4) = false := by simpa using h4
      have hlw : loadW p W a x = ({ W with en := Hm.lack p (W.blk a) o }, (0, 0)) := by simp only [loadW, hl, ho, hg, h4, if_false]
      have hne : ¬ Hm.lack p (W.blk a) o = 0 := lack_ne
      have fx := And.intro hT <| And.intro hE <| And.intro hT1 <| And.intro hE1 <| And.intro hms <| And.intro hlk <| And.intro h4b <| @bne_def
      refine k_run ?_
      clear fx
      intro K hK
      have fx := And.intro hT (And.intro hE hT1)
      refine x_callM hO (have om := hO1; OwnM.re om) (Nat.le_refl _) (Nat.le_refl _) (hF := fun hs => stop_fn _ _ F p W (Hm.lack p (W.blk a) o) hs) (h := ?_)
      rintro y H2 ⟨rfl, hO2⟩
      clear fx
      have hT2 := hO2.top
      simp only [mRow] at hT2
      have fx := And.intro hT <| And.intro hE <| And.intro hT1 <| And.intro hE1 <| hT2
      refine k_run ?_
      clear fx
      rw [hlw]
      refine e_ret [] .nil (by simp; rfl) ⟨by simp [hne], OwnM.fin (have om := hO2; OwnM.re om)⟩
theorem drop_fn (gl) (H : Nm → Option AO) (F : Nat) (p : Prg) (W : Wld) (a x : Nat) (hP : ShapeP p) (hw : WOk p W) (ha : a < W.acts.length) (hx : x < 8) (h0 : W.en = 0) (hO : OwnM H F p W) :
    FnE Tryz.prog gl 195 DM [.pt Mn 0, ptE a, iv x] H (fun _ y H' => y = bv (decide ((takeW p W a x).en = 0)) ∧ OwnM H' F p (takeW p W a x)) noE := by
  have hh := hP.heads
  have hx7 : 0 ≤ (x : Int) ∧ (x : Int) ≤ 7 := by omega
  obtain ⟨hnm, hil⟩ := nms_loc (x := (x : Int)) hh hw ha
  have hT := hO.top
  simp only [mRow] at hT
  obtain ⟨c, hc⟩ : ∃ c, W.acts[a]? = some c := ⟨_, gE ha⟩
  have hE := hO.env a c hc
  refine FnE.of_sem Tryz.func195 rfl (by kernel_rfl) (rs := [.tmp 6]) rfl Tryz.ntmps195 (Nat.le_of_ble_eq_true rfl) (fun _ => DM_root) fun C w g root hroot => ?_
  have fx := fx0
  refine k_run ?_
  clear fx
  intro K hK
  have fx := fx0
  refine x_callM hO (have om := hO; OwnM.re om) (Nat.le_refl _) (Nat.le_refl _) (hF := fun hs => holderOf_fn _ _ F p W a x hP hw ha hx hs) (h := ?_)
  rintro y H1 ⟨rfl, hO1⟩
  clear fx
  have hT1 := hO1.top
  simp only [mRow] at hT1
  obtain ⟨o, ho⟩ : ∃ o, owner p (W.blk a) x = o := ⟨_, rfl⟩
  obtain ⟨l, hl⟩ : ∃ l, W.loc p a x = l := ⟨_, rfl⟩
  have hnm0 := hnm
  rw [hl] at hnm hil ⊢
  rw [ho]
  obtain ⟨i, hi⟩ : ∃ i, hIdx l = i := ⟨_, rfl⟩
  rw [hi] at hnm hil ⊢
  obtain ⟨d, hd⟩ : ∃ d, W.acts[i]? = some d := ⟨_, gE hil⟩
  have hE1 := hO1.env i d hd
  simp only [envRow] at hE1
  obtain ⟨ms, hms, hmo⟩ := hO1.nms i hil
  rw [hnm] at hmo
  have hlk := hmo.get' hx7
  cases hg : W.get l x with
  | none =>
    rw [hg] at hlk
    have hlw : takeW p W a x = { W with en := Hm.lack p (W.blk a) o } := by
      unfold takeW
      rw [hl, hg, ho]
    have hne : ¬ Hm.lack p (W.blk a) o = 0 := lack_ne
    have fx := And.intro hT <| And.intro hE <| And.intro hT1 <| And.intro hE1 <| And.intro hms <| And.intro hlk <| @bne_def
    refine k_run ?_
    clear fx
    intro K hK
    have fx := And.intro hT (And.intro hE hT1)
    refine x_callM hO (have om := hO1; OwnM.re om) (Nat.le_refl _) (Nat.le_refl _) (hF := fun hs => stop_fn _ _ F p W (Hm.lack p (W.blk a) o) hs) (h := ?_)
    rintro y H2 ⟨rfl, hO2⟩
    clear fx
    have hT2 := hO2.top
    simp only [mRow] at hT2
    have fx := And.intro hT <| And.intro hE <| And.intro hT1 <| And.intro hE1 <| hT2
    refine k_run ?_
    clear fx
    rw [hlw]
    refine e_ret [] .nil (by simp; rfl) ⟨by simp [hne], OwnM.fin (have om := hO2; OwnM.re om)⟩
  | some v =>
    rw [hg] at hlk
    have hlw : takeW p W a x = W.set l x none := by
      unfold takeW
      rw [hl, hg]
    have fx := And.intro hT <| And.intro hE <| And.intro hT1 <| And.intro hE1 <| And.intro hms <| And.intro hlk <| @bne_def
    refine k_run ?_
    clear fx
    intro K hK
    refine o_abs (fun st => st.tm 35 = .mp (.c (En i) 0 1) ∧ st.tm 36 = iv x ∧ st.hp (.c (En i) 0 1) = some (.map (mrows ms)) ∧ OwnM st.hp F p W) ⟨by simp [hT, hE], by simp, by simp [hms], (have om := hO1; OwnM.re om)⟩ ?_
    rintro st ⟨t35, t36, hms', hO2⟩
    have fx := And.intro t35 (And.intro t36 hms')
    refine x_delete (h := ?_)
    clear fx
    have fx :=  hT
    refine k_run ?_
    clear fx
    rw [hlw]
    refine e_ret [] .nil (by simp; rfl) ⟨by rw [set_same.2.2.2.2.2.2]; simp [h0], OwnM.fin (ownM_set hh hw ha hx hl hnm0 hO2 (hmo.del hx7) fun m hm => ?_)⟩
    rw [hi]
    simp
abbrev qsQc0 : Sch := .q 0 <| .q 1 <| .q 2 <| .q 3 <| .q 4 <| .q 5 <| .q 6 <| .q 7 <| .q 8 <| .q 9 <| .q 10 <| .q 11 <| .q 12 <| .l 13 [12, 11, 10, 9, 8, 7, 6, 5, 4, 3, 2, 1, 0] <| .l 14 [12] <| .l 15 [] <| .done
theorem tmod_natI {v : Int} (hv : 0 ≤ v) : ∃ k : Nat, v.tmod 1000 = k ∧ k < 1000 := by
  have h1 := Int.tmod_nonneg 1000 hv
  have h2 := Int.tmod_lt_of_pos v (show (0 : Int) < 1000 by omega)
  exact ⟨(v.tmod 1000).toNat, by omega, by omega⟩
theorem add_fn (gl) (H : Nm → Option AO) (F : Nat) (p : Prg) (W : Wld) (u v : Val) (h0 : W.en = 0) (hu : VOk W.funs.length W.classes.length u) (hv : VOk W.funs.length W.classes.length v) (hO : OwnM H F p W) :
    FnE Tryz.prog gl 211 DM [.pt Mn 0, Val.av u, Val.av v] H (fun _ y H' => y = .tup [Val.av (plusW W u v).2, bv (decide ((plusW W u v).1.en = 0))] ∧ OwnM H' F p (plusW W u v).1) noE := by
  have hT := hO.top
  simp only [mRow] at hT
  obtain ⟨u1, u2⟩ := u
  obtain ⟨v1, v2⟩ := v
  have hu2 := hu.num
  have hv2 := hv.num
  simp only at hu2 hv2
  have hwr : IntKind.i64.wrap (u2 + v2) = u2 + v2 := wrp (by omega) (by omega)
  obtain ⟨q, hq, hql⟩ := tmod_natI (v := u2 + v2) (by omega)
  have hwq : IntKind.i64.wrap (q : Int) = q := wrp (by omega) (by omega)
  refine FnE.of_sem Tryz.func211 rfl (by kernel_rfl) (rs := [.cell 6 171, .tmp 7]) rfl Tryz.ntmps211 (Nat.le_of_ble_eq_true rfl) (fun _ => DM_root) fun C w g root hroot => ?_
  by_cases h1 : u1 = 1
  · by_cases h2 : v1 = 1
    · subst h1
      subst h2
      have hlw : plusW W (1, u2) (1, v2) = (W, (1, (q : Int))) := by simp [plusW, hq]
      have fx := And.intro hT <| And.intro hwr <| And.intro hq <| And.intro hwq <| @bne_def
      refine k_run ?_
      clear fx
      rw [hlw]
      refine e_ret [] .nil (by simp; rfl) ⟨by simp [h0], OwnM.fin (have om := hO; OwnM.re om)⟩
    · subst h1
      have hb2 : (v1 == 1) = false := by simpa using h2
      have hlw : plusW W (1, u2) (v1, v2) = ({ W with en := 5 }, (0, 0)) := by simp [plusW, h2]
      have fx := And.intro hT <| And.intro hb2 <| @bne_def
      refine k_run ?_
      clear fx
      intro K hK
      have fx := hT
      refine x_callM hO (have om := hO; OwnM.re om) (Nat.le_refl _) (Nat.le_refl _) (hF := fun hs => stop_fn _ _ F p W 5 hs) (h := ?_)
      rintro y H2 ⟨rfl, hO2⟩
      clear fx
      have hT2 := hO2.top
      simp only [mRow] at hT2
      have fx := And.intro hT <| hT2
      refine k_run ?_
      clear fx
      rw [hlw]
      refine e_ret [] .nil (by simp; rfl) ⟨by simp, OwnM.fin (have om := hO2; OwnM.re om)⟩
  · have hb1 : (u1 == 1) = false := by simpa using h1
    have hlw : plusW W (u1, u2) (v1, v2) = ({ W with en := 5 }, (0, 0)) := by simp [plusW, h1]
    have fx := And.intro hT <| And.intro hb1 <| @bne_def
    refine k_run ?_
    clear fx
    intro K hK
    have fx := hT
    refine x_callM hO (have om := hO; OwnM.re om) (Nat.le_refl _) (Nat.le_refl _) (hF := fun hs => stop_fn _ _ F p W 5 hs) (h := ?_)
    rintro y H2 ⟨rfl, hO2⟩
    clear fx
    have hT2 := hO2.top
    simp only [mRow] at hT2
    have fx := And.intro hT <| hT2
    refine k_run ?_
    clear fx
    rw [hlw]
    refine e_ret [] .nil (by simp; rfl) ⟨by simp, OwnM.fin (have om := hO2; OwnM.re om)⟩
theorem attribute_fn (gl) (H : Nm → Option AO) (F : Nat) (p : Prg) (W : Wld) (v : Val) (x : Nat) (h0 : W.en = 0) (hw : WOk p W) (hv : VOk W.funs.length W.classes.length v) (hx : x < 8) (hO : OwnM H F p W) :
    FnE Tryz.prog gl 215 DM [.pt Mn 0, Val.av v, iv x] H (fun _ y H' => y = .tup [Val.av (attrW W v x).2, bv (decide ((attrW W v x).1.en = 0))] ∧ OwnM H' F p (attrW W v x).1) noE := by
  have hT := hO.top
  simp only [mRow] at hT
  obtain ⟨v1, v2⟩ := v
  refine FnE.of_sem Tryz.func215 rfl (by kernel_rfl) (rs := [.cell 6 171, .tmp 7]) rfl Tryz.ntmps215 (Nat.le_of_ble_eq_true rfl) (fun _ => DM_root) fun C w g root hroot => ?_
  by_cases h1 : v1 = 3
  · subst h1
    have hv2 := hv.num
    have hv3 := hv.cls rfl
    simp only at hv2 hv3
    obtain ⟨i, rfl⟩ : ∃ i : Nat, v2 = i := ⟨v2.toNat, by omega⟩
    have hil : i < W.classes.length := by omega
    obtain ⟨c, hc⟩ : ∃ c, W.classes[i]? = some c := ⟨_, gE hil⟩
    have hC := hO.clss
    obtain ⟨ms, hms, hmo⟩ := hO.cls i c hc
    have hcl := (hw.cls c (List.mem_of_getElem? hc)).1
    obtain ⟨s, hs⟩ : ∃ s, c[x]? = some s := ⟨_, gE (by omega)⟩
    have hlk : lk (x : Int) ms = s := by
      rw [hmo.at (by omega)]
      simp [hs]
    cases s with
    | some u =>
      have hlw : attrW W (3, (i : Int)) x = (W, u) := by simp [attrW, hc, hs]
      have fx := And.intro hT <| And.intro hC <| And.intro hms <| And.intro hil <| And.intro hlk <| @bne_def
      refine k_run ?_
      repeat ((first | refine wSc (id := 3) qsQc0 mixed ?_); refine k_rund ?_; refine k_run ?_)
      clear fx
      rw [hlw]
      refine e_ret [] .nil (by simp; rfl) ⟨by simp [h0], OwnM.fin (have om := hO; OwnM.re om)⟩
    | none =>
      have hlw : attrW W (3, (i : Int)) x = ({ W with en := 7 }, (0, 0)) := by simp [attrW, hc, hs]
      have fx := And.intro hT <| And.intro hC <| And.intro hms <| And.intro hil <| And.intro hlk <| @bne_def
      refine k_run ?_
      repeat ((first | refine wSc (id := 3) qsQc0 mixed ?_); refine k_rund ?_; refine k_run ?_)
      clear fx
      intro K hK
      have fx := hT
      refine x_callM hO (have om := hO; OwnM.re om) (Nat.le_refl _) (Nat.le_refl _) (hF := fun hs => stop_fn _ _ F p W 7 hs) (h := ?_)
      rintro y H2 ⟨rfl, hO2⟩
      clear fx
      have hT2 := hO2.top
      simp only [mRow] at hT2
      have fx := And.intro hT <| hT2
      refine k_run ?_
      repeat ((first | refine wSc (id := 3) qsQc0 mixed ?_); refine k_rund ?_; refine k_run ?_)
      clear fx
      rw [hlw]
      refine e_ret [] .nil (by simp; rfl) ⟨by simp, OwnM.fin (have om := hO2; OwnM.re om)⟩
  · have hb1 : (v1 == 3) = false := by simpa using h1
    have hlw : attrW W (v1, v2) x = ({ W with en := 5 }, (0, 0)) := by simp [attrW, h1]
    have fx := And.intro hT <| And.intro hb1 <| @bne_def
    refine k_run ?_
    repeat ((first | refine wSc (id := 3) qsQc0 mixed ?_); refine k_rund ?_; refine k_run ?_)
    clear fx
    intro K hK
    have fx := hT
    refine x_callM hO (have om := hO; OwnM.re om) (Nat.le_refl _) (Nat.le_refl _) (hF := fun hs => stop_fn _ _ F p W 5 hs) (h := ?_)
    rintro y H2 ⟨rfl, hO2⟩
    clear fx
    have hT2 := hO2.top
    simp only [mRow] at hT2
    have fx := And.intro hT <| hT2
    refine k_run ?_
    repeat ((first | refine wSc (id := 3) qsQc0 mixed ?_); refine k_rund ?_; refine k_run ?_)
    clear fx
    rw [hlw]
    refine e_ret [] .nil (by simp; rfl) ⟨by simp, OwnM.fin (have om := hO2; OwnM.re om)⟩
theorem readAll_fn (gl) (H : Nm → Option AO) (F : Nat) (p : Prg) (W : Wld) (a : Nat) (s : Stm) (hP : ShapeP p) (hw : WOk p W) (ha : a < W.acts.length) (h0 : W.en = 0) (hkd : 0 ≤ s.kind ∧ s.kind ≤ 11) (hrd : ∀ x ∈ s.reads, 0 ≤ x ∧ x ≤ 7) (hO : OwnM H F p W) :
    FnE Tryz.prog gl 167 DM [.pt Mn 0, ptE a, s.av] H (fun r y H' => OwnM H' F p (loadsW p W a s.reads).1 ∧ (((loadsW p W a s.reads).1.en = 0 ∧ y = .tup [.hs r 2 0 (loadsW p W a s.reads).2.length, bv true] ∧ H' r = some (.row 2 (vrows (loadsW p W a s.reads).2))) ∨ ((loadsW p W a s.reads).1.en ≠ 0 ∧ y = .tup [.hs r 2 0 0, bv false]))) noE := by
  have hT := hO.top
  simp only [mRow] at hT
  obtain ⟨c, hc⟩ : ∃ c, W.acts[a]? = some c := ⟨_, gE ha⟩
  have hE := hO.env a c hc
  have hrl := Stm.reads_len s
  refine FnE.of_sem Tryz.func167 rfl (by kernel_rfl) (rs := [.tmp 6, .tmp 7]) rfl Tryz.ntmps167 (Nat.le_of_ble_eq_true rfl) (fun _ => DM_root) fun C w g root hroot => ?_
  have hr0 := hroot root (Nm.under_self _)
  have fx := fx0
  have c1 := formOf_fn gl s
  refine k_run ?_
  clear fx c1
  intro K hK
  have fx := fx0
  refine x_invh (hF := reads_inv _ (by kernel_rfl) s hkd) (h := ?_)
  clear fx
  have fx := fx0
  refine k_run ?_
  clear fx
  refine w_loop (fun n st => ∃ (i : Nat) (V : Wld) (vs : List Val), n = s.reads.length - i ∧ i ≤ s.reads.length ∧ vs.length = i ∧ loadsW p W a s.reads = ((loadsW p V a (s.reads.drop i)).1, vs ++ (loadsW p V a (s.reads.drop i)).2) ∧ WOk p V ∧ V.en = 0 ∧ a < V.acts.length ∧ W.acts.length ≤ V.acts.length ∧ W.funs.length ≤ V.funs.length ∧ st.tm 0 = .pt Mn 0 ∧ st.tm 1 = ptE a ∧ st.tm 15 = .hs (.s 15) 1 0 s.reads.length ∧ st.hp (.s 15) = some (.row 1 (irows s.reads)) ∧ st.tm 16 = iv s.reads.length ∧ st.tm 17 = iv i ∧ st.tm 8 = .hs (.s 8) 2 0 vs.length ∧ st.hp (.s 8) = some (.row 2 (vrows vs)) ∧ OwnM st.hp F p V) s.reads.length ?_ ?_
  · exact ⟨0, W, [], by omega, by omega, rfl, by simp, hw, h0, ha, Nat.le_refl _, Nat.le_refl _, by simp, by simp, by simp, by simp, by simp, by simp, by simp, by simp, (have om := hO; OwnM.re om)⟩
  rintro n st - - ⟨i, V, vs, rfl, hi, hvl, hres, hV, hen, haV, hl1, hl2, t0, t1, t15, hp15, t16, t17, t8, hp8, hO1⟩
  have hT1 := hO1.top
  simp only [mRow] at hT1
  obtain ⟨d, hd⟩ : ∃ d, V.acts[a]? = some d := ⟨_, gE haV⟩
  have hE1 := hO1.env a d hd
  by_cases hil : i < s.reads.length
  · obtain ⟨x, hx⟩ : ∃ x, s.reads[i]? = some x := ⟨_, gE hil⟩
    obtain ⟨_, hxE⟩ := gS hx
    obtain ⟨hx0, hx7⟩ := hrd x (List.mem_of_getElem? hx)
    obtain ⟨X, rfl⟩ : ∃ X : Nat, x = X := ⟨x.toNat, by omega⟩
    have hdr : s.reads.drop i = (X : Int) :: s.reads.drop (i + 1) := by rw [List.drop_eq_getElem_cons hil, hxE]
    have hstep : loadsW p V a (s.reads.drop i) = ((loadsW p (loadW p V a X).1 a (s.reads.drop (i + 1))).1, (loadW p V a X).2 :: (loadsW p (loadW p V a X).1 a (s.reads.drop (i + 1))).2) := by
      rw [hdr]
      simp only [loadsW]
      rw [if_neg (by rw [hen]; decide)]
    obtain ⟨hA, _, _⟩ := loadW_ok (a := a) (x := (X : Int)) hV
    have hl3 : vs.length ≤ 2 := by omega
    have hrf := readM_fn gl (F := F) (p := p) (W := V) (a := a) (x := X)
    generalize hq : loadW p V a X = q at hstep hA hrf
    obtain ⟨V', v⟩ := q
    simp only at hstep hA hrf
    have fx := And.intro t0 <| And.intro t1 <| And.intro t15 <| And.intro hp15 <| And.intro t16 <| And.intro t17 <| And.intro t8 <| And.intro hp8 <| And.intro hil <| And.intro hx <| hxE
    refine k_run ?_
    clear fx
    intro K hK
    have fx := And.intro t0 (And.intro t1 hT1)
    refine x_callM hO (have om := hO1; OwnM.re om) hl1 hl2 (hF := fun hs => hrf _ hP hV haV (by omega) hen hs) (h := ?_)
    rintro y H2 ⟨rfl, hO2⟩
    clear fx
    have hT2 := hO2.top
    simp only [mRow] at hT2
    by_cases hen2 : V'.en = 0
    · obtain ⟨v1, v2⟩ := v
      have fx := And.intro t0 <| And.intro t1 <| And.intro t15 <| And.intro hp15 <| And.intro t16 <| And.intro t17 <| And.intro t8 <| And.intro hp8 <| And.intro hT1 <| And.intro hE1 <| And.intro hT2 <| And.intro hen2 <| hl3
      refine k_run ?_
      clear fx
      refine ⟨s.reads.length - (i + 1), by omega, i + 1, V', vs ++ [(v1, v2)], rfl, by omega, by simp [hvl], ?_, hA.ok, hen2, Nat.lt_of_lt_of_le haV hA.grow.lacts, Nat.le_trans hl1 hA.grow.lacts, Nat.le_trans hl2 hA.grow.lfuns, by simp [t0, hT1], by simp [t1, hE1], by simp [t15], by simp [hp15], by simp [t16], by simp [t17]; exact wrp (by omega) (by omega), by simp, by simp [vrows], ⟨by simp [hO2.top, mRow, hen2], ⟨by simp [hO2.scs.top, hen2], fun j k hj hk => by simp [hO2.scs.sc j k hj hk, hen2]⟩, by simp [hO2.out, hen2], by simp [hO2.trc, hen2], hO2.run.imp fun l hl => ⟨hl.1, by simp [hl.2, hen2]⟩, by simp [hO2.funs, hen2], fun k g hg => by simp [hO2.bx k g hg, hen2], by simp [hO2.clss, hen2], fun k c hc => (hO2.cls k c hc).imp fun ms hm => ⟨by simp [hm.1, hen2], hm.2⟩, fun i a ha => by simp [hO2.env i a ha, hen2], fun i hi => (hO2.nms i hi).imp fun ms hm => ⟨by simp [hm.1, hen2], hm.2⟩, fun k i j hk hn => if e : k = 1 ∧ i = 0 ∧ j = 0 then .inl e else hO2.only k i j hk (by simpa [hk, e] using hn)⟩⟩
      rw [hres, hstep]
      simp
    · have hend : (loadsW p W a s.reads).1 = V' := by
        rw [hres, hstep]
        cases hl : s.reads.drop (i + 1) with
        | nil => rfl
        | cons y l => simp only [loadsW]; rw [if_pos hen2]
      obtain ⟨v1, v2⟩ := v
      have fx := And.intro t0 <| And.intro t1 <| And.intro t15 <| And.intro hp15 <| And.intro t16 <| And.intro t17 <| And.intro t8 <| And.intro hp8 <| And.intro hT1 <| And.intro hE1 <| And.intro hT2 <| And.intro hen2 <| hl3
      refine k_run ?_
      clear fx
      refine e_ret [(.s 6, root)] (.one rfl) (by simp; rfl) ⟨by rw [hend]; exact OwnM.fin (have om := hO2; OwnM.re om), .inr ⟨by rw [hend]; exact hen2, by simp⟩⟩
  · have hge : i = s.reads.length := by omega
    have hend : loadsW p W a s.reads = (V, vs) := by
      rw [hres, hge]
      simp [loadsW]
    rw [hend]
    have fx := And.intro t0 <| And.intro t1 <| And.intro t15 <| And.intro hp15 <| And.intro t16 <| And.intro t17 <| And.intro t8 <| And.intro hp8 <| hil
    refine k_run ?_
    clear fx
    refine e_ret [(.s 6, root)] (.one rfl) (by simp; rfl) ⟨OwnM.fin (have om := hO1; OwnM.re om), .inl ⟨hen, by simp, by simp [hp8, hr0]⟩⟩
end Go.Proofs.YtmaoicgfcngciaaGreatDoor
end
section
namespace Go.Proofs.YtmaoicgfcngciaaGreatDoor
open Go Go.Hm Go.Proofs
abbrev qsQd0 : Sch := .q 0 <| .q 1 <| .q 2 <| .q 3 <| .q 4 <| .q 5 <| .q 6 <| .q 7 <| .q 8 <| .q 9 <| .q 10 <| .q 11 <| .q 12 <| .q 13 <| .l 14 [12] <| .done
def MBok (gl : Nat → Option (List AV)) (F : Nat) (p : Prg) (n : Nat) : Prop := ∀ (H : Nm → Option AO) (W : Wld) (a : Nat), OwnM H F p W → WOk p W → W.left < n → a < W.acts.length → W.en = 0 → H (.u 2 0 0) = none →
  FnE Tryz.prog gl 121 DM [.pt Mn 0, ptE a] H (fun _ y H' => y = .tup [Val.av (runW p n W a).2, bv (decide ((runW p n W a).1.en = 0))] ∧ OwnM H' F p (runW p n W a).1) noE
theorem enterM_fn (gl) (F : Nat) (p : Prg) (n : Nat) (hR : MBok gl F p n) (H : Nm → Option AO) (W : Wld) (b up : Nat) (vs : List Val) (hP : ValP p) (hw : WOk p W) (hn : W.left < n) (h0 : W.en = 0) (hm : madeAt p W.acts b up) (hv : ∀ v ∈ vs, VOk W.funs.length W.classes.length v) (hr : Room 1 W)
    (hO : OwnM H F p { beginW p W b up vs with stack := W.stack }) (hV : H (.u 2 0 0) = none) :
    FnE Tryz.prog gl 227 DM [.pt Mn 0, ptE W.acts.length] H (fun _ y H' => y = .tup [Val.av (enterW p (runW p n) W b up vs).2, bv (decide ((enterW p (runW p n) W b up vs).1.en = 0))] ∧ OwnM H' F p (enterW p (runW p n) W b up vs).1) noE := by
  have hT := hO.top
  obtain ⟨sl, hslb, hS⟩ := hO.run
  simp only [mRow] at hT
  obtain ⟨hok, hgr⟩ := beginW_ok hw hm hv hr
  have hl2 := hr.stk
  have hsl : W.stack.length ≤ 1000 := by omega
  have hlen : W.acts.length < (beginW p W b up vs).acts.length := by simp [beginW]
  obtain ⟨c, hc⟩ : ∃ c, (beginW p W b up vs).acts[W.acts.length]? = some c := ⟨_, gE hlen⟩
  have hE := hO.env W.acts.length c hc
  have hap : erows W.stack ++ [[ptE W.acts.length]] = erows (W.stack ++ [W.acts.length]) := erows_app1
  have hst : (beginW p W b up vs).stack = W.stack ++ [W.acts.length] := rfl
  refine FnE.of_sem Tryz.func227 rfl (by kernel_rfl) (rs := [.cell 4 171, .tmp 5]) rfl Tryz.ntmps227 (Nat.le_of_ble_eq_true rfl) (fun _ => DM_root) fun C w g root hroot => ?_
  have fx := And.intro hT <| And.intro hS <| hsl
  refine k_run ?_
  repeat ((first | refine wSc (id := 4) qsQd0 mixed ?_); refine k_rund ?_; refine k_run ?_)
  clear fx
  intro K hK
  have fx := And.intro hT hE
  have hBo : ∀ hp : Nm → Option AO, OwnM hp F p (beginW p W b up vs) → OwnM hp F p (beginW p W b up vs) := fun _ h => h
  refine x_callM hO (w := beginW p W b up vs) ⟨by simp [mRow, hT, hst], ⟨by simp [hO.scs.top], fun j k hj hk => by simp [hO.scs.sc j k hj hk]⟩, by simp [hO.out], by simp [hO.trc], ⟨[], by simp, by simp [hst, ← hap]⟩, by simp [hO.funs], fun k g hg => by simp [hO.bx k g hg], by simp [hO.clss], fun k c hc => (hO.cls k c hc).imp fun ms hm => ⟨by simp [hm.1], hm.2⟩, fun i a ha => by simp [hO.env i a ha], fun i hi => (hO.nms i hi).imp fun ms hm => ⟨by simp [hm.1], hm.2⟩, fun k i j hk hn => if e : k = 1 ∧ i = 0 ∧ j = 0 then .inl e else hO.only k i j hk (by simpa [hk, e] using hn)⟩ (Nat.le_refl _) (Nat.le_refl _) (hF := fun hs => hR _ (beginW p W b up vs) W.acts.length hs hok hn hlen h0 (by simp)) (h := ?_)
  rintro y H1 ⟨rfl, hO1⟩
  clear fx
  obtain ⟨hAf, hvok⟩ := runW_ok hP.sh n (beginW p W b up vs) W.acts.length hok hn hlen h0
  have hent : enterW p (runW p n) W b up vs = (endW (runW p n (beginW p W b up vs) W.acts.length).1, (runW p n (beginW p W b up vs) W.acts.length).2) := rfl
  generalize runW p n (beginW p W b up vs) W.acts.length = q at hO1 hAf hvok hent
  obtain ⟨V, v1, v2⟩ := q
  simp only at hO1 hAf hvok hent
  have hT1 := hO1.top
  obtain ⟨sl1, hslb1, hS1⟩ := hO1.run
  simp only [mRow] at hT1
  by_cases hen : V.en = 0
  · have hstk : V.stack = W.stack ++ [W.acts.length] := hAf.stk hen
    have hsl1 : V.stack.length = W.stack.length + 1 := by rw [hstk]; simp
    have hwr : IntKind.i64.wrap (W.stack.length : Int) = W.stack.length := wrp (by omega) (by omega)
    have hend : endW V = { V with stack := W.stack } := by
      unfold endW
      rw [if_pos hen, hstk]
      simp
    have hslb2 : ∀ i ∈ W.acts.length :: sl1, i < V.acts.length := by
      intro i hi
      have := hAf.grow.lacts
      rcases List.mem_cons.1 hi with e | e
      · omega
      · exact hslb1 i e
    have hle1 : (W.stack.length : Int) ≤ (W.stack.length : Int) + 1 := by omega
    have hle0 : (0 : Int) ≤ (W.stack.length : Int) := by omega
    rw [hend] at hent
    rw [hsl1] at hT1
    have fx := And.intro hT <| And.intro hE <| And.intro hT1 <| And.intro hS1 <| And.intro hen <| And.intro hwr <| And.intro hle1 <| hle0
    refine k_run ?_
    repeat ((first | refine wSc (id := 4) qsQd0 mixed ?_); refine k_rund ?_; refine k_run ?_)
    clear fx
    rw [hent]
    refine e_ret [] .nil (by simp; rfl) ⟨by simp [hen], OwnM.fin ⟨by simp [mRow, hen], ⟨by simp [hO1.scs.top], fun j k hj hk => by simp [hO1.scs.sc j k hj hk]⟩, by simp [hO1.out], by simp [hO1.trc], ⟨W.acts.length :: sl1, hslb2, by simp [hS1, hstk]⟩, by simp [hO1.funs], fun k g hg => by simp [hO1.bx k g hg], by simp [hO1.clss], fun k c hc => (hO1.cls k c hc).imp fun ms hm => ⟨by simp [hm.1], hm.2⟩, fun i a ha => by simp [hO1.env i a ha], fun i hi => (hO1.nms i hi).imp fun ms hm => ⟨by simp [hm.1], hm.2⟩, fun k i j hk hn => if e : k = 1 ∧ i = 0 ∧ j = 0 then .inl e else hO1.only k i j hk (by simpa [hk, e] using hn)⟩⟩
  · have hend : endW V = V := by
      unfold endW
      rw [if_neg hen]
    rw [hend] at hent
    have fx := And.intro hT <| And.intro hE <| And.intro hT1 <| hen
    refine k_run ?_
    repeat ((first | refine wSc (id := 4) qsQd0 mixed ?_); refine k_rund ?_; refine k_run ?_)
    clear fx
    rw [hent]
    refine e_ret [] .nil (by simp; rfl) ⟨by simp [hen], OwnM.fin (have om := hO1; OwnM.re om)⟩
abbrev qsQe0 : Sch := .q 0 <| .q 1 <| .q 2 <| .q 3 <| .q 4 <| .q 5 <| .q 6 <| .q 7 <| .q 8 <| .l 9 [8, 7, 6, 5, 4, 3, 2, 1, 0] <| .l 10 [] <| .done
abbrev qsQe1 : Sch := .q 0 <| .q 1 <| .q 2 <| .q 3 <| .q 4 <| .q 5 <| .q 6 <| .q 7 <| .q 8 <| .l 9 [7, 6, 5, 4, 3, 2, 1, 0] <| .l 10 [7, 6, 5, 3, 2, 1, 0] <| .q 11 <| .q 12 <| .l 13 [11] <| .done
@[simp] theorem cells_fn {f : Fn} {xs ys : List AV} : (AV.fn f xs ys).cells = some [.fn f xs ys] := rfl
@[simp] theorem one_fnav {f : Fn} {xs ys : List AV} : (AV.fn f xs ys).one = true := rfl
@[simp] theorem one_nfn : (AV.sc .nilFunc).one = true := rfl
@[simp] theorem fn_tsz : tsz Tryz.prog 286 = 1 := by kernel_rfl
@[simp] theorem fn_agg : aggO Tryz.prog 286 = some false := by kernel_rfl
theorem cloRows_map {F : Nat} {p : Prg} {l : List (Nat × Nat)} {g : List AV → List AV} (h : ∀ (i : Nat) c, l[i]? = some c → g (cloC F p i c) = cloC F p i c) : (cloRows F p l).map g = cloRows F p l := by
  apply List.ext_getElem?
  intro j
  rw [List.getElem?_map, cloRows_get]
  cases hj : l[j]? with
  | none => rfl
  | some a => simp only [Option.map_some]; rw [h j a hj]
theorem function_fn (gl) (H : Nm → Option AO) (p : Prg) (W : Wld) (a b : Nat) (k : Blk) (hw : WOk p W) (ha : a < W.acts.length) (hk : p[b]? = some k) (hr : Room 1 W) (hpl : k.params.length ≤ 1000) (hO : OwnM H 226 p W) :
    FnE Tryz.prog gl 212 DM [.pt Mn 0, ptE a, iv b] H (fun _ y H' => y = Val.av (2, (W.funs.length : Int)) ∧ OwnM H' 226 p { W with funs := W.funs ++ [(b, a)] }) noE := by
  have hT := hO.top
  have hF := hO.funs
  simp only [mRow] at hT
  obtain ⟨hbl, hkE⟩ := gS hk
  obtain ⟨c, hc⟩ : ∃ c, W.acts[a]? = some c := ⟨_, gE ha⟩
  have hE := hO.env a c hc
  have hfl := hr.funs
  have hfl' : W.funs.length ≤ 1000 := by omega
  have hwr : IntKind.i64.wrap (W.funs.length : Int) = W.funs.length := wrp (by omega) (by omega)
  have hpar : parN p b = k.params.length := by simp [parN, hk]
  have hno : ∀ j, H (.u 8 W.funs.length j) = none := fun j => by
    cases e : H (.u 8 W.funs.length j) with
    | none => rfl
    | some o =>
      rcases hO.only 8 W.funs.length j rfl (by rw [e]; simp) with ⟨h, _⟩ | ⟨h, _⟩ | ⟨_, h, _⟩
      · cases h
      · cases h
      · omega
  have hap : cloRows 226 p W.funs ++ [cloC 226 p W.funs.length (b, a)] = cloRows 226 p (W.funs ++ [(b, a)]) := cloRows_app
  simp only [cloC, hpar] at hap
  refine FnE.of_sem Tryz.func212 rfl (by kernel_rfl) (rs := [.cell 6 171]) rfl Tryz.ntmps212 (Nat.le_of_ble_eq_true rfl) (fun _ => DM_root) fun C w g root hroot => ?_
  have fx := And.intro hT <| And.intro hk <| And.intro hkE <| hbl
  refine k_run ?_
  repeat ((first | refine wSc (id := 1) qsQe0 mixed ?_ | refine wSc (id := 2) qsQe1 mixed ?_); refine k_rund ?_; refine k_run ?_)
  clear fx
  intro K hK
  refine o_mv (.s 3) (.u 8 W.funs.length 3) (.inl rfl) (.inr (by simp [ctx0, hno])) ?_
  refine o_mv (.s 4) (.u 8 W.funs.length 1) (.inl rfl) (.inr (by simp [ctx0, hno])) ?_
  refine o_mv (.s 5) (.u 8 W.funs.length 0) (.inl rfl) (.inr (by simp [ctx0, hno])) ?_
  refine o_mv (.s 7) (.u 8 W.funs.length 2) (.inl rfl) (.inr (by simp [ctx0, hno])) ?_
  have fx := And.intro hT <| And.intro hk <| And.intro hkE <| And.intro hbl <| And.intro hF <| And.intro hfl' <| hwr
  refine k_run ?_
  repeat ((first | refine wSc (id := 1) qsQe0 mixed ?_ | refine wSc (id := 2) qsQe1 mixed ?_); refine k_rund ?_; refine k_run ?_)
  clear fx
  refine e_ret [] .nil (by simp; rfl) ⟨by simp, OwnM.fin ⟨by simp [mRow], ⟨by simp [hO.scs.top], fun j k hj hk => by simp [hO.scs.sc j k hj hk]⟩, by simp [hO.out], by simp [hO.trc], hO.run.imp fun l hl => ⟨hl.1, by simp [hl.2]⟩, ?_, ?_, by simp [hO.clss], fun k c hc => (hO.cls k c hc).imp fun ms hm => ⟨by simp [hm.1], hm.2⟩, fun i d hd => by simp [hO.env i d hd], fun i hi => (hO.nms i hi).imp fun ms hm => ⟨by simp [hm.1], hm.2⟩, ?_⟩⟩
  · simp [← hap]
    rw [List.take_of_length_le (by simp)]
    refine cloRows_map fun i c hc => ?_
    have hne : ¬ i = W.funs.length := by have := (gS hc).1; omega
    have hne' : ¬ W.funs.length = i := by omega
    simp [cloC, trL, hne, hne']
  · intro i g hg
    simp only at hg
    rcases Nat.lt_or_ge i W.funs.length with hlt | hge
    · rw [List.getElem?_append_left hlt] at hg
      obtain ⟨b1, b2, b3, b4⟩ := hO.bx i g hg
      have hne : ¬ i = W.funs.length := by omega
      have hne' : ¬ W.funs.length = i := by omega
      exact ⟨by simp [b1, hne, hne'], by simp [b2, hne, hne'], by simp [b3, hne, hne'], by simp [b4, hne, hne']⟩
    · rw [List.getElem?_append_right hge] at hg
      have hi : i = W.funs.length := by
        have := (gS hg).1
        simp at this
        omega
      subst hi
      simp at hg
      subst hg
      exact ⟨by simp, by simp, by simp [hk], by simp⟩
  · intro k' i j hk' hn
    by_cases e8 : k' = 8 ∧ i = W.funs.length ∧ j < 4
    · exact .inr (.inr ⟨e8.1, by simp; omega, e8.2.2⟩)
    · by_cases e1 : k' = 1 ∧ i = 0 ∧ j = 0
      · exact .inl e1
      · have n0 : ¬ (k' = 8 ∧ i = W.funs.length ∧ j = 0) := fun e => e8 ⟨e.1, e.2.1, by omega⟩
        have n1 : ¬ (k' = 8 ∧ i = W.funs.length ∧ j = 1) := fun e => e8 ⟨e.1, e.2.1, by omega⟩
        have n2 : ¬ (k' = 8 ∧ i = W.funs.length ∧ j = 2) := fun e => e8 ⟨e.1, e.2.1, by omega⟩
        have n3 : ¬ (k' = 8 ∧ i = W.funs.length ∧ j = 3) := fun e => e8 ⟨e.1, e.2.1, by omega⟩
        have hn' : H (.u k' i j) ≠ none := by simpa [hk', e1, n0, n1, n2, n3] using hn
        rcases hO.only k' i j hk' hn' with h | h | h
        · exact .inl h
        · exact .inr (.inl h)
        · exact .inr (.inr ⟨h.1, by simp; omega, h.2.2⟩)
end Go.Proofs.YtmaoicgfcngciaaGreatDoor
end
section
namespace Go.Proofs.YtmaoicgfcngciaaGreatDoor
open Go Go.Hm Go.Proofs
abbrev qsQf0 : Sch := .q 0 <| .q 1 <| .q 2 <| .q 3 <| .q 4 <| .q 5 <| .q 6 <| .q 7 <| .q 8 <| .l 9 [] <| .done
def actI (p : Prg) (w : Wld) (b up : Nat) (vs : List Val) (i : Nat) : Wld := { begI p w b up vs i with stack := w.stack }
theorem actI_ok {p : Prg} {w : Wld} {b up i : Nat} {vs : List Val} (h : WOk p w) (hm : madeAt p w.acts b up) (hv : ∀ v ∈ vs, VOk w.funs.length w.classes.length v) (hr : Room 1 w) : WOk p (actI p w b up vs i) := by
  have hb := begI_ok (i := i) h hm hv hr
  exact ⟨hb.a0, hb.vars, hb.blks, hb.up, hb.glob, hb.funs, hb.cls, fun j hj => by have := h.stk j hj; simp [actI, begI]; omega, hb.nacts, hb.nfuns, hb.ncls, hb.nout, hb.ntr, h.nstk, hb.outr, hb.enr⟩
theorem actI_nms {p : Prg} {w : Wld} {b up i j : Nat} {vs : List Val} (e : ¬ j = w.acts.length) : (actI p w b up vs i).nms j = w.nms j := by
  by_cases e0 : j = 0
  · simp [Wld.nms, actI, begI, e0]
  · simp only [Wld.nms, actI, begI, e0, if_false]
    rcases Nat.lt_or_ge j w.acts.length with hlt | hge
    · rw [List.getElem?_append_left hlt]
    · have h1 : w.acts[j]? = none := List.getElem?_eq_none (by omega)
      rw [h1, List.getElem?_append_right hge, List.getElem?_eq_none (by simp; omega)]
theorem actI_nmsL {p : Prg} {w : Wld} {b up i : Nat} {k : Blk} {vs : List Val} (hpos : ¬ w.acts.length = 0) (hk : p[b]? = some k) : (actI p w b up vs i).nms w.acts.length = bindP (k.params.take i) (vs.take i) := by
  simp [Wld.nms, actI, begI, hpos, hk]
theorem closure_fn (gl) (F : Nat) (p : Prg) (n : Nat) (hR : MBok gl F p n) (H : Nm → Option AO) (W : Wld) (k b up lo : Nat) (vs all : List Val) (hP : ValP p) (hw : WOk p W) (hn : W.left < n) (h0 : W.en = 0) (hg : W.funs[k]? = some (b, up)) (hv : ∀ v ∈ vs, VOk W.funs.length W.classes.length v) (hr : Room 1 W)
    (hall : all.drop lo = vs) (hlo : lo + vs.length = all.length) (hpar : parN p b = vs.length) (hv2 : vs.length ≤ 1) (hO : OwnM H F p W) (hL : H (.u 2 0 0) = some (.row 2 (vrows all))) :
    FnE Tryz.prog gl 226 DM2 [.hs (.u 2 0 0) 2 lo vs.length, .pt (.u 8 k 0) 0, .pt (.u 8 k 1) 0, .pt (.u 8 k 2) 0, .pt (.u 8 k 3) 0] H (fun _ y H' => y = .tup [Val.av (enterW p (runW p n) W b up vs).2, bv (decide ((enterW p (runW p n) W b up vs).1.en = 0))] ∧ OwnM H' F p (enterW p (runW p n) W b up vs).1) noE := by
  have hm := hw.funs k (b, up) hg
  obtain ⟨kb, hk, hpk⟩ := hm.shape
  simp only at hm hk hpk
  obtain ⟨hbl, hkE⟩ := gS hk
  obtain ⟨b1, b2, b3, b4⟩ := hO.bx k (b, up) hg
  simp only [hk] at b1 b2 b3 b4
  refine FnE.of_sem Tryz.func226 rfl (by kernel_rfl) (rs := [.cell 6 171, .tmp 7]) rfl Tryz.ntmps226 (Nat.le_of_ble_eq_true rfl) (fun _ => DM2_root) fun C w g root hroot => ?_
  have fx := And.intro b1 <| And.intro b2 <| And.intro b3 <| b4
  refine k_run ?_
  repeat ((first | refine wSc (id := 5) qsQf0 mixed ?_); refine k_rund ?_; refine k_run ?_)
  clear fx
  intro K hK
  have fx := fx0
  refine x_map (h := ?_)
  clear fx
  have fx := And.intro b1 <| And.intro b2 <| And.intro b3 <| And.intro b4 <| hk
  refine k_run ?_
  repeat ((first | refine wSc (id := 5) qsQf0 mixed ?_); refine k_rund ?_; refine k_run ?_)
  clear fx
  have hpos : ¬ W.acts.length = 0 := by
    obtain ⟨a, ha, _⟩ := hw.a0
    have := (gS ha).1
    omega
  have hno : ∀ j, H (.u 7 W.acts.length j) = none := fun j => by
    cases e : H (.u 7 W.acts.length j) with
    | none => rfl
    | some o =>
      rcases hO.only 7 W.acts.length j rfl (by rw [e]; simp) with ⟨h, _⟩ | ⟨_, h, _⟩ | ⟨h, _⟩
      · cases h
      · omega
      · cases h
  refine w_move (.s 8) (En W.acts.length) (.inl rfl) (.inr (by simp [ctx0, hno])) ?_
  refine w_loop (fun m st => ∃ i : Nat, m = vs.length - i ∧ i ≤ vs.length ∧ st.tm 0 = .hs (.u 2 0 0) 2 lo vs.length ∧ st.hp (.u 2 0 0) = some (.row 2 (vrows all)) ∧ st.tm 4 = .pt (.u 8 k 3) 0 ∧ st.tm 6 = .pt (.s 6) 0 ∧ st.hp (.s 6) = some (.row 2 [[iv 0, iv 0]]) ∧ st.tm 8 = ptE W.acts.length ∧ st.tm 16 = isl kb.params ∧ st.tm 17 = iv vs.length ∧ st.tm 18 = iv i ∧ OwnM st.hp F p (actI p W b up vs i)) vs.length ?_ ?_
  · have hpos' : ¬ 0 = W.acts.length := fun e => hpos e.symm
    have hupl : ¬ up = W.acts.length := by
      obtain ⟨c, _, e, _⟩ := hm
      have := (gS e).1
      omega
    refine ⟨0, by omega, by omega, by simp, by simp [hL], by simp, by simp, by simp, by simp, by simp, by simp [← hpar, hpk], by simp, ?_⟩
    refine ⟨by simp [mRow, actI, begI, hO.top, hpos'], ⟨by simp [hO.scs.top], fun j k hj hk => by simp [hO.scs.sc j k hj hk]⟩, by simp [actI, begI, hO.out], by simp [actI, begI, hO.trc], hO.run.imp fun l hl => ⟨fun i hi => by have := hl.1 i hi; simp [actI, begI]; omega, ?_⟩, by simp [actI, begI, hO.funs], fun k' g hg => ?_, by simp [actI, begI, hO.clss], fun k c hc => (hO.cls k c hc).imp fun ms hm => ⟨by simp [hm.1], hm.2⟩, fun i d hd => ?_, fun i hi => ?_, fun k' i j hk' hn => ?_⟩
    · simp [hl.2, actI]
      refine erows_lt fun i hi => ?_
      have hlt : i < W.acts.length := by
        rcases List.mem_append.1 hi with e | e
        · exact hw.stk i e
        · exact hl.1 i e
      have hne : ¬ i = W.acts.length := by omega
      simp [hne]
    · have hgl : ¬ g.2 = W.acts.length := by
        obtain ⟨c, _, e, _⟩ := hw.funs k' g hg
        have := (gS e).1
        omega
      simp [hO.bx k' g hg, hgl]
    · simp only [actI, begI] at hd
      rcases Nat.lt_or_ge i W.acts.length with hlt | hge
      · rw [List.getElem?_append_left hlt] at hd
        have hne : ¬ i = W.acts.length := by omega
        have hne' : ¬ W.acts.length = i := by omega
        by_cases e0 : i = 0
        · subst e0
          simp [hO.env 0 d hd, envRow, hne, hne']
        · have hup := (hw.up i d hd (by omega)).1
          have hupn : ¬ d.up = W.acts.length := by omega
          simp [hO.env i d hd, envRow, e0, hne, hne', hupn]
      · rw [List.getElem?_append_right hge] at hd
        have hi : i = W.acts.length := by
          have := (gS hd).1
          simp at this
          omega
        subst hi
        simp at hd
        subst hd
        simp [envRow, hpos, hupl]
    · by_cases e : i = W.acts.length
      · subst e
        rw [actI_nmsL hpos hk]
        exact ⟨[], by simp, by simpa [bindP] using MapOk.nil⟩
      · rw [actI_nms e]
        have hlt : i < W.acts.length := by
          simp [actI, begI] at hi
          omega
        have hne' : ¬ W.acts.length = i := by omega
        exact (hO.nms i hlt).imp fun ms hm => ⟨by simp [hm.1, e, hne'], hm.2⟩
    · by_cases e7 : k' = 7 ∧ i = W.acts.length ∧ j = 0
      · exact .inr (.inl ⟨e7.1, by simp [actI, begI]; omega, e7.2.2⟩)
      · by_cases e1 : k' = 1 ∧ i = 0 ∧ j = 0
        · exact .inl e1
        · have hn' : H (.u k' i j) ≠ none := by simpa [hk', e1, e7] using hn
          rcases hO.only k' i j hk' hn' with h | h | h
          · exact .inl h
          · exact .inr (.inl ⟨h.1, by simp [actI, begI]; omega, h.2.2⟩)
          · exact .inr (.inr h)
  rintro m st - - ⟨i, rfl, hi, t0, hp2, t4, t6, hp6, t8, t16, t17, t18, hO1⟩
  have hT1 := hO1.top
  simp only [mRow] at hT1
  have hact : (actI p W b up vs i).acts[W.acts.length]? = some ⟨b, up, bindP (kb.params.take i) (vs.take i)⟩ := by simp [actI, begI, hk]
  have hE1 := hO1.env W.acts.length _ hact
  simp only [envRow, hpos, if_false] at hE1
  obtain ⟨c1, c2, c3, c4⟩ := hO1.bx k (b, up) hg
  by_cases hil : i < vs.length
  · obtain ⟨x, hx⟩ : ∃ x, kb.params[i]? = some x := ⟨_, gE (by omega)⟩
    obtain ⟨hxl, hxE⟩ := gS hx
    have hxr := (hP.sh.names kb (List.mem_of_getElem? hk)).params x (List.mem_of_getElem? hx)
    obtain ⟨v, hvi⟩ : ∃ v, vs[i]? = some v := ⟨_, gE hil⟩
    have hva : all[lo + i]? = some v := by rw [← hvi, ← hall, List.getElem?_drop]
    obtain ⟨hal', hvE⟩ := gS hva
    have hst := begI_store (w := W) (up := up) hP hk hx hvi
    obtain ⟨X, rfl⟩ : ∃ X : Nat, x = X := ⟨x.toNat, by omega⟩
    obtain ⟨v1, v2⟩ := v
    have hokI : WOk p (actI p W b up vs i) := actI_ok hw hm hv hr
    have hloc : (actI p W b up vs i).loc p W.acts.length X = some W.acts.length := by
      have ho := hP.pm b kb hk (X : Int) (List.mem_of_getElem? hx)
      have hnl : ¬ (b : Int) < 0 := by omega
      simp only [Wld.loc, blk_at hact, ho, hnl, if_false, Int.toNat_natCast]
      rw [climb_here hact rfl]
    have hla : W.acts.length < (actI p W b up vs i).acts.length := by simp [actI, begI]
    obtain ⟨hnm, _⟩ := nms_loc (x := (X : Int)) hP.sh.heads hokI hla
    obtain ⟨ms, hms, hmo⟩ := hO1.nms W.acts.length hla
    have hmo' : MapOk ms ((actI p W b up vs i).vars (some W.acts.length)) := by
      rw [hloc] at hnm
      rw [← hnm]
      exact hmo
    have hnext : (actI p W b up vs i).set (some W.acts.length) X (some (v1, v2)) = actI p W b up vs (i + 1) := by
      have hl2 : (begI p W b up vs i).loc p W.acts.length X = some W.acts.length := hloc
      unfold storeW at hst
      rw [hl2] at hst
      unfold actI
      rw [← hst]
      rfl
    have fx := And.intro t0 <| And.intro hp2 <| And.intro t4 <| And.intro t6 <| And.intro hp6 <| And.intro t8 <| And.intro t16 <| And.intro t17 <| And.intro t18 <| And.intro hT1 <| And.intro hE1 <| And.intro hil <| And.intro hx <| And.intro hxE <| And.intro hxl <| And.intro hva <| And.intro hvE <| And.intro hal' <| hms
    refine k_run ?_
    repeat ((first | refine wSc (id := 5) qsQf0 mixed ?_); refine k_rund ?_; refine k_run ?_)
    clear fx
    intro K hK
    have fx := And.intro t8 hms
    refine x_mapUpdate (h := ?_)
    clear fx
    have fx := And.intro t0 <| And.intro hp2 <| And.intro t4 <| And.intro t6 <| And.intro hp6 <| And.intro t8 <| And.intro t16 <| And.intro t17 <| And.intro t18 <| And.intro hT1 <| And.intro hE1 <| And.intro hil <| And.intro hx <| And.intro hxE <| And.intro hxl <| And.intro hva <| And.intro hvE <| And.intro hal' <| hms
    refine k_run ?_
    repeat ((first | refine wSc (id := 5) qsQf0 mixed ?_); refine k_rund ?_; refine k_run ?_)
    clear fx
    refine ⟨vs.length - (i + 1), by omega, i + 1, rfl, by omega, by simp [t0], by simp [hp2], by simp [t4], by simp [t6], by simp [hp6], by simp [t8], by simp [t16], by simp [t17], by simp; exact wrp (by omega) (by omega), ?_⟩
    rw [← hnext]
    refine ownM_set hP.sh.heads hokI hla (by omega) hloc hnm hO1 (hmo'.set ⟨by omega, by omega⟩) fun m hm => ?_
    by_cases e : m = .c (En W.acts.length) 0 1 <;> simp [hIdx, e]
  · obtain rfl : i = vs.length := by omega
    have hbeg : actI p W b up vs vs.length = { beginW p W b up vs with stack := W.stack } := by
      unfold actI
      rw [begI_all (by omega) (Nat.le_refl _)]
    rw [hbeg] at hO1
    have fx := And.intro t0 <| And.intro t4 <| And.intro t6 <| And.intro hp6 <| And.intro t8 <| And.intro t17 <| And.intro t18 <| c4
    refine k_run ?_
    repeat ((first | refine wSc (id := 5) qsQf0 mixed ?_); refine k_rund ?_; refine k_run ?_)
    clear fx
    intro K hK
    have fx := And.intro t8 hT1
    refine x_callM hO (w := { beginW p W b up vs with stack := W.stack }) (have om := hO1; OwnM.re om) (by simp [beginW]) (Nat.le_refl _) (hF := fun hs => enterM_fn gl F p n hR _ W b up vs hP hw hn h0 hm hv hr hs (by simp)) (h := ?_)
    rintro y H2 ⟨rfl, hO2⟩
    clear fx
    generalize hq : enterW p (runW p n) W b up vs = q at hO2
    obtain ⟨V, v1, v2⟩ := q
    simp only at hO2
    have hT2 := hO2.top
    simp only [mRow] at hT2
    have fx := And.intro t6 <| And.intro hp6 <| And.intro t8 <| And.intro hT1 <| hT2
    refine k_run ?_
    repeat ((first | refine wSc (id := 5) qsQf0 mixed ?_); refine k_rund ?_; refine k_run ?_)
    clear fx
    rw [hq]
    refine e_ret [] .nil (by simp [t6]; rfl) ⟨by simp, OwnM.fin (have om := hO2; OwnM.re om)⟩
end Go.Proofs.YtmaoicgfcngciaaGreatDoor
end
section
namespace Go.Proofs.YtmaoicgfcngciaaGreatDoor
open Go Go.Hm Go.Proofs Go.RowKit
theorem clone_calls (b : Nat) (es : Array MapEntry) (clock : Nat) (w : World) (hb : w.heap[b]? = some (.map es clock)) :
    Calls Tryz.prog 228 #[.map (some b)] w fun e w' => e = .returned (.map (some w.heap.size)) ∧ w' = w.alloc (.map es clock) := by
  have hq := fun w => run_eql_map_nil_sl (P := Tryz.prog) w 179 _ _ (some b) Tryz.underlying179
  go_enter Tryz.func228, Tryz.ntmps228
  go_wp2
  rw [run_callFunc_extern Tryz.func236 (by kernel_rfl) (by kernel_rfl) (by kernel_rfl) (e := Extern.MapsClone.clone) (by kernel_rfl), run_maps_clone_sl w 179 hb]
  simp only [Result.andThen]
  rw [Oper.upon_value]
  go_wp2
  rw [run_typeAssert_map_sl _ 179 _ _ _ _ Tryz.underlying179]
  simp only [Result.andThen]
  rw [Oper.upon_value]
  go_wp2
  go_ret
  exact ⟨rfl, rfl⟩
def clSt (d : Nat) (es : List (AV × AV)) (st : St) : St := ((st.kill (.s d)).setO (.s d) (.map es)).put (some d) (.mp (.s d))
theorem x_clone {X : Ctx} {st : St} {K : St → Prop} {E : AV → St → Prop} {ty : TypeId} {pos : String} {aft : Array Edge} {gd : Option (Nat × Bool)} {d : Nat} {args : Array Operand} {Ts : Array TypeId} {n : Nm} {es : List (AV × AV)} {st' : St} (hP : X.P = Tryz.prog)
    (hd : d < X.n := by first | (simp; done) | fail) (ha : args.toList.map (ev st) = [.mp n] := by simp [fx]; first | done | rfl) (hn : st.hp n = some (.map es) := by simp [fx]; first | done | rfl) (hsc : ∀ e ∈ es, ∀ f : Nm → Option Nm, e.1.tr f = e.1 ∧ e.2.tr f = e.2)
    (hs : clSt d es st = st' := by simp [fx, clSt]; first | done | rfl) (h : K st') :
    SemOp X ⟨some d, .call ⟨.value (.func 228), args, Ts⟩, ty, pos, aft, gd⟩ K E st := by
  subst hs
  intro a w Q hR hQ
  obtain ⟨C, g, h1, h2, h3, h4, h5, hg⟩ := hR
  have hcal : Callable X.P 228 := by rw [hP]; exact ⟨_, rfl, rfl, rfl⟩
  obtain ⟨vs, hrun, hsz, hrel⟩ := ent_func (st := st) (o := ⟨some d, .call ⟨.value (.func 228), args, Ts⟩, ty, pos, aft, gd⟩) hcal rfl _ _ _ _ _ _ hg
  rw [ha] at hsz hrel
  unfold Oper.wp
  rw [hrun, Oper.upon_enter]
  obtain ⟨v, rfl⟩ : ∃ v, vs = #[v] := by
    rcases vs with ⟨l⟩
    simp at hsz
    obtain ⟨v, rfl⟩ := List.length_eq_one_iff.1 hsz
    exact ⟨v, rfl⟩
  have hv := hrel 0 v (.mp n) rfl rfl
  cases hv with
  | mp _ b hk =>
  have hat := hg.inv.obj n _ hn
  simp only [OAt, hk] at hat
  obtain ⟨ms, clock, hb, hst, hlen, hrv⟩ := hat
  have hC' : ∀ b', C b' → (w.alloc (.map ms.toArray clock)).heap[b']? = w.heap[b']? := fun b' hb' => alloc_old _ (hg.inv.clt b' hb')
  have hm := hg.made (.s d) (.map es) w.heap.size 0 (w.alloc (.map ms.toArray clock)) [] (by simp) (fun _ => false) rfl rfl rfl (by simp) (.inl (Nat.le_refl _)) (by simp) (fun b' _ hb' => alloc_old _ hb') (by
    simp only [OAt, (fresh_self (g := g) (.s d) (some w.heap.size) 0).1]
    refine ⟨ms, clock, heap_alloc_new w _, hst, hlen, fun i m e hi he => ?_⟩
    obtain ⟨r1, r2⟩ := hrv i m e hi he
    obtain ⟨q1, q2⟩ := hsc e (List.mem_of_getElem? he) (kl (.s d))
    have h1 := hg.rv (g' := g.fresh (.s d) (some w.heap.size) 0) (w' := w.alloc (.map ms.toArray clock)) rfl hC' (fresh_gf (.s d) (some w.heap.size) 0) r1
    have h2 := hg.rv (g' := g.fresh (.s d) (some w.heap.size) 0) (w' := w.alloc (.map ms.toArray clock)) rfl hC' (fresh_gf (.s d) (some w.heap.size) 0) r2
    rw [q1] at h1
    rw [q2] at h2
    exact ⟨h1, h2⟩)
  have e : (st.nm (kl (.s d)) (fun m => if (fun _ => false : Nm → Bool) m then none else hkl (.s d) st.hp m)) = st.kill (.s d) := by simp [St.kill]
  rw [e] at hm
  have hput := hm.put (d := some d) (v := .map (some w.heap.size)) (x := .mp (.s d)) (fun t e => by obtain rfl := Option.some.inj e; show d < st.n; omega) (.mp _ _ (fresh_self _ _ _).1)
  have hcl : Calls X.P 228 #[.map (some b)] w fun e w' => e = .returned (.map (some w.heap.size)) ∧ w' = w.alloc (.map ms.toArray clock) := by
    rw [hP]
    exact clone_calls b ms.toArray clock w hb
  refine hcl.mono ?_
  rintro e w' ⟨rfl, rfl⟩
  exact ⟨clSt d es st, ⟨C, g.fresh (.s d) (some w.heap.size) 0, h1, h2, h3, h4, h5.step (.fresh rfl), hput⟩, h⟩
end Go.Proofs.YtmaoicgfcngciaaGreatDoor
end
