/-
  Own texts, joined by mkclaim.py: Qa, Qb, Qc, Qd.
-/
import Derived.Test.YtcbkblboonkfhaaGreatR23
import Derived.Test.YtcbkblboonkfhaaGreatR16
import Derived.Test.YtcbkblboonkfhaaGreatR22
import Derived.Test.YtcbkblboonkfhaaGreatR15
set_option linter.unusedSimpArgs false
set_option linter.unusedVariables false

section
set_option maxRecDepth 100000
set_option maxHeartbeats 4000000
set_option linter.unusedSimpArgs false
namespace Go.Proofs.YtcbkblboonkfhaaGreat
open Go Go.Hm Go.Proofs
theorem impl_ShownOf_fn (gl) (v : Val) : FnOk Tryz.prog gl 143 [Val.av v] (fun _ y _ => y = iv (Hm.shown v)) := by
  refine FnOk.of_sem Tryz.func143 rfl (by kernel_rfl) (rs := [.tmp 2]) rfl Tryz.ntmps143 (Nat.le_of_ble_eq_true rfl) fun C w g root => ?_
  by_cases h1 : v.1 = 1
  · skip
    have fx :=  h1
    refine k_run ?_
    clear fx
    refine e_ret [] .nil (by simp; rfl) (by simp [Hm.shown, h1])
  by_cases h2 : v.1 = 2
  · skip
    have fx := And.intro h1 <| h2
    refine k_run ?_
    clear fx
    refine e_ret [] .nil (by simp; rfl) (by simp [Hm.shown, h1, h2])
  by_cases h3 : v.1 = 3
  · skip
    have fx := And.intro h1 <| And.intro h2 <| h3
    refine k_run ?_
    clear fx
    refine e_ret [] .nil (by simp; rfl) (by simp [Hm.shown, h1, h2, h3])
  · skip
    have fx := And.intro h1 <| And.intro h2 <| h3
    refine k_run ?_
    clear fx
    refine e_ret [] .nil (by simp; rfl) (by simp [Hm.shown, h1, h2, h3])
theorem stop_fn (gl) (H : Nm → Option AO) (F : Nat) (p : Prg) (W : Wld) (e : Int) (hO : OwnM H F p W) :
    FnE Tryz.prog gl 152 DM [.pt Mn 0, iv e] H (fun _ y H' => y = bv false ∧ OwnM H' F p { W with en := e }) noE := by
  have hT := hO.top
  simp only [mRow] at hT
  refine FnE.of_sem Tryz.func152 rfl (by kernel_rfl) (rs := [.tmp 4]) rfl Tryz.ntmps152 (Nat.le_of_ble_eq_true rfl) (fun _ => DM_root) fun C w g root hroot => ?_
  have fx :=  hT
  refine k_run ?_
  clear fx
  refine e_ret [] .nil (by simp; rfl) ⟨by simp, OwnM.fin ⟨by simp [hO.top, mRow, hT], ⟨by simp [hO.scs.top, hT], fun j k hj hk => by simp [hO.scs.sc j k hj hk, hT]⟩, by simp [hO.out, hT], by simp [hO.trc, hT], hO.run.imp fun l hl => ⟨hl.1, by simp [hl.2, hT]⟩, by simp [hO.funs, hT], fun k g hg => by simp [hO.bx k g hg, hT], by simp [hO.clss, hT], fun k c hc => (hO.cls k c hc).imp fun ms hm => ⟨by simp [hm.1, hT], hm.2⟩, fun i a ha => by simp [hO.env i a ha, hT], fun i hi => (hO.nms i hi).imp fun ms hm => ⟨by simp [hm.1, hT], hm.2⟩, fun k i j hk hn => if e : k = 1 ∧ i = 0 ∧ j = 0 then .inl e else hO.only k i j hk (by simpa [hk, e] using hn)⟩⟩
theorem holderOf_fn (gl) (H : Nm → Option AO) (F : Nat) (p : Prg) (W : Wld) (a x : Nat) (hP : ShapeP p) (hw : WOk p W) (ha : a < W.acts.length) (hx : x < 8) (hO : OwnM H F p W) :
    FnE Tryz.prog gl 183 DM [.pt Mn 0, ptE a, iv x] H (fun _ y H' => y = .tup [ptE (hIdx (W.loc p a x)), iv (Hm.lack p (W.blk a) (owner p (W.blk a) x))] ∧ OwnM H' F p W) noE := by
  have hh := hP.heads
  obtain ⟨c, hc⟩ : ∃ c, W.acts[a]? = some c := ⟨_, List.getElem?_eq_getElem ha⟩
  have hbl := hw.blks a c hc
  obtain ⟨k, hk⟩ : ∃ k, p[c.blk]? = some k := ⟨_, List.getElem?_eq_getElem hbl⟩
  obtain ⟨_, hkE⟩ := List.getElem?_eq_some_iff.1 hk
  have hbk := blk_at hc
  have hT := hO.top
  have hc1 := hO.scs.top
  have hc2 := hO.scs.sc
  have hE := hO.env a c hc
  simp only [mRow] at hT
  simp only [envRow] at hE
  have hsr := sRows_get (n := .c Mn 0 1) (len := p.length) (i := p.length) hbl
  rw [if_pos hbl] at hsr
  obtain ⟨_, hsE⟩ := List.getElem?_eq_some_iff.1 hsr
  have hka : kindAt p c.blk = k.kind := by simp [kindAt, hk]
  refine FnE.of_sem Tryz.func183 rfl (by kernel_rfl) (rs := [.tmp 6, .tmp 7]) rfl Tryz.ntmps183 (Nat.le_of_ble_eq_true rfl) (fun _ => DM_root) fun C w g root hroot => ?_
  rcases loc_spec (x := (x : Int)) hh hw ha with ⟨h1, h2⟩ | ⟨o, i, d, ho, h1, h2, h3, hd, hdb, hins⟩
  · rw [hbk] at h1
    have hl : Hm.lack p (W.blk a) (owner p (W.blk a) x) = 4 := by rw [hbk, h1]; simp [Hm.lack]
    rw [hl, h2]
    have fx := And.intro hT <| And.intro hE <| And.intro hc1 <| And.intro hsr <| And.intro hsE <| And.intro hbl <| h1
    have c1 := scope_owner_fn gl p hP c.blk k hk x hx
    refine k_run ?_
    repeat ((first | refine w_sch (id := 1) (.q 0 <| .q 1 <| .q 2 <| .q 3 <| .q 4 <| .q 5 <| .q 6 <| .q 7 <| .q 8 <| .q 9 <| .q 10 <| .l 11 [8, 7, 6, 5, 4, 3, 2, 1, 0] <| .l 12 [] <| .done) mixed (by kernel_rfl) (by kernel_rfl) ?_); refine k_rund ?_; refine k_run ?_)
    clear fx c1
    refine e_ret [] .nil (by simp; rfl) ⟨by simp [hIdx], OwnM.fin ⟨by simp [hO.top, mRow], ⟨by simp [hO.scs.top], fun j k hj hk => by simp [hO.scs.sc j k hj hk]⟩, by simp [hO.out], by simp [hO.trc], hO.run.imp fun l hl => ⟨hl.1, by simp [hl.2]⟩, by simp [hO.funs], fun k g hg => by simp [hO.bx k g hg], by simp [hO.clss], fun k c hc => (hO.cls k c hc).imp fun ms hm => ⟨by simp [hm.1], hm.2⟩, fun i a ha => by simp [hO.env i a ha], fun i hi => (hO.nms i hi).imp fun ms hm => ⟨by simp [hm.1], hm.2⟩, fun k i j hk hn => if e : k = 1 ∧ i = 0 ∧ j = 0 then .inl e else hO.only k i j hk (by simpa [hk, e] using hn)⟩⟩
  · rw [hbk] at h1
    have hon : ((o : Int) == -1) = false := by rw [beq_eq_false_iff_ne]; omega
    have hol : o < p.length := by rw [← hdb]; exact hw.blks i d hd
    rw [h2]
    by_cases hob : o = c.blk
    · have hai : i = a := by rw [h3, climb_here hc hob.symm]
      have hsame : ((c.blk : Int) == (c.blk : Int)) = true := by simp
      subst hob
      by_cases hk2 : k.kind = 2
      · have hl : Hm.lack p (W.blk a) (owner p (W.blk a) x) = 4 := by
          rw [hbk, h1]
          simp [Hm.lack, hka, hk2]
        rw [hl]
        have hkb : (k.kind == 2) = true := by simpa using hk2
        have hsc := hc2 c.blk k hbl hk
        have fx := And.intro hT <| And.intro hE <| And.intro hc1 <| And.intro hsr <| And.intro hsE <| And.intro hbl <| And.intro h1 <| And.intro hon <| And.intro hsame <| And.intro hsc <| And.intro hkb <| @bne_def
        have c1 := scope_owner_fn gl p hP c.blk k hk x hx
        refine k_run ?_
        repeat ((first | refine w_sch (id := 1) (.q 0 <| .q 1 <| .q 2 <| .q 3 <| .q 4 <| .q 5 <| .q 6 <| .q 7 <| .q 8 <| .q 9 <| .q 10 <| .l 11 [8, 7, 6, 5, 4, 3, 2, 1, 0] <| .l 12 [] <| .done) mixed (by kernel_rfl) (by kernel_rfl) ?_); refine k_rund ?_; refine k_run ?_)
        clear fx c1
        refine e_ret [] .nil (by simp; rfl) ⟨by simp [hIdx, hai], OwnM.fin ⟨by simp [hO.top, mRow], ⟨by simp [hO.scs.top], fun j k hj hk => by simp [hO.scs.sc j k hj hk]⟩, by simp [hO.out], by simp [hO.trc], hO.run.imp fun l hl => ⟨hl.1, by simp [hl.2]⟩, by simp [hO.funs], fun k g hg => by simp [hO.bx k g hg], by simp [hO.clss], fun k c hc => (hO.cls k c hc).imp fun ms hm => ⟨by simp [hm.1], hm.2⟩, fun i a ha => by simp [hO.env i a ha], fun i hi => (hO.nms i hi).imp fun ms hm => ⟨by simp [hm.1], hm.2⟩, fun k i j hk hn => if e : k = 1 ∧ i = 0 ∧ j = 0 then .inl e else hO.only k i j hk (by simpa [hk, e] using hn)⟩⟩
      · have hl : Hm.lack p (W.blk a) (owner p (W.blk a) x) = 2 := by
          rw [hbk, h1]
          simp [Hm.lack, hka, hk2]
        rw [hl]
        have hkb : (k.kind == 2) = false := by simpa using hk2
        have hsc := hc2 c.blk k hbl hk
        have fx := And.intro hT <| And.intro hE <| And.intro hc1 <| And.intro hsr <| And.intro hsE <| And.intro hbl <| And.intro h1 <| And.intro hon <| And.intro hsame <| And.intro hsc <| And.intro hkb <| @bne_def
        have c1 := scope_owner_fn gl p hP c.blk k hk x hx
        refine k_run ?_
        repeat ((first | refine w_sch (id := 1) (.q 0 <| .q 1 <| .q 2 <| .q 3 <| .q 4 <| .q 5 <| .q 6 <| .q 7 <| .q 8 <| .q 9 <| .q 10 <| .l 11 [8, 7, 6, 5, 4, 3, 2, 1, 0] <| .l 12 [] <| .done) mixed (by kernel_rfl) (by kernel_rfl) ?_); refine k_rund ?_; refine k_run ?_)
        clear fx c1
        refine e_ret [] .nil (by simp; rfl) ⟨by simp [hIdx, hai], OwnM.fin ⟨by simp [hO.top, mRow], ⟨by simp [hO.scs.top], fun j k hj hk => by simp [hO.scs.sc j k hj hk]⟩, by simp [hO.out], by simp [hO.trc], hO.run.imp fun l hl => ⟨hl.1, by simp [hl.2]⟩, by simp [hO.funs], fun k g hg => by simp [hO.bx k g hg], by simp [hO.clss], fun k c hc => (hO.cls k c hc).imp fun ms hm => ⟨by simp [hm.1], hm.2⟩, fun i a ha => by simp [hO.env i a ha], fun i hi => (hO.nms i hi).imp fun ms hm => ⟨by simp [hm.1], hm.2⟩, fun k i j hk hn => if e : k = 1 ∧ i = 0 ∧ j = 0 then .inl e else hO.only k i j hk (by simpa [hk, e] using hn)⟩⟩
    · have hl : Hm.lack p (W.blk a) (owner p (W.blk a) x) = 3 := by
        have e1 : ¬ (o : Int) < 0 := by omega
        have e2 : ¬ (o : Int) = c.blk := by omega
        rw [hbk, h1]
        simp [Hm.lack, e1, e2]
      rw [hl]
      have hne : ((o : Int) == (c.blk : Int)) = false := by rw [beq_eq_false_iff_ne]; omega
      obtain ⟨u1, u2, u3⟩ := inside_up hh hw hc (fun e => hob e.symm) ho hins
      have ha0 : ¬ a = 0 := by omega
      rw [if_neg ha0] at hE
      have fx := And.intro hT <| And.intro hE <| And.intro hc1 <| And.intro hsr <| And.intro hsE <| And.intro hbl <| And.intro h1 <| And.intro hon <| And.intro hne <| @bne_def
      have c1 := scope_owner_fn gl p hP c.blk k hk x hx
      refine k_run ?_
      repeat ((first | refine w_sch (id := 1) (.q 0 <| .q 1 <| .q 2 <| .q 3 <| .q 4 <| .q 5 <| .q 6 <| .q 7 <| .q 8 <| .q 9 <| .q 10 <| .l 11 [8, 7, 6, 5, 4, 3, 2, 1, 0] <| .l 12 [] <| .done) mixed (by kernel_rfl) (by kernel_rfl) ?_); refine k_rund ?_; refine k_run ?_)
      clear fx c1
      refine w_loop (fun n st => ∃ b : Nat, n = b ∧ b < W.acts.length ∧ climb W.acts o b b = i ∧ inside p (W.blk b) o = true ∧ st.tm 8 = iv o ∧ st.tm 9 = ptE b ∧ OwnM st.hp F p W) c.up ?_ ?_
      · exact ⟨c.up, rfl, by omega, by rw [← climb_up hh hw ho hc (fun e => hob e.symm) hins]; exact h3.symm, u3, by simp, by simp, ⟨by simp [hO.top, mRow], ⟨by simp [hO.scs.top], fun j k hj hk => by simp [hO.scs.sc j k hj hk]⟩, by simp [hO.out], by simp [hO.trc], hO.run.imp fun l hl => ⟨hl.1, by simp [hl.2]⟩, by simp [hO.funs], fun k g hg => by simp [hO.bx k g hg], by simp [hO.clss], fun k c hc => (hO.cls k c hc).imp fun ms hm => ⟨by simp [hm.1], hm.2⟩, fun i a ha => by simp [hO.env i a ha], fun i hi => (hO.nms i hi).imp fun ms hm => ⟨by simp [hm.1], hm.2⟩, fun k i j hk hn => if e : k = 1 ∧ i = 0 ∧ j = 0 then .inl e else hO.only k i j hk (by simpa [hk, e] using hn)⟩⟩
      clear hT hc1 hc2 hE hO
      rintro n st - - ⟨b, rfl, hb, hcl, hib, t8, t9, hO⟩
      obtain ⟨e, he⟩ : ∃ e, W.acts[n]? = some e := ⟨_, List.getElem?_eq_getElem hb⟩
      have hE := hO.env n e he
      simp only [envRow] at hE
      by_cases heb : e.blk = o
      · have hni : n = i := by rw [← hcl, climb_here he heb]
        subst hni
        subst heb
        have hsame : ((e.blk : Int) == (e.blk : Int)) = true := by simp
        have fx := And.intro t8 <| And.intro t9 <| And.intro hE <| And.intro hsame <| @bne_def
        refine k_run ?_
        repeat ((first | refine w_sch (id := 1) (.q 0 <| .q 1 <| .q 2 <| .q 3 <| .q 4 <| .q 5 <| .q 6 <| .q 7 <| .q 8 <| .q 9 <| .q 10 <| .l 11 [8, 7, 6, 5, 4, 3, 2, 1, 0] <| .l 12 [] <| .done) mixed (by kernel_rfl) (by kernel_rfl) ?_); refine k_rund ?_; refine k_run ?_)
        clear fx
        refine e_ret [] .nil (by simp; rfl) ⟨by simp [hIdx], OwnM.fin ⟨by simp [hO.top, mRow], ⟨by simp [hO.scs.top], fun j k hj hk => by simp [hO.scs.sc j k hj hk]⟩, by simp [hO.out], by simp [hO.trc], hO.run.imp fun l hl => ⟨hl.1, by simp [hl.2]⟩, by simp [hO.funs], fun k g hg => by simp [hO.bx k g hg], by simp [hO.clss], fun k c hc => (hO.cls k c hc).imp fun ms hm => ⟨by simp [hm.1], hm.2⟩, fun i a ha => by simp [hO.env i a ha], fun i hi => (hO.nms i hi).imp fun ms hm => ⟨by simp [hm.1], hm.2⟩, fun k i j hk hn => if e : k = 1 ∧ i = 0 ∧ j = 0 then .inl e else hO.only k i j hk (by simpa [hk, e] using hn)⟩⟩
      · obtain ⟨e1, e2, e3⟩ := inside_up hh hw he heb ho hib
        have hneb : ((e.blk : Int) == (o : Int)) = false := by rw [beq_eq_false_iff_ne]; omega
        have hn0 : ¬ n = 0 := by omega
        rw [if_neg hn0] at hE
        have fx := And.intro t8 <| And.intro t9 <| And.intro hE <| And.intro hneb <| @bne_def
        refine k_run ?_
        repeat ((first | refine w_sch (id := 1) (.q 0 <| .q 1 <| .q 2 <| .q 3 <| .q 4 <| .q 5 <| .q 6 <| .q 7 <| .q 8 <| .q 9 <| .q 10 <| .l 11 [8, 7, 6, 5, 4, 3, 2, 1, 0] <| .l 12 [] <| .done) mixed (by kernel_rfl) (by kernel_rfl) ?_); refine k_rund ?_; refine k_run ?_)
        clear fx
        refine ⟨e.up, by omega, e.up, rfl, by omega, ?_, e3, by simp [t8], by simp, ⟨by simp [hO.top, mRow], ⟨by simp [hO.scs.top], fun j k hj hk => by simp [hO.scs.sc j k hj hk]⟩, by simp [hO.out], by simp [hO.trc], hO.run.imp fun l hl => ⟨hl.1, by simp [hl.2]⟩, by simp [hO.funs], fun k g hg => by simp [hO.bx k g hg], by simp [hO.clss], fun k c hc => (hO.cls k c hc).imp fun ms hm => ⟨by simp [hm.1], hm.2⟩, fun i a ha => by simp [hO.env i a ha], fun i hi => (hO.nms i hi).imp fun ms hm => ⟨by simp [hm.1], hm.2⟩, fun k i j hk hn => if e : k = 1 ∧ i = 0 ∧ j = 0 then .inl e else hO.only k i j hk (by simpa [hk, e] using hn)⟩⟩
        rw [← hcl, climb_up hh hw ho he heb hib]
end Go.Proofs.YtcbkblboonkfhaaGreat
end

section
set_option maxRecDepth 100000
set_option maxHeartbeats 4000000
set_option linter.unusedSimpArgs false
namespace Go.Proofs.YtcbkblboonkfhaaGreat
open Go Go.Hm Go.Proofs
theorem readM_fn (gl) (H : Nm → Option AO) (F : Nat) (p : Prg) (W : Wld) (a x : Nat) (hP : ShapeP p) (hw : WOk p W) (ha : a < W.acts.length) (hx : x < 8) (h0 : W.en = 0) (hO : OwnM H F p W) :
    FnE Tryz.prog gl 180 DM [.pt Mn 0, ptE a, iv x] H (fun _ y H' => y = .tup [Val.av (loadW p W a x).2, bv (decide ((loadW p W a x).1.en = 0))] ∧ OwnM H' F p (loadW p W a x).1) noE := by
  have hh := hP.heads
  have hx7 : 0 ≤ (x : Int) ∧ (x : Int) ≤ 7 := by omega
  obtain ⟨hnm, hil⟩ := nms_loc (x := (x : Int)) hh hw ha
  have hT := hO.top
  simp only [mRow] at hT
  obtain ⟨c, hc⟩ : ∃ c, W.acts[a]? = some c := ⟨_, List.getElem?_eq_getElem ha⟩
  have hE := hO.env a c hc
  refine FnE.of_sem Tryz.func180 rfl (by kernel_rfl) (rs := [.cell 6 117, .tmp 7]) rfl Tryz.ntmps180 (Nat.le_of_ble_eq_true rfl) (fun _ => DM_root) fun C w g root hroot => ?_
  have fx := fx0
  refine k_run ?_
  clear fx
  intro K hK
  have fx := fx0
  refine x_callM hO ⟨by simp [hO.top, mRow], ⟨by simp [hO.scs.top], fun j k hj hk => by simp [hO.scs.sc j k hj hk]⟩, by simp [hO.out], by simp [hO.trc], hO.run.imp fun l hl => ⟨hl.1, by simp [hl.2]⟩, by simp [hO.funs], fun k g hg => by simp [hO.bx k g hg], by simp [hO.clss], fun k c hc => (hO.cls k c hc).imp fun ms hm => ⟨by simp [hm.1], hm.2⟩, fun i a ha => by simp [hO.env i a ha], fun i hi => (hO.nms i hi).imp fun ms hm => ⟨by simp [hm.1], hm.2⟩, fun k i j hk hn => if e : k = 1 ∧ i = 0 ∧ j = 0 then .inl e else hO.only k i j hk (by simpa [hk, e] using hn)⟩ (Nat.le_refl _) (Nat.le_refl _) (hF := fun hs => holderOf_fn _ _ F p W a x hP hw ha hx hs) (h := ?_)
  rintro y H1 ⟨rfl, hO1⟩
  clear fx
  have hT1 := hO1.top
  simp only [mRow] at hT1
  obtain ⟨o, ho⟩ : ∃ o, owner p (W.blk a) x = o := ⟨_, rfl⟩
  obtain ⟨l, hl⟩ : ∃ l, W.loc p a x = l := ⟨_, rfl⟩
  rw [hl] at hnm hil ⊢
  rw [ho]
  obtain ⟨i, hi⟩ : ∃ i, hIdx l = i := ⟨_, rfl⟩
  rw [hi] at hnm hil ⊢
  obtain ⟨d, hd⟩ : ∃ d, W.acts[i]? = some d := ⟨_, List.getElem?_eq_getElem hil⟩
  have hE1 := hO1.env i d hd
  simp only [envRow] at hE1
  obtain ⟨ms, hms, hmo⟩ := hO1.nms i hil
  rw [hnm] at hmo
  have hlk := hmo.get' hx7
  cases hg : W.get l x with
  | some v =>
    rw [hg] at hlk
    have hlw : loadW p W a x = (W, v) := by simp only [loadW, hl, hg]
    have fx := And.intro hT <| And.intro hE <| And.intro hT1 <| And.intro hE1 <| And.intro hms <| hlk
    refine k_run ?_
    clear fx
    rw [hlw]
    refine e_ret [] .nil (by simp; rfl) ⟨by simp [h0], OwnM.fin ⟨by simp [hO1.top, mRow], ⟨by simp [hO1.scs.top], fun j k hj hk => by simp [hO1.scs.sc j k hj hk]⟩, by simp [hO1.out], by simp [hO1.trc], hO1.run.imp fun l hl => ⟨hl.1, by simp [hl.2]⟩, by simp [hO1.funs], fun k g hg => by simp [hO1.bx k g hg], by simp [hO1.clss], fun k c hc => (hO1.cls k c hc).imp fun ms hm => ⟨by simp [hm.1], hm.2⟩, fun i a ha => by simp [hO1.env i a ha], fun i hi => (hO1.nms i hi).imp fun ms hm => ⟨by simp [hm.1], hm.2⟩, fun k i j hk hn => if e : k = 1 ∧ i = 0 ∧ j = 0 then .inl e else hO1.only k i j hk (by simpa [hk, e] using hn)⟩⟩
  | none =>
    rw [hg] at hlk
    by_cases h4 : Hm.lack p (W.blk a) o = 4
    · have h4b : (Hm.lack p (W.blk a) o == 4) = true := by simpa using h4
      obtain ⟨a0, h00, hb0⟩ := hw.a0
      have hl0 := (List.getElem?_eq_some_iff.1 h00).1
      have hE0 := hO1.env 0 a0 h00
      simp only [envRow] at hE0
      obtain ⟨mg, hmg, hgo⟩ := hO1.nms 0 hl0
      have hgo' : MapOk mg (W.vars none) := by simpa [Wld.nms, Wld.vars] using hgo
      have hlg := hgo'.get' hx7
      cases hg2 : W.get none x with
      | some v =>
        rw [hg2] at hlg
        have hlw : loadW p W a x = (W, v) := by simp only [loadW, hl, ho, hg, h4, if_true, hg2]
        have fx := And.intro hT <| And.intro hE <| And.intro hT1 <| And.intro hE1 <| And.intro hms <| And.intro hlk <| And.intro h4b <| And.intro hE0 <| And.intro hmg <| And.intro hlg <| @bne_def
        refine k_run ?_
        clear fx
        rw [hlw]
        refine e_ret [] .nil (by simp; rfl) ⟨by simp [h0], OwnM.fin ⟨by simp [hO1.top, mRow], ⟨by simp [hO1.scs.top], fun j k hj hk => by simp [hO1.scs.sc j k hj hk]⟩, by simp [hO1.out], by simp [hO1.trc], hO1.run.imp fun l hl => ⟨hl.1, by simp [hl.2]⟩, by simp [hO1.funs], fun k g hg => by simp [hO1.bx k g hg], by simp [hO1.clss], fun k c hc => (hO1.cls k c hc).imp fun ms hm => ⟨by simp [hm.1], hm.2⟩, fun i a ha => by simp [hO1.env i a ha], fun i hi => (hO1.nms i hi).imp fun ms hm => ⟨by simp [hm.1], hm.2⟩, fun k i j hk hn => if e : k = 1 ∧ i = 0 ∧ j = 0 then .inl e else hO1.only k i j hk (by simpa [hk, e] using hn)⟩⟩
      | none =>
        rw [hg2] at hlg
        by_cases h7 : x = 7
        · subst h7
          have hlw : loadW p W a ((7 : Nat) : Int) = (W, (1, 70)) := by simp only [loadW, hl, ho, hg, h4, if_true, hg2]; simp
          have hlk7 : lk (7 : Int) ms = none := hlk
          have hlg7 : lk (7 : Int) mg = none := hlg
          have fx := And.intro hT <| And.intro hE <| And.intro hT1 <| And.intro hE1 <| And.intro hms <| And.intro hlk7 <| And.intro h4b <| And.intro hE0 <| And.intro hmg <| And.intro hlg7 <| @bne_def
          refine k_run ?_
          clear fx
          rw [hlw]
          refine e_ret [] .nil (by simp; rfl) ⟨by simp [h0], OwnM.fin ⟨by simp [hO1.top, mRow], ⟨by simp [hO1.scs.top], fun j k hj hk => by simp [hO1.scs.sc j k hj hk]⟩, by simp [hO1.out], by simp [hO1.trc], hO1.run.imp fun l hl => ⟨hl.1, by simp [hl.2]⟩, by simp [hO1.funs], fun k g hg => by simp [hO1.bx k g hg], by simp [hO1.clss], fun k c hc => (hO1.cls k c hc).imp fun ms hm => ⟨by simp [hm.1], hm.2⟩, fun i a ha => by simp [hO1.env i a ha], fun i hi => (hO1.nms i hi).imp fun ms hm => ⟨by simp [hm.1], hm.2⟩, fun k i j hk hn => if e : k = 1 ∧ i = 0 ∧ j = 0 then .inl e else hO1.only k i j hk (by simpa [hk, e] using hn)⟩⟩
        · have h7i : ¬ (x : Int) = 7 := by omega
          have h7b : ((x : Int) == 7) = false := by simpa using h7i
          have hlw : loadW p W a x = ({ W with en := 4 }, (0, 0)) := by
            simp only [loadW, hl, ho, hg, h4, if_true, hg2, h7i, if_false]
          have fx := And.intro hT <| And.intro hE <| And.intro hT1 <| And.intro hE1 <| And.intro hms <| And.intro hlk <| And.intro h4b <| And.intro hE0 <| And.intro hmg <| And.intro hlg <| And.intro h7b <| @bne_def
          refine k_run ?_
          clear fx
          intro K hK
          have fx := And.intro hT (And.intro hE hT1)
          refine x_callM hO ⟨by simp [hO1.top, mRow], ⟨by simp [hO1.scs.top], fun j k hj hk => by simp [hO1.scs.sc j k hj hk]⟩, by simp [hO1.out], by simp [hO1.trc], hO1.run.imp fun l hl => ⟨hl.1, by simp [hl.2]⟩, by simp [hO1.funs], fun k g hg => by simp [hO1.bx k g hg], by simp [hO1.clss], fun k c hc => (hO1.cls k c hc).imp fun ms hm => ⟨by simp [hm.1], hm.2⟩, fun i a ha => by simp [hO1.env i a ha], fun i hi => (hO1.nms i hi).imp fun ms hm => ⟨by simp [hm.1], hm.2⟩, fun k i j hk hn => if e : k = 1 ∧ i = 0 ∧ j = 0 then .inl e else hO1.only k i j hk (by simpa [hk, e] using hn)⟩ (Nat.le_refl _) (Nat.le_refl _) (hF := fun hs => stop_fn _ _ F p W 4 hs) (h := ?_)
          rintro y H2 ⟨rfl, hO2⟩
          clear fx
          have hT2 := hO2.top
          simp only [mRow] at hT2
          have fx := And.intro hT <| And.intro hE <| And.intro hT1 <| And.intro hE1 <| hT2
          refine k_run ?_
          clear fx
          rw [hlw]
          refine e_ret [] .nil (by simp; rfl) ⟨by simp, OwnM.fin ⟨by simp [hO2.top, mRow], ⟨by simp [hO2.scs.top], fun j k hj hk => by simp [hO2.scs.sc j k hj hk]⟩, by simp [hO2.out], by simp [hO2.trc], hO2.run.imp fun l hl => ⟨hl.1, by simp [hl.2]⟩, by simp [hO2.funs], fun k g hg => by simp [hO2.bx k g hg], by simp [hO2.clss], fun k c hc => (hO2.cls k c hc).imp fun ms hm => ⟨by simp [hm.1], hm.2⟩, fun i a ha => by simp [hO2.env i a ha], fun i hi => (hO2.nms i hi).imp fun ms hm => ⟨by simp [hm.1], hm.2⟩, fun k i j hk hn => if e : k = 1 ∧ i = 0 ∧ j = 0 then .inl e else hO2.only k i j hk (by simpa [hk, e] using hn)⟩⟩
    · have h4b : (Hm.lack p (W.blk a) o == 4) = false := by simpa using h4
      have hlw : loadW p W a x = ({ W with en := Hm.lack p (W.blk a) o }, (0, 0)) := by simp only [loadW, hl, ho, hg, h4, if_false]
      have hne : ¬ Hm.lack p (W.blk a) o = 0 := lack_ne
      have fx := And.intro hT <| And.intro hE <| And.intro hT1 <| And.intro hE1 <| And.intro hms <| And.intro hlk <| And.intro h4b <| @bne_def
      refine k_run ?_
      clear fx
      intro K hK
      have fx := And.intro hT (And.intro hE hT1)
      refine x_callM hO ⟨by simp [hO1.top, mRow], ⟨by simp [hO1.scs.top], fun j k hj hk => by simp [hO1.scs.sc j k hj hk]⟩, by simp [hO1.out], by simp [hO1.trc], hO1.run.imp fun l hl => ⟨hl.1, by simp [hl.2]⟩, by simp [hO1.funs], fun k g hg => by simp [hO1.bx k g hg], by simp [hO1.clss], fun k c hc => (hO1.cls k c hc).imp fun ms hm => ⟨by simp [hm.1], hm.2⟩, fun i a ha => by simp [hO1.env i a ha], fun i hi => (hO1.nms i hi).imp fun ms hm => ⟨by simp [hm.1], hm.2⟩, fun k i j hk hn => if e : k = 1 ∧ i = 0 ∧ j = 0 then .inl e else hO1.only k i j hk (by simpa [hk, e] using hn)⟩ (Nat.le_refl _) (Nat.le_refl _) (hF := fun hs => stop_fn _ _ F p W (Hm.lack p (W.blk a) o) hs) (h := ?_)
      rintro y H2 ⟨rfl, hO2⟩
      clear fx
      have hT2 := hO2.top
      simp only [mRow] at hT2
      have fx := And.intro hT <| And.intro hE <| And.intro hT1 <| And.intro hE1 <| hT2
      refine k_run ?_
      clear fx
      rw [hlw]
      refine e_ret [] .nil (by simp; rfl) ⟨by simp [hne], OwnM.fin ⟨by simp [hO2.top, mRow], ⟨by simp [hO2.scs.top], fun j k hj hk => by simp [hO2.scs.sc j k hj hk]⟩, by simp [hO2.out], by simp [hO2.trc], hO2.run.imp fun l hl => ⟨hl.1, by simp [hl.2]⟩, by simp [hO2.funs], fun k g hg => by simp [hO2.bx k g hg], by simp [hO2.clss], fun k c hc => (hO2.cls k c hc).imp fun ms hm => ⟨by simp [hm.1], hm.2⟩, fun i a ha => by simp [hO2.env i a ha], fun i hi => (hO2.nms i hi).imp fun ms hm => ⟨by simp [hm.1], hm.2⟩, fun k i j hk hn => if e : k = 1 ∧ i = 0 ∧ j = 0 then .inl e else hO2.only k i j hk (by simpa [hk, e] using hn)⟩⟩
theorem drop_fn (gl) (H : Nm → Option AO) (F : Nat) (p : Prg) (W : Wld) (a x : Nat) (hP : ShapeP p) (hw : WOk p W) (ha : a < W.acts.length) (hx : x < 8) (h0 : W.en = 0) (hO : OwnM H F p W) :
    FnE Tryz.prog gl 181 DM [.pt Mn 0, ptE a, iv x] H (fun _ y H' => y = bv (decide ((takeW p W a x).en = 0)) ∧ OwnM H' F p (takeW p W a x)) noE := by
  have hh := hP.heads
  have hx7 : 0 ≤ (x : Int) ∧ (x : Int) ≤ 7 := by omega
  obtain ⟨hnm, hil⟩ := nms_loc (x := (x : Int)) hh hw ha
  have hT := hO.top
  simp only [mRow] at hT
  obtain ⟨c, hc⟩ : ∃ c, W.acts[a]? = some c := ⟨_, List.getElem?_eq_getElem ha⟩
  have hE := hO.env a c hc
  refine FnE.of_sem Tryz.func181 rfl (by kernel_rfl) (rs := [.tmp 6]) rfl Tryz.ntmps181 (Nat.le_of_ble_eq_true rfl) (fun _ => DM_root) fun C w g root hroot => ?_
  have fx := fx0
  refine k_run ?_
  clear fx
  intro K hK
  have fx := fx0
  refine x_callM hO ⟨by simp [hO.top, mRow], ⟨by simp [hO.scs.top], fun j k hj hk => by simp [hO.scs.sc j k hj hk]⟩, by simp [hO.out], by simp [hO.trc], hO.run.imp fun l hl => ⟨hl.1, by simp [hl.2]⟩, by simp [hO.funs], fun k g hg => by simp [hO.bx k g hg], by simp [hO.clss], fun k c hc => (hO.cls k c hc).imp fun ms hm => ⟨by simp [hm.1], hm.2⟩, fun i a ha => by simp [hO.env i a ha], fun i hi => (hO.nms i hi).imp fun ms hm => ⟨by simp [hm.1], hm.2⟩, fun k i j hk hn => if e : k = 1 ∧ i = 0 ∧ j = 0 then .inl e else hO.only k i j hk (by simpa [hk, e] using hn)⟩ (Nat.le_refl _) (Nat.le_refl _) (hF := fun hs => holderOf_fn _ _ F p W a x hP hw ha hx hs) (h := ?_)
  rintro y H1 ⟨rfl, hO1⟩
  clear fx
  have hT1 := hO1.top
  simp only [mRow] at hT1
  obtain ⟨o, ho⟩ : ∃ o, owner p (W.blk a) x = o := ⟨_, rfl⟩
  obtain ⟨l, hl⟩ : ∃ l, W.loc p a x = l := ⟨_, rfl⟩
  have hnm0 := hnm
  rw [hl] at hnm hil ⊢
  rw [ho]
  obtain ⟨i, hi⟩ : ∃ i, hIdx l = i := ⟨_, rfl⟩
  rw [hi] at hnm hil ⊢
  obtain ⟨d, hd⟩ : ∃ d, W.acts[i]? = some d := ⟨_, List.getElem?_eq_getElem hil⟩
  have hE1 := hO1.env i d hd
  simp only [envRow] at hE1
  obtain ⟨ms, hms, hmo⟩ := hO1.nms i hil
  rw [hnm] at hmo
  have hlk := hmo.get' hx7
  cases hg : W.get l x with
  | none =>
    rw [hg] at hlk
    have hlw : takeW p W a x = { W with en := Hm.lack p (W.blk a) o } := by
      unfold takeW
      rw [hl, hg, ho]
    have hne : ¬ Hm.lack p (W.blk a) o = 0 := lack_ne
    have fx := And.intro hT <| And.intro hE <| And.intro hT1 <| And.intro hE1 <| And.intro hms <| And.intro hlk <| @bne_def
    refine k_run ?_
    clear fx
    intro K hK
    have fx := And.intro hT (And.intro hE hT1)
    refine x_callM hO ⟨by simp [hO1.top, mRow], ⟨by simp [hO1.scs.top], fun j k hj hk => by simp [hO1.scs.sc j k hj hk]⟩, by simp [hO1.out], by simp [hO1.trc], hO1.run.imp fun l hl => ⟨hl.1, by simp [hl.2]⟩, by simp [hO1.funs], fun k g hg => by simp [hO1.bx k g hg], by simp [hO1.clss], fun k c hc => (hO1.cls k c hc).imp fun ms hm => ⟨by simp [hm.1], hm.2⟩, fun i a ha => by simp [hO1.env i a ha], fun i hi => (hO1.nms i hi).imp fun ms hm => ⟨by simp [hm.1], hm.2⟩, fun k i j hk hn => if e : k = 1 ∧ i = 0 ∧ j = 0 then .inl e else hO1.only k i j hk (by simpa [hk, e] using hn)⟩ (Nat.le_refl _) (Nat.le_refl _) (hF := fun hs => stop_fn _ _ F p W (Hm.lack p (W.blk a) o) hs) (h := ?_)
    rintro y H2 ⟨rfl, hO2⟩
    clear fx
    have hT2 := hO2.top
    simp only [mRow] at hT2
    have fx := And.intro hT <| And.intro hE <| And.intro hT1 <| And.intro hE1 <| hT2
    refine k_run ?_
    clear fx
    rw [hlw]
    refine e_ret [] .nil (by simp; rfl) ⟨by simp [hne], OwnM.fin ⟨by simp [hO2.top, mRow], ⟨by simp [hO2.scs.top], fun j k hj hk => by simp [hO2.scs.sc j k hj hk]⟩, by simp [hO2.out], by simp [hO2.trc], hO2.run.imp fun l hl => ⟨hl.1, by simp [hl.2]⟩, by simp [hO2.funs], fun k g hg => by simp [hO2.bx k g hg], by simp [hO2.clss], fun k c hc => (hO2.cls k c hc).imp fun ms hm => ⟨by simp [hm.1], hm.2⟩, fun i a ha => by simp [hO2.env i a ha], fun i hi => (hO2.nms i hi).imp fun ms hm => ⟨by simp [hm.1], hm.2⟩, fun k i j hk hn => if e : k = 1 ∧ i = 0 ∧ j = 0 then .inl e else hO2.only k i j hk (by simpa [hk, e] using hn)⟩⟩
  | some v =>
    rw [hg] at hlk
    have hlw : takeW p W a x = W.set l x none := by
      unfold takeW
      rw [hl, hg]
    have fx := And.intro hT <| And.intro hE <| And.intro hT1 <| And.intro hE1 <| And.intro hms <| And.intro hlk <| @bne_def
    refine k_run ?_
    clear fx
    intro K hK
    refine o_abs (fun st => st.tm 35 = .mp (.c (En i) 0 1) ∧ st.tm 36 = iv x ∧ st.hp (.c (En i) 0 1) = some (.map (mrows ms)) ∧ OwnM st.hp F p W) ⟨by simp [hT, hE], by simp, by simp [hms], ⟨by simp [hO1.top, mRow], ⟨by simp [hO1.scs.top], fun j k hj hk => by simp [hO1.scs.sc j k hj hk]⟩, by simp [hO1.out], by simp [hO1.trc], hO1.run.imp fun l hl => ⟨hl.1, by simp [hl.2]⟩, by simp [hO1.funs], fun k g hg => by simp [hO1.bx k g hg], by simp [hO1.clss], fun k c hc => (hO1.cls k c hc).imp fun ms hm => ⟨by simp [hm.1], hm.2⟩, fun i a ha => by simp [hO1.env i a ha], fun i hi => (hO1.nms i hi).imp fun ms hm => ⟨by simp [hm.1], hm.2⟩, fun k i j hk hn => if e : k = 1 ∧ i = 0 ∧ j = 0 then .inl e else hO1.only k i j hk (by simpa [hk, e] using hn)⟩⟩ ?_
    rintro st ⟨t35, t36, hms', hO2⟩
    have fx := And.intro t35 (And.intro t36 hms')
    refine x_delete (h := ?_)
    clear fx
    have fx :=  hT
    refine k_run ?_
    clear fx
    rw [hlw]
    refine e_ret [] .nil (by simp; rfl) ⟨by rw [set_same.2.2.2.2.2.2]; simp [h0], OwnM.fin (ownM_set hh hw ha hx hl hnm0 hO2 (hmo.del hx7) fun m hm => ?_)⟩
    rw [hi]
    simp
end Go.Proofs.YtcbkblboonkfhaaGreat
end

section
set_option maxRecDepth 100000
set_option maxHeartbeats 4000000
set_option linter.unusedSimpArgs false
namespace Go.Proofs.YtcbkblboonkfhaaGreat
open Go Go.Hm Go.Proofs
theorem tmod_natI {v : Int} (hv : 0 ≤ v) : ∃ k : Nat, v.tmod 1000 = k ∧ k < 1000 := by
  have h1 := Int.tmod_nonneg 1000 hv
  have h2 := Int.tmod_lt_of_pos v (show (0 : Int) < 1000 by omega)
  exact ⟨(v.tmod 1000).toNat, by omega, by omega⟩
theorem add_fn (gl) (H : Nm → Option AO) (F : Nat) (p : Prg) (W : Wld) (u v : Val) (h0 : W.en = 0) (hu : VOk W.funs.length W.classes.length u) (hv : VOk W.funs.length W.classes.length v) (hO : OwnM H F p W) :
    FnE Tryz.prog gl 198 DM [.pt Mn 0, Val.av u, Val.av v] H (fun _ y H' => y = .tup [Val.av (plusW W u v).2, bv (decide ((plusW W u v).1.en = 0))] ∧ OwnM H' F p (plusW W u v).1) noE := by
  have hT := hO.top
  simp only [mRow] at hT
  obtain ⟨u1, u2⟩ := u
  obtain ⟨v1, v2⟩ := v
  have hu2 := hu.num
  have hv2 := hv.num
  simp only at hu2 hv2
  have hwr : IntKind.i64.wrap (u2 + v2) = u2 + v2 := wrp (by omega) (by omega)
  obtain ⟨q, hq, hql⟩ := tmod_natI (v := u2 + v2) (by omega)
  have hwq : IntKind.i64.wrap (q : Int) = q := wrp (by omega) (by omega)
  refine FnE.of_sem Tryz.func198 rfl (by kernel_rfl) (rs := [.cell 6 117, .tmp 7]) rfl Tryz.ntmps198 (Nat.le_of_ble_eq_true rfl) (fun _ => DM_root) fun C w g root hroot => ?_
  by_cases h1 : u1 = 1
  · by_cases h2 : v1 = 1
    · subst h1
      subst h2
      have hlw : plusW W (1, u2) (1, v2) = (W, (1, (q : Int))) := by simp [plusW, hq]
      have fx := And.intro hT <| And.intro hwr <| And.intro hq <| And.intro hwq <| @bne_def
      refine k_run ?_
      clear fx
      rw [hlw]
      refine e_ret [] .nil (by simp; rfl) ⟨by simp [h0], OwnM.fin ⟨by simp [hO.top, mRow], ⟨by simp [hO.scs.top], fun j k hj hk => by simp [hO.scs.sc j k hj hk]⟩, by simp [hO.out], by simp [hO.trc], hO.run.imp fun l hl => ⟨hl.1, by simp [hl.2]⟩, by simp [hO.funs], fun k g hg => by simp [hO.bx k g hg], by simp [hO.clss], fun k c hc => (hO.cls k c hc).imp fun ms hm => ⟨by simp [hm.1], hm.2⟩, fun i a ha => by simp [hO.env i a ha], fun i hi => (hO.nms i hi).imp fun ms hm => ⟨by simp [hm.1], hm.2⟩, fun k i j hk hn => if e : k = 1 ∧ i = 0 ∧ j = 0 then .inl e else hO.only k i j hk (by simpa [hk, e] using hn)⟩⟩
    · subst h1
      have hb2 : (v1 == 1) = false := by simpa using h2
      have hlw : plusW W (1, u2) (v1, v2) = ({ W with en := 5 }, (0, 0)) := by simp [plusW, h2]
      have fx := And.intro hT <| And.intro hb2 <| @bne_def
      refine k_run ?_
      clear fx
      intro K hK
      have fx := hT
      refine x_callM hO ⟨by simp [hO.top, mRow], ⟨by simp [hO.scs.top], fun j k hj hk => by simp [hO.scs.sc j k hj hk]⟩, by simp [hO.out], by simp [hO.trc], hO.run.imp fun l hl => ⟨hl.1, by simp [hl.2]⟩, by simp [hO.funs], fun k g hg => by simp [hO.bx k g hg], by simp [hO.clss], fun k c hc => (hO.cls k c hc).imp fun ms hm => ⟨by simp [hm.1], hm.2⟩, fun i a ha => by simp [hO.env i a ha], fun i hi => (hO.nms i hi).imp fun ms hm => ⟨by simp [hm.1], hm.2⟩, fun k i j hk hn => if e : k = 1 ∧ i = 0 ∧ j = 0 then .inl e else hO.only k i j hk (by simpa [hk, e] using hn)⟩ (Nat.le_refl _) (Nat.le_refl _) (hF := fun hs => stop_fn _ _ F p W 5 hs) (h := ?_)
      rintro y H2 ⟨rfl, hO2⟩
      clear fx
      have hT2 := hO2.top
      simp only [mRow] at hT2
      have fx := And.intro hT <| hT2
      refine k_run ?_
      clear fx
      rw [hlw]
      refine e_ret [] .nil (by simp; rfl) ⟨by simp, OwnM.fin ⟨by simp [hO2.top, mRow], ⟨by simp [hO2.scs.top], fun j k hj hk => by simp [hO2.scs.sc j k hj hk]⟩, by simp [hO2.out], by simp [hO2.trc], hO2.run.imp fun l hl => ⟨hl.1, by simp [hl.2]⟩, by simp [hO2.funs], fun k g hg => by simp [hO2.bx k g hg], by simp [hO2.clss], fun k c hc => (hO2.cls k c hc).imp fun ms hm => ⟨by simp [hm.1], hm.2⟩, fun i a ha => by simp [hO2.env i a ha], fun i hi => (hO2.nms i hi).imp fun ms hm => ⟨by simp [hm.1], hm.2⟩, fun k i j hk hn => if e : k = 1 ∧ i = 0 ∧ j = 0 then .inl e else hO2.only k i j hk (by simpa [hk, e] using hn)⟩⟩
  · have hb1 : (u1 == 1) = false := by simpa using h1
    have hlw : plusW W (u1, u2) (v1, v2) = ({ W with en := 5 }, (0, 0)) := by simp [plusW, h1]
    have fx := And.intro hT <| And.intro hb1 <| @bne_def
    refine k_run ?_
    clear fx
    intro K hK
    have fx := hT
    refine x_callM hO ⟨by simp [hO.top, mRow], ⟨by simp [hO.scs.top], fun j k hj hk => by simp [hO.scs.sc j k hj hk]⟩, by simp [hO.out], by simp [hO.trc], hO.run.imp fun l hl => ⟨hl.1, by simp [hl.2]⟩, by simp [hO.funs], fun k g hg => by simp [hO.bx k g hg], by simp [hO.clss], fun k c hc => (hO.cls k c hc).imp fun ms hm => ⟨by simp [hm.1], hm.2⟩, fun i a ha => by simp [hO.env i a ha], fun i hi => (hO.nms i hi).imp fun ms hm => ⟨by simp [hm.1], hm.2⟩, fun k i j hk hn => if e : k = 1 ∧ i = 0 ∧ j = 0 then .inl e else hO.only k i j hk (by simpa [hk, e] using hn)⟩ (Nat.le_refl _) (Nat.le_refl _) (hF := fun hs => stop_fn _ _ F p W 5 hs) (h := ?_)
    rintro y H2 ⟨rfl, hO2⟩
    clear fx
    have hT2 := hO2.top
    simp only [mRow] at hT2
    have fx := And.intro hT <| hT2
    refine k_run ?_
    clear fx
    rw [hlw]
    refine e_ret [] .nil (by simp; rfl) ⟨by simp, OwnM.fin ⟨by simp [hO2.top, mRow], ⟨by simp [hO2.scs.top], fun j k hj hk => by simp [hO2.scs.sc j k hj hk]⟩, by simp [hO2.out], by simp [hO2.trc], hO2.run.imp fun l hl => ⟨hl.1, by simp [hl.2]⟩, by simp [hO2.funs], fun k g hg => by simp [hO2.bx k g hg], by simp [hO2.clss], fun k c hc => (hO2.cls k c hc).imp fun ms hm => ⟨by simp [hm.1], hm.2⟩, fun i a ha => by simp [hO2.env i a ha], fun i hi => (hO2.nms i hi).imp fun ms hm => ⟨by simp [hm.1], hm.2⟩, fun k i j hk hn => if e : k = 1 ∧ i = 0 ∧ j = 0 then .inl e else hO2.only k i j hk (by simpa [hk, e] using hn)⟩⟩
theorem attribute_fn (gl) (H : Nm → Option AO) (F : Nat) (p : Prg) (W : Wld) (v : Val) (x : Nat) (h0 : W.en = 0) (hw : WOk p W) (hv : VOk W.funs.length W.classes.length v) (hx : x < 8) (hO : OwnM H F p W) :
    FnE Tryz.prog gl 202 DM [.pt Mn 0, Val.av v, iv x] H (fun _ y H' => y = .tup [Val.av (attrW W v x).2, bv (decide ((attrW W v x).1.en = 0))] ∧ OwnM H' F p (attrW W v x).1) noE := by
  have hT := hO.top
  simp only [mRow] at hT
  obtain ⟨v1, v2⟩ := v
  refine FnE.of_sem Tryz.func202 rfl (by kernel_rfl) (rs := [.cell 6 117, .tmp 7]) rfl Tryz.ntmps202 (Nat.le_of_ble_eq_true rfl) (fun _ => DM_root) fun C w g root hroot => ?_
  by_cases h1 : v1 = 3
  · subst h1
    have hv2 := hv.num
    have hv3 := hv.cls rfl
    simp only at hv2 hv3
    obtain ⟨i, rfl⟩ : ∃ i : Nat, v2 = i := ⟨v2.toNat, by omega⟩
    have hil : i < W.classes.length := by omega
    obtain ⟨c, hc⟩ : ∃ c, W.classes[i]? = some c := ⟨_, List.getElem?_eq_getElem hil⟩
    have hC := hO.clss
    obtain ⟨ms, hms, hmo⟩ := hO.cls i c hc
    have hcl := (hw.cls c (List.mem_of_getElem? hc)).1
    obtain ⟨s, hs⟩ : ∃ s, c[x]? = some s := ⟨_, List.getElem?_eq_getElem (by omega)⟩
    have hlk : lk (x : Int) ms = s := by
      rw [hmo.at (by omega)]
      simp [hs]
    cases s with
    | some u =>
      have hlw : attrW W (3, (i : Int)) x = (W, u) := by simp [attrW, hc, hs]
      have fx := And.intro hT <| And.intro hC <| And.intro hms <| And.intro hil <| And.intro hlk <| @bne_def
      refine k_run ?_
      repeat ((first | refine w_sch (id := 3) (.q 0 <| .q 1 <| .q 2 <| .q 3 <| .q 4 <| .q 5 <| .q 6 <| .q 7 <| .q 8 <| .q 9 <| .q 10 <| .q 11 <| .q 12 <| .l 13 [12, 11, 10, 9, 8, 7, 6, 5, 4, 3, 2, 1, 0] <| .l 14 [12] <| .l 15 [] <| .done) mixed (by kernel_rfl) (by kernel_rfl) ?_); refine k_rund ?_; refine k_run ?_)
      clear fx
      rw [hlw]
      refine e_ret [] .nil (by simp; rfl) ⟨by simp [h0], OwnM.fin ⟨by simp [hO.top, mRow], ⟨by simp [hO.scs.top], fun j k hj hk => by simp [hO.scs.sc j k hj hk]⟩, by simp [hO.out], by simp [hO.trc], hO.run.imp fun l hl => ⟨hl.1, by simp [hl.2]⟩, by simp [hO.funs], fun k g hg => by simp [hO.bx k g hg], by simp [hO.clss], fun k c hc => (hO.cls k c hc).imp fun ms hm => ⟨by simp [hm.1], hm.2⟩, fun i a ha => by simp [hO.env i a ha], fun i hi => (hO.nms i hi).imp fun ms hm => ⟨by simp [hm.1], hm.2⟩, fun k i j hk hn => if e : k = 1 ∧ i = 0 ∧ j = 0 then .inl e else hO.only k i j hk (by simpa [hk, e] using hn)⟩⟩
    | none =>
      have hlw : attrW W (3, (i : Int)) x = ({ W with en := 7 }, (0, 0)) := by simp [attrW, hc, hs]
      have fx := And.intro hT <| And.intro hC <| And.intro hms <| And.intro hil <| And.intro hlk <| @bne_def
      refine k_run ?_
      repeat ((first | refine w_sch (id := 3) (.q 0 <| .q 1 <| .q 2 <| .q 3 <| .q 4 <| .q 5 <| .q 6 <| .q 7 <| .q 8 <| .q 9 <| .q 10 <| .q 11 <| .q 12 <| .l 13 [12, 11, 10, 9, 8, 7, 6, 5, 4, 3, 2, 1, 0] <| .l 14 [12] <| .l 15 [] <| .done) mixed (by kernel_rfl) (by kernel_rfl) ?_); refine k_rund ?_; refine k_run ?_)
      clear fx
      intro K hK
      have fx := hT
      refine x_callM hO ⟨by simp [hO.top, mRow], ⟨by simp [hO.scs.top], fun j k hj hk => by simp [hO.scs.sc j k hj hk]⟩, by simp [hO.out], by simp [hO.trc], hO.run.imp fun l hl => ⟨hl.1, by simp [hl.2]⟩, by simp [hO.funs], fun k g hg => by simp [hO.bx k g hg], by simp [hO.clss], fun k c hc => (hO.cls k c hc).imp fun ms hm => ⟨by simp [hm.1], hm.2⟩, fun i a ha => by simp [hO.env i a ha], fun i hi => (hO.nms i hi).imp fun ms hm => ⟨by simp [hm.1], hm.2⟩, fun k i j hk hn => if e : k = 1 ∧ i = 0 ∧ j = 0 then .inl e else hO.only k i j hk (by simpa [hk, e] using hn)⟩ (Nat.le_refl _) (Nat.le_refl _) (hF := fun hs => stop_fn _ _ F p W 7 hs) (h := ?_)
      rintro y H2 ⟨rfl, hO2⟩
      clear fx
      have hT2 := hO2.top
      simp only [mRow] at hT2
      have fx := And.intro hT <| hT2
      refine k_run ?_
      repeat ((first | refine w_sch (id := 3) (.q 0 <| .q 1 <| .q 2 <| .q 3 <| .q 4 <| .q 5 <| .q 6 <| .q 7 <| .q 8 <| .q 9 <| .q 10 <| .q 11 <| .q 12 <| .l 13 [12, 11, 10, 9, 8, 7, 6, 5, 4, 3, 2, 1, 0] <| .l 14 [12] <| .l 15 [] <| .done) mixed (by kernel_rfl) (by kernel_rfl) ?_); refine k_rund ?_; refine k_run ?_)
      clear fx
      rw [hlw]
      refine e_ret [] .nil (by simp; rfl) ⟨by simp, OwnM.fin ⟨by simp [hO2.top, mRow], ⟨by simp [hO2.scs.top], fun j k hj hk => by simp [hO2.scs.sc j k hj hk]⟩, by simp [hO2.out], by simp [hO2.trc], hO2.run.imp fun l hl => ⟨hl.1, by simp [hl.2]⟩, by simp [hO2.funs], fun k g hg => by simp [hO2.bx k g hg], by simp [hO2.clss], fun k c hc => (hO2.cls k c hc).imp fun ms hm => ⟨by simp [hm.1], hm.2⟩, fun i a ha => by simp [hO2.env i a ha], fun i hi => (hO2.nms i hi).imp fun ms hm => ⟨by simp [hm.1], hm.2⟩, fun k i j hk hn => if e : k = 1 ∧ i = 0 ∧ j = 0 then .inl e else hO2.only k i j hk (by simpa [hk, e] using hn)⟩⟩
  · have hb1 : (v1 == 3) = false := by simpa using h1
    have hlw : attrW W (v1, v2) x = ({ W with en := 5 }, (0, 0)) := by simp [attrW, h1]
    have fx := And.intro hT <| And.intro hb1 <| @bne_def
    refine k_run ?_
    repeat ((first | refine w_sch (id := 3) (.q 0 <| .q 1 <| .q 2 <| .q 3 <| .q 4 <| .q 5 <| .q 6 <| .q 7 <| .q 8 <| .q 9 <| .q 10 <| .q 11 <| .q 12 <| .l 13 [12, 11, 10, 9, 8, 7, 6, 5, 4, 3, 2, 1, 0] <| .l 14 [12] <| .l 15 [] <| .done) mixed (by kernel_rfl) (by kernel_rfl) ?_); refine k_rund ?_; refine k_run ?_)
    clear fx
    intro K hK
    have fx := hT
    refine x_callM hO ⟨by simp [hO.top, mRow], ⟨by simp [hO.scs.top], fun j k hj hk => by simp [hO.scs.sc j k hj hk]⟩, by simp [hO.out], by simp [hO.trc], hO.run.imp fun l hl => ⟨hl.1, by simp [hl.2]⟩, by simp [hO.funs], fun k g hg => by simp [hO.bx k g hg], by simp [hO.clss], fun k c hc => (hO.cls k c hc).imp fun ms hm => ⟨by simp [hm.1], hm.2⟩, fun i a ha => by simp [hO.env i a ha], fun i hi => (hO.nms i hi).imp fun ms hm => ⟨by simp [hm.1], hm.2⟩, fun k i j hk hn => if e : k = 1 ∧ i = 0 ∧ j = 0 then .inl e else hO.only k i j hk (by simpa [hk, e] using hn)⟩ (Nat.le_refl _) (Nat.le_refl _) (hF := fun hs => stop_fn _ _ F p W 5 hs) (h := ?_)
    rintro y H2 ⟨rfl, hO2⟩
    clear fx
    have hT2 := hO2.top
    simp only [mRow] at hT2
    have fx := And.intro hT <| hT2
    refine k_run ?_
    repeat ((first | refine w_sch (id := 3) (.q 0 <| .q 1 <| .q 2 <| .q 3 <| .q 4 <| .q 5 <| .q 6 <| .q 7 <| .q 8 <| .q 9 <| .q 10 <| .q 11 <| .q 12 <| .l 13 [12, 11, 10, 9, 8, 7, 6, 5, 4, 3, 2, 1, 0] <| .l 14 [12] <| .l 15 [] <| .done) mixed (by kernel_rfl) (by kernel_rfl) ?_); refine k_rund ?_; refine k_run ?_)
    clear fx
    rw [hlw]
    refine e_ret [] .nil (by simp; rfl) ⟨by simp, OwnM.fin ⟨by simp [hO2.top, mRow], ⟨by simp [hO2.scs.top], fun j k hj hk => by simp [hO2.scs.sc j k hj hk]⟩, by simp [hO2.out], by simp [hO2.trc], hO2.run.imp fun l hl => ⟨hl.1, by simp [hl.2]⟩, by simp [hO2.funs], fun k g hg => by simp [hO2.bx k g hg], by simp [hO2.clss], fun k c hc => (hO2.cls k c hc).imp fun ms hm => ⟨by simp [hm.1], hm.2⟩, fun i a ha => by simp [hO2.env i a ha], fun i hi => (hO2.nms i hi).imp fun ms hm => ⟨by simp [hm.1], hm.2⟩, fun k i j hk hn => if e : k = 1 ∧ i = 0 ∧ j = 0 then .inl e else hO2.only k i j hk (by simpa [hk, e] using hn)⟩⟩
theorem readAll_fn (gl) (H : Nm → Option AO) (F : Nat) (p : Prg) (W : Wld) (a : Nat) (s : Stm) (hP : ShapeP p) (hw : WOk p W) (ha : a < W.acts.length) (h0 : W.en = 0) (hkd : 0 ≤ s.kind ∧ s.kind ≤ 11) (hrd : ∀ x ∈ s.reads, 0 ≤ x ∧ x ≤ 7) (hO : OwnM H F p W) :
    FnE Tryz.prog gl 153 DM [.pt Mn 0, ptE a, s.av] H (fun r y H' => OwnM H' F p (loadsW p W a s.reads).1 ∧ (((loadsW p W a s.reads).1.en = 0 ∧ y = .tup [.hs r 2 0 (loadsW p W a s.reads).2.length, bv true] ∧ H' r = some (.row 2 (vrows (loadsW p W a s.reads).2))) ∨ ((loadsW p W a s.reads).1.en ≠ 0 ∧ y = .tup [.hs r 2 0 0, bv false]))) noE := by
  have hT := hO.top
  simp only [mRow] at hT
  obtain ⟨c, hc⟩ : ∃ c, W.acts[a]? = some c := ⟨_, List.getElem?_eq_getElem ha⟩
  have hE := hO.env a c hc
  have hrl := Stm.reads_len s
  refine FnE.of_sem Tryz.func153 rfl (by kernel_rfl) (rs := [.tmp 6, .tmp 7]) rfl Tryz.ntmps153 (Nat.le_of_ble_eq_true rfl) (fun _ => DM_root) fun C w g root hroot => ?_
  have hr0 := hroot root (Nm.under_self _)
  have fx := fx0
  have c1 := formOf_fn gl s
  refine k_run ?_
  clear fx c1
  intro K hK
  have fx := fx0
  refine x_invh (hF := reads_inv _ (by kernel_rfl) s hkd) (h := ?_)
  clear fx
  have fx := fx0
  refine k_run ?_
  clear fx
  refine w_loop (fun n st => ∃ (i : Nat) (V : Wld) (vs : List Val), n = s.reads.length - i ∧ i ≤ s.reads.length ∧ vs.length = i ∧ loadsW p W a s.reads = ((loadsW p V a (s.reads.drop i)).1, vs ++ (loadsW p V a (s.reads.drop i)).2) ∧ WOk p V ∧ V.en = 0 ∧ a < V.acts.length ∧ W.acts.length ≤ V.acts.length ∧ W.funs.length ≤ V.funs.length ∧ st.tm 0 = .pt Mn 0 ∧ st.tm 1 = ptE a ∧ st.tm 15 = .hs (.s 15) 1 0 s.reads.length ∧ st.hp (.s 15) = some (.row 1 (irows s.reads)) ∧ st.tm 16 = iv s.reads.length ∧ st.tm 17 = iv i ∧ st.tm 8 = .hs (.s 8) 2 0 vs.length ∧ st.hp (.s 8) = some (.row 2 (vrows vs)) ∧ OwnM st.hp F p V) s.reads.length ?_ ?_
  · exact ⟨0, W, [], by omega, by omega, rfl, by simp, hw, h0, ha, Nat.le_refl _, Nat.le_refl _, by simp, by simp, by simp, by simp, by simp, by simp, by simp, by simp, ⟨by simp [hO.top, mRow], ⟨by simp [hO.scs.top], fun j k hj hk => by simp [hO.scs.sc j k hj hk]⟩, by simp [hO.out], by simp [hO.trc], hO.run.imp fun l hl => ⟨hl.1, by simp [hl.2]⟩, by simp [hO.funs], fun k g hg => by simp [hO.bx k g hg], by simp [hO.clss], fun k c hc => (hO.cls k c hc).imp fun ms hm => ⟨by simp [hm.1], hm.2⟩, fun i a ha => by simp [hO.env i a ha], fun i hi => (hO.nms i hi).imp fun ms hm => ⟨by simp [hm.1], hm.2⟩, fun k i j hk hn => if e : k = 1 ∧ i = 0 ∧ j = 0 then .inl e else hO.only k i j hk (by simpa [hk, e] using hn)⟩⟩
  rintro n st - - ⟨i, V, vs, rfl, hi, hvl, hres, hV, hen, haV, hl1, hl2, t0, t1, t15, hp15, t16, t17, t8, hp8, hO1⟩
  have hT1 := hO1.top
  simp only [mRow] at hT1
  obtain ⟨d, hd⟩ : ∃ d, V.acts[a]? = some d := ⟨_, List.getElem?_eq_getElem haV⟩
  have hE1 := hO1.env a d hd
  by_cases hil : i < s.reads.length
  · obtain ⟨x, hx⟩ : ∃ x, s.reads[i]? = some x := ⟨_, List.getElem?_eq_getElem hil⟩
    obtain ⟨_, hxE⟩ := List.getElem?_eq_some_iff.1 hx
    obtain ⟨hx0, hx7⟩ := hrd x (List.mem_of_getElem? hx)
    obtain ⟨X, rfl⟩ : ∃ X : Nat, x = X := ⟨x.toNat, by omega⟩
    have hdr : s.reads.drop i = (X : Int) :: s.reads.drop (i + 1) := by rw [List.drop_eq_getElem_cons hil, hxE]
    have hstep : loadsW p V a (s.reads.drop i) = ((loadsW p (loadW p V a X).1 a (s.reads.drop (i + 1))).1, (loadW p V a X).2 :: (loadsW p (loadW p V a X).1 a (s.reads.drop (i + 1))).2) := by
      rw [hdr]
      simp only [loadsW]
      rw [if_neg (by rw [hen]; decide)]
    obtain ⟨hA, _, _⟩ := loadW_ok (a := a) (x := (X : Int)) hV
    have hl3 : vs.length ≤ 2 := by omega
    have hrf := readM_fn gl (F := F) (p := p) (W := V) (a := a) (x := X)
    generalize hq : loadW p V a X = q at hstep hA hrf
    obtain ⟨V', v⟩ := q
    simp only at hstep hA hrf
    have fx := And.intro t0 <| And.intro t1 <| And.intro t15 <| And.intro hp15 <| And.intro t16 <| And.intro t17 <| And.intro t8 <| And.intro hp8 <| And.intro hil <| And.intro hx <| hxE
    refine k_run ?_
    clear fx
    intro K hK
    have fx := And.intro t0 (And.intro t1 hT1)
    refine x_callM hO ⟨by simp [hO1.top, mRow], ⟨by simp [hO1.scs.top], fun j k hj hk => by simp [hO1.scs.sc j k hj hk]⟩, by simp [hO1.out], by simp [hO1.trc], hO1.run.imp fun l hl => ⟨hl.1, by simp [hl.2]⟩, by simp [hO1.funs], fun k g hg => by simp [hO1.bx k g hg], by simp [hO1.clss], fun k c hc => (hO1.cls k c hc).imp fun ms hm => ⟨by simp [hm.1], hm.2⟩, fun i a ha => by simp [hO1.env i a ha], fun i hi => (hO1.nms i hi).imp fun ms hm => ⟨by simp [hm.1], hm.2⟩, fun k i j hk hn => if e : k = 1 ∧ i = 0 ∧ j = 0 then .inl e else hO1.only k i j hk (by simpa [hk, e] using hn)⟩ hl1 hl2 (hF := fun hs => hrf _ hP hV haV (by omega) hen hs) (h := ?_)
    rintro y H2 ⟨rfl, hO2⟩
    clear fx
    have hT2 := hO2.top
    simp only [mRow] at hT2
    by_cases hen2 : V'.en = 0
    · obtain ⟨v1, v2⟩ := v
      have fx := And.intro t0 <| And.intro t1 <| And.intro t15 <| And.intro hp15 <| And.intro t16 <| And.intro t17 <| And.intro t8 <| And.intro hp8 <| And.intro hT1 <| And.intro hE1 <| And.intro hT2 <| And.intro hen2 <| hl3
      refine k_run ?_
      clear fx
      refine ⟨s.reads.length - (i + 1), by omega, i + 1, V', vs ++ [(v1, v2)], rfl, by omega, by simp [hvl], ?_, hA.ok, hen2, Nat.lt_of_lt_of_le haV hA.grow.lacts, Nat.le_trans hl1 hA.grow.lacts, Nat.le_trans hl2 hA.grow.lfuns, by simp [t0, hT1], by simp [t1, hE1], by simp [t15], by simp [hp15], by simp [t16], by simp [t17]; exact wrp (by omega) (by omega), by simp, by simp [vrows], ⟨by simp [hO2.top, mRow, hen2], ⟨by simp [hO2.scs.top, hen2], fun j k hj hk => by simp [hO2.scs.sc j k hj hk, hen2]⟩, by simp [hO2.out, hen2], by simp [hO2.trc, hen2], hO2.run.imp fun l hl => ⟨hl.1, by simp [hl.2, hen2]⟩, by simp [hO2.funs, hen2], fun k g hg => by simp [hO2.bx k g hg, hen2], by simp [hO2.clss, hen2], fun k c hc => (hO2.cls k c hc).imp fun ms hm => ⟨by simp [hm.1, hen2], hm.2⟩, fun i a ha => by simp [hO2.env i a ha, hen2], fun i hi => (hO2.nms i hi).imp fun ms hm => ⟨by simp [hm.1, hen2], hm.2⟩, fun k i j hk hn => if e : k = 1 ∧ i = 0 ∧ j = 0 then .inl e else hO2.only k i j hk (by simpa [hk, e] using hn)⟩⟩
      rw [hres, hstep]
      simp
    · have hend : (loadsW p W a s.reads).1 = V' := by
        rw [hres, hstep]
        cases hl : s.reads.drop (i + 1) with
        | nil => rfl
        | cons y l => simp only [loadsW]; rw [if_pos hen2]
      obtain ⟨v1, v2⟩ := v
      have fx := And.intro t0 <| And.intro t1 <| And.intro t15 <| And.intro hp15 <| And.intro t16 <| And.intro t17 <| And.intro t8 <| And.intro hp8 <| And.intro hT1 <| And.intro hE1 <| And.intro hT2 <| And.intro hen2 <| hl3
      refine k_run ?_
      clear fx
      refine e_ret [(.s 6, root)] (.one rfl) (by simp; rfl) ⟨by rw [hend]; exact OwnM.fin ⟨by simp [hO2.top, mRow], ⟨by simp [hO2.scs.top], fun j k hj hk => by simp [hO2.scs.sc j k hj hk]⟩, by simp [hO2.out], by simp [hO2.trc], hO2.run.imp fun l hl => ⟨hl.1, by simp [hl.2]⟩, by simp [hO2.funs], fun k g hg => by simp [hO2.bx k g hg], by simp [hO2.clss], fun k c hc => (hO2.cls k c hc).imp fun ms hm => ⟨by simp [hm.1], hm.2⟩, fun i a ha => by simp [hO2.env i a ha], fun i hi => (hO2.nms i hi).imp fun ms hm => ⟨by simp [hm.1], hm.2⟩, fun k i j hk hn => if e : k = 1 ∧ i = 0 ∧ j = 0 then .inl e else hO2.only k i j hk (by simpa [hk, e] using hn)⟩, .inr ⟨by rw [hend]; exact hen2, by simp⟩⟩
  · have hge : i = s.reads.length := by omega
    have hend : loadsW p W a s.reads = (V, vs) := by
      rw [hres, hge]
      simp [loadsW]
    rw [hend]
    have fx := And.intro t0 <| And.intro t1 <| And.intro t15 <| And.intro hp15 <| And.intro t16 <| And.intro t17 <| And.intro t8 <| And.intro hp8 <| hil
    refine k_run ?_
    clear fx
    refine e_ret [(.s 6, root)] (.one rfl) (by simp; rfl) ⟨OwnM.fin ⟨by simp [hO1.top, mRow], ⟨by simp [hO1.scs.top], fun j k hj hk => by simp [hO1.scs.sc j k hj hk]⟩, by simp [hO1.out], by simp [hO1.trc], hO1.run.imp fun l hl => ⟨hl.1, by simp [hl.2]⟩, by simp [hO1.funs], fun k g hg => by simp [hO1.bx k g hg], by simp [hO1.clss], fun k c hc => (hO1.cls k c hc).imp fun ms hm => ⟨by simp [hm.1], hm.2⟩, fun i a ha => by simp [hO1.env i a ha], fun i hi => (hO1.nms i hi).imp fun ms hm => ⟨by simp [hm.1], hm.2⟩, fun k i j hk hn => if e : k = 1 ∧ i = 0 ∧ j = 0 then .inl e else hO1.only k i j hk (by simpa [hk, e] using hn)⟩, .inl ⟨hen, by simp, by simp [hp8, hr0]⟩⟩
end Go.Proofs.YtcbkblboonkfhaaGreat
end

section
set_option maxRecDepth 100000
set_option maxHeartbeats 4000000
set_option linter.unusedSimpArgs false
namespace Go.Proofs.YtcbkblboonkfhaaGreat
open Go Go.Hm Go.Proofs
def MBok (gl : Nat → Option (List AV)) (F : Nat) (p : Prg) (n : Nat) : Prop := ∀ (H : Nm → Option AO) (W : Wld) (a : Nat), OwnM H F p W → WOk p W → W.left < n → a < W.acts.length → W.en = 0 → H (.u 2 0 0) = none →
  FnE Tryz.prog gl 105 DM [.pt Mn 0, ptE a] H (fun _ y H' => y = .tup [Val.av (runW p n W a).2, bv (decide ((runW p n W a).1.en = 0))] ∧ OwnM H' F p (runW p n W a).1) noE
theorem enterM_fn (gl) (F : Nat) (p : Prg) (n : Nat) (hR : MBok gl F p n) (H : Nm → Option AO) (W : Wld) (b up : Nat) (vs : List Val) (hP : ValP p) (hw : WOk p W) (hn : W.left < n) (h0 : W.en = 0) (hm : madeAt p W.acts b up) (hv : ∀ v ∈ vs, VOk W.funs.length W.classes.length v) (hr : Room 1 W)
    (hO : OwnM H F p { beginW p W b up vs with stack := W.stack }) (hV : H (.u 2 0 0) = none) :
    FnE Tryz.prog gl 208 DM [.pt Mn 0, ptE W.acts.length] H (fun _ y H' => y = .tup [Val.av (enterW p (runW p n) W b up vs).2, bv (decide ((enterW p (runW p n) W b up vs).1.en = 0))] ∧ OwnM H' F p (enterW p (runW p n) W b up vs).1) noE := by
  have hT := hO.top
  obtain ⟨sl, hslb, hS⟩ := hO.run
  simp only [mRow] at hT
  obtain ⟨hok, hgr⟩ := beginW_ok hw hm hv hr
  have hl2 := hr.stk
  have hsl : W.stack.length ≤ 1000 := by omega
  have hlen : W.acts.length < (beginW p W b up vs).acts.length := by simp [beginW]
  obtain ⟨c, hc⟩ : ∃ c, (beginW p W b up vs).acts[W.acts.length]? = some c := ⟨_, List.getElem?_eq_getElem hlen⟩
  have hE := hO.env W.acts.length c hc
  have hap : erows W.stack ++ [[ptE W.acts.length]] = erows (W.stack ++ [W.acts.length]) := erows_app1
  have hst : (beginW p W b up vs).stack = W.stack ++ [W.acts.length] := rfl
  refine FnE.of_sem Tryz.func208 rfl (by kernel_rfl) (rs := [.cell 4 117, .tmp 5]) rfl Tryz.ntmps208 (Nat.le_of_ble_eq_true rfl) (fun _ => DM_root) fun C w g root hroot => ?_
  have fx := And.intro hT <| And.intro hS <| hsl
  refine k_run ?_
  repeat ((first | refine w_sch (id := 4) (.q 0 <| .q 1 <| .q 2 <| .q 3 <| .q 4 <| .q 5 <| .q 6 <| .q 7 <| .q 8 <| .q 9 <| .q 10 <| .q 11 <| .q 12 <| .q 13 <| .l 14 [12] <| .done) mixed (by kernel_rfl) (by kernel_rfl) ?_); refine k_rund ?_; refine k_run ?_)
  clear fx
  intro K hK
  have fx := And.intro hT hE
  have hBo : ∀ hp : Nm → Option AO, OwnM hp F p (beginW p W b up vs) → OwnM hp F p (beginW p W b up vs) := fun _ h => h
  refine x_callM hO (w := beginW p W b up vs) ⟨by simp [mRow, hT, hst], ⟨by simp [hO.scs.top], fun j k hj hk => by simp [hO.scs.sc j k hj hk]⟩, by simp [hO.out], by simp [hO.trc], ⟨[], by simp, by simp [hst, ← hap]⟩, by simp [hO.funs], fun k g hg => by simp [hO.bx k g hg], by simp [hO.clss], fun k c hc => (hO.cls k c hc).imp fun ms hm => ⟨by simp [hm.1], hm.2⟩, fun i a ha => by simp [hO.env i a ha], fun i hi => (hO.nms i hi).imp fun ms hm => ⟨by simp [hm.1], hm.2⟩, fun k i j hk hn => if e : k = 1 ∧ i = 0 ∧ j = 0 then .inl e else hO.only k i j hk (by simpa [hk, e] using hn)⟩ (Nat.le_refl _) (Nat.le_refl _) (hF := fun hs => hR _ (beginW p W b up vs) W.acts.length hs hok hn hlen h0 (by simp)) (h := ?_)
  rintro y H1 ⟨rfl, hO1⟩
  clear fx
  obtain ⟨hAf, hvok⟩ := runW_ok hP.sh n (beginW p W b up vs) W.acts.length hok hn hlen h0
  have hent : enterW p (runW p n) W b up vs = (endW (runW p n (beginW p W b up vs) W.acts.length).1, (runW p n (beginW p W b up vs) W.acts.length).2) := rfl
  generalize runW p n (beginW p W b up vs) W.acts.length = q at hO1 hAf hvok hent
  obtain ⟨V, v1, v2⟩ := q
  simp only at hO1 hAf hvok hent
  have hT1 := hO1.top
  obtain ⟨sl1, hslb1, hS1⟩ := hO1.run
  simp only [mRow] at hT1
  by_cases hen : V.en = 0
  · have hstk : V.stack = W.stack ++ [W.acts.length] := hAf.stk hen
    have hsl1 : V.stack.length = W.stack.length + 1 := by rw [hstk]; simp
    have hwr : IntKind.i64.wrap (W.stack.length : Int) = W.stack.length := wrp (by omega) (by omega)
    have hend : endW V = { V with stack := W.stack } := by
      unfold endW
      rw [if_pos hen, hstk]
      simp
    have hslb2 : ∀ i ∈ W.acts.length :: sl1, i < V.acts.length := by
      intro i hi
      have := hAf.grow.lacts
      rcases List.mem_cons.1 hi with e | e
      · omega
      · exact hslb1 i e
    have hle1 : (W.stack.length : Int) ≤ (W.stack.length : Int) + 1 := by omega
    have hle0 : (0 : Int) ≤ (W.stack.length : Int) := by omega
    rw [hend] at hent
    rw [hsl1] at hT1
    have fx := And.intro hT <| And.intro hE <| And.intro hT1 <| And.intro hS1 <| And.intro hen <| And.intro hwr <| And.intro hle1 <| hle0
    refine k_run ?_
    repeat ((first | refine w_sch (id := 4) (.q 0 <| .q 1 <| .q 2 <| .q 3 <| .q 4 <| .q 5 <| .q 6 <| .q 7 <| .q 8 <| .q 9 <| .q 10 <| .q 11 <| .q 12 <| .q 13 <| .l 14 [12] <| .done) mixed (by kernel_rfl) (by kernel_rfl) ?_); refine k_rund ?_; refine k_run ?_)
    clear fx
    rw [hent]
    refine e_ret [] .nil (by simp; rfl) ⟨by simp [hen], OwnM.fin ⟨by simp [mRow, hen], ⟨by simp [hO1.scs.top], fun j k hj hk => by simp [hO1.scs.sc j k hj hk]⟩, by simp [hO1.out], by simp [hO1.trc], ⟨W.acts.length :: sl1, hslb2, by simp [hS1, hstk]⟩, by simp [hO1.funs], fun k g hg => by simp [hO1.bx k g hg], by simp [hO1.clss], fun k c hc => (hO1.cls k c hc).imp fun ms hm => ⟨by simp [hm.1], hm.2⟩, fun i a ha => by simp [hO1.env i a ha], fun i hi => (hO1.nms i hi).imp fun ms hm => ⟨by simp [hm.1], hm.2⟩, fun k i j hk hn => if e : k = 1 ∧ i = 0 ∧ j = 0 then .inl e else hO1.only k i j hk (by simpa [hk, e] using hn)⟩⟩
  · have hend : endW V = V := by
      unfold endW
      rw [if_neg hen]
    rw [hend] at hent
    have fx := And.intro hT <| And.intro hE <| And.intro hT1 <| hen
    refine k_run ?_
    repeat ((first | refine w_sch (id := 4) (.q 0 <| .q 1 <| .q 2 <| .q 3 <| .q 4 <| .q 5 <| .q 6 <| .q 7 <| .q 8 <| .q 9 <| .q 10 <| .q 11 <| .q 12 <| .q 13 <| .l 14 [12] <| .done) mixed (by kernel_rfl) (by kernel_rfl) ?_); refine k_rund ?_; refine k_run ?_)
    clear fx
    rw [hent]
    refine e_ret [] .nil (by simp; rfl) ⟨by simp [hen], OwnM.fin ⟨by simp [hO1.top, mRow], ⟨by simp [hO1.scs.top], fun j k hj hk => by simp [hO1.scs.sc j k hj hk]⟩, by simp [hO1.out], by simp [hO1.trc], hO1.run.imp fun l hl => ⟨hl.1, by simp [hl.2]⟩, by simp [hO1.funs], fun k g hg => by simp [hO1.bx k g hg], by simp [hO1.clss], fun k c hc => (hO1.cls k c hc).imp fun ms hm => ⟨by simp [hm.1], hm.2⟩, fun i a ha => by simp [hO1.env i a ha], fun i hi => (hO1.nms i hi).imp fun ms hm => ⟨by simp [hm.1], hm.2⟩, fun k i j hk hn => if e : k = 1 ∧ i = 0 ∧ j = 0 then .inl e else hO1.only k i j hk (by simpa [hk, e] using hn)⟩⟩
end Go.Proofs.YtcbkblboonkfhaaGreat
end
