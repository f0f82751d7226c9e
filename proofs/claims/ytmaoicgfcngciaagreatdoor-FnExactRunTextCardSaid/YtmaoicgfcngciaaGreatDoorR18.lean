/-
  Own texts, joined by mkclaim.py: Hm153.
-/
import Derived.Test.YtmaoicgfcngciaaGreatDoorR17
set_option linter.unusedSimpArgs false
set_option linter.unusedVariables false
set_option maxRecDepth 100000
set_option maxHeartbeats 4000000

section
namespace Go.Hm
open Go Go.RowKit
def arunE (X : Ctx) (ops : List Oper) (ds : List (Option Nat)) (E0 : AV → Prop) (K : St → Prop) : Sch → St → Prop
  | .done, st => K st
  | .q i r, st => match ops[i]? with | some o => QG X ds o (arunE X ops ds E0 K r) st | none => False
  | .l i ps r, st => match ops[i]? with | some o => SemG X ds o (fun s => stabs X ops ds ps s ∧ arunE X ops ds E0 K r s) (fun x _ => E0 x) st | none => False
  | .l2 i ps r j qs s, st => (match ops[i]? with | some o => SemG X ds o (fun s => stabs X ops ds ps s ∧ arunE X ops ds E0 K r s) (fun x _ => E0 x) st | none => False) ∧
      (match ops[j]? with | some o => SemG X ds o (fun s' => stabs X ops ds qs s' ∧ arunE X ops ds E0 K s s') (fun x _ => E0 x) st | none => False)
section
variable {X : Ctx} {ops : Array Oper} {st : St} {K : St → Prop} {E0 : AV → Prop}
def QE (X : Ctx) (E0 : AV → Prop) : Exit → Go.Act → World → Prop := fun e b w' => ∃ v x st', e = .panic [{ v := v, recovered := false }] ∧ RwV X st' b w' v x ∧ E0 x
theorem RwV.slots {a b : Go.Act} {w : World} {v : Value} {x : AV} (h : RwV X st b w v x) (hd : a.defers = b.defers) (hs : a.tmps.size = b.tmps.size) : RwV X { st with tm := fun _ => .bot } a w v x := by
  obtain ⟨C, g, h1, h2, h3, h4, h5, ⟨i, d, s, sl, gl⟩, hv⟩ := h
  exact ⟨C, g, h1, h2, h3, h4, h5, ⟨i, hd.trans d, hs.trans s, fun t => .bot _, gl⟩, hv⟩
theorem upon_agrE {P : Program} {o : Oper} {a b : Go.Act} {K1 K2 : Go.Act → World → Prop} {Q : Exit → Go.Act → World → Prop} {r : Result Next} (hdef : a.defers = b.defers)
    (hK : ∀ v D w', K1 (Go.Act.put { b with defers := D } o.dst v) w' → K2 (Go.Act.put { a with defers := D } o.dst v) w') (hQ : ∀ e w', QE X E0 e b w' → Q e a w') (h : o.upon P b K1 (QE X E0) r) : o.upon P a K2 Q r := by
  have hb : ({ b with defers := b.defers } : Go.Act) = b := rfl
  have ha : ({ a with defers := b.defers } : Go.Act) = a := by rw [← hdef]
  have hv : ∀ v w', K1 (b.put o.dst v) w' → K2 (a.put o.dst v) w' := fun v w' h => by
    have := hK v b.defers w' (by rw [hb]; exact h)
    rwa [ha] at this
  cases r with
  | ok n w' =>
    cases n with
    | value v => exact hv v w' h
    | skip => exact hv undef w' h
    | defer d =>
      have h : K1 (Go.Act.put { b with defers := d :: b.defers } o.dst undef) w' := h
      show K2 (Go.Act.put { a with defers := d :: a.defers } o.dst undef) w'
      rw [hdef]
      exact hK _ _ _ h
    | enter f args =>
      refine Calls.mono h fun e w'' he => ?_
      cases e with
      | returned v => exact hv v w'' he
      | panicked ch => exact hQ _ _ he
      | outgrown => obtain ⟨_, _, _, _, _, h, _⟩ := he; cases h
    | row row args => exact Rows.mono h fun v w'' he => hv v w'' he
    | _ => exact h.elim
  | halt x w' =>
    cases x with
    | panic v => exact hQ _ _ h
    | _ => exact h.elim
theorem advanceE (hw : WfD ops) : ∀ (sch : Sch) {LV : List Nat} {listed : Array Bool} {st : St} {a b : Go.Act} {w : World}, okD ops sch LV = true → arunE X ops.toList (ops.toList.map (·.dst)) E0 K sch st → DI X ops LV listed st a b w →
    ∃ sch' LV' st' b', (∀ i r, sch' ≠ .q i r) ∧ okD ops sch' LV' = true ∧ arunE X ops.toList (ops.toList.map (·.dst)) E0 K sch' st' ∧ DI X ops LV' listed st' a b' w := by
  intro sch
  induction sch with
  | done => intro LV listed st a b w h1 h2 h3; exact ⟨_, LV, st, b, (by intros; simp), h1, h2, h3⟩
  | l i ps r _ => intro LV listed st a b w h1 h2 h3; exact ⟨_, LV, st, b, (by intros; simp), h1, h2, h3⟩
  | l2 i ps r j qs s _ _ => intro LV listed st a b w h1 h2 h3; exact ⟨_, LV, st, b, (by intros; simp), h1, h2, h3⟩
  | q i r ih =>
    intro LV listed st a b w h1 h2 h3
    simp only [okD, Bool.and_eq_true, decide_eq_true_eq] at h1
    obtain ⟨⟨⟨hlt, hq⟩, hr⟩, hok⟩ := h1
    simp only [rdy, Bool.and_eq_true, Bool.not_eq_true'] at hr
    obtain ⟨hni, hpr⟩ := hr
    have hni : i ∉ LV := fun hm => by rw [contains_mem.2 hm] at hni; cases hni
    have hpr : ∀ j ∈ prd ops i, j ∈ LV := fun j hj => contains_mem.1 (List.all_eq_true.1 hpr j hj)
    have ho : ops[i]? = some ops[i] := Array.getElem?_eq_getElem hlt
    simp only [arunE, Array.getElem?_toList, ho] at h2
    obtain ⟨d, v, st', hd, hK, hR', hP⟩ := quiet_step hw ho hq (fun hm => hni (hpr i hm)) h3.rw h2
    have hdi : dstOf ops i = some d := by simp [dstOf, ho, hd]
    have hnl : listed.getD i true = false := by
      cases e : listed.getD i true with
      | false => rfl
      | true => exact absurd (h3.sub i hlt e) hni
    refine ih (LV := i :: LV) (listed := listed) (st := st') (a := a) (b := b.put (some d) v) (w := w) hok hK ⟨hR', h3.len, fun k hk e => List.mem_cons_of_mem _ (h3.sub k hk e), h3.closed, ?_, ?_, ⟨hni, hlt, hpr, h3.ord⟩⟩
    · intro q hqc e
      rcases List.mem_cons.1 hqc with rfl | hqm
      · exact ⟨hq, hP⟩
      · obtain ⟨x1, x2⟩ := h3.pend q hqm e
        have hqlt := h3.ord.lt q hqm
        refine ⟨x1, x2.put hw d v (fun o' ho' hm => ?_) (fun e' => ?_)⟩
        · have := hw.look q o' d i ho' hm hlt hdi hq
          exact hni (h3.ord.prd q hqm i this)
        · obtain rfl := hw.dist q i d hqlt hlt e' hdi
          exact hni hqm
    · refine ⟨h3.agr.defers, by simpa [Go.Act.put] using h3.agr.size, fun t ht => ?_⟩
      have htd : t ≠ d := fun e => ht ⟨i, by simp, hnl, by rw [hdi, e]⟩
      simp only [Go.Act.put]
      rw [Array.getElem?_setIfInBounds_ne (fun e => htd e.symm)]
      exact h3.agr.tmps t (fun ⟨q, x1, x2, x3⟩ => ht ⟨q, List.mem_cons_of_mem _ x1, x2, x3⟩)
theorem finishE {sch : Sch} {LV : List Nat} {listed : Array Bool} {a b : Go.Act} {w : World} {Q : Exit → Go.Act → World → Prop} (hK : ∀ a' w' st', Rw X st' a' w' → K st' → Q .normal a' w') (hD : DI X ops LV listed st a b w)
    (hnq : ∀ i r, sch ≠ .q i r) (hok : okD ops sch LV = true) (hr : arunE X ops.toList (ops.toList.map (·.dst)) E0 K sch st) (hall : ∀ i, i < ops.size → listed.getD i true = true) : Q .normal a w := by
  have hin : ∀ i, i < ops.size → i ∈ LV := fun i hi => hD.sub i hi (hall i hi)
  have no : ∀ i, i ∉ rdyL ops LV := fun i hm => by
    obtain ⟨h1, h2, _⟩ := mem_rdyL.1 hm
    exact h2 (hin i h1)
  have hab : a = b := by
    obtain ⟨t1, d1⟩ := a
    obtain ⟨t2, d2⟩ := b
    have hd : d1 = d2 := hD.agr.defers
    have ht : t1 = t2 := by
      apply Array.ext_getElem?
      intro t
      exact hD.agr.tmps t (fun ⟨q, x1, x2, _⟩ => by rw [hall q (hD.ord.lt q x1)] at x2; cases x2)
    rw [hd, ht]
  cases sch with
  | done => exact hK a w st (hab ▸ hD.rw) hr
  | q i r => exact absurd rfl (hnq i r)
  | l i ps r =>
    simp only [okD, Bool.and_eq_true, beq_iff_eq] at hok
    exact absurd (by rw [hok.1.1.1]; simp) (no i)
  | l2 i ps r j qs s =>
    simp only [okD, Bool.and_eq_true, beq_iff_eq] at hok
    exact absurd (by rw [hok.1.1.1.1.1.1]; simp) (no i)
theorem loudE {fuel i : Nat} {ps LV : List Nat} {r : Sch} {listed : Array Bool} {a b : Go.Act} {w : World} {Q : Exit → Go.Act → World → Prop} {o : Oper} (hw : WfD ops) (ho : ops[i]? = some o) (hq : qui ops i = false) (hD : DI X ops LV listed st a b w)
    (hni : i ∉ LV) (hlist : ∀ j ∈ prd ops i, listed.getD j false = true) (hps : ∀ q ∈ pendL ops LV i, q ∈ ps) (hok : okD ops r (i :: LV) = true)
    (h : SemG X (ops.toList.map (·.dst)) o (fun s => stabs X ops.toList (ops.toList.map (·.dst)) ps s ∧ arunE X ops.toList (ops.toList.map (·.dst)) E0 K r s) (fun x _ => E0 x) st)
    (hQ : ∀ a' v w' st' x, RwV X st' a' w' v x → E0 x → Q (.panic [{ v := v, recovered := false }]) a' w') (hun : unl ops listed ≤ fuel + 1)
    (ih : ∀ (sch : Sch) (LV : List Nat) (listed : Array Bool) (st : St) (a b : Go.Act) (w : World), DI X ops LV listed st a b w → okD ops sch LV = true → arunE X ops.toList (ops.toList.map (·.dst)) E0 K sch st → unl ops listed ≤ fuel → wpAny X.P .any ops Q fuel listed a w) :
    wpOp X.P ops Q i (wpAny X.P .any ops Q fuel (listed.setIfInBounds i true)) a w := by
  have hlt : i < ops.size := (Array.getElem?_eq_some_iff.1 ho).1
  have hlt' : i < listed.size := by rw [hD.len]; exact hlt
  have lst : ∀ j ∈ prd ops i, j < ops.size → listed.getD j true = true := fun j hj hjlt => by
    rw [getD_tf (by rw [hD.len]; exact hjlt)]; exact hlist j hj
  have hlook : ∀ t ∈ o.looksAt ops, ¬ ∃ q ∈ LV, listed.getD q true = false ∧ dstOf ops q = some t := by
    rintro t ht ⟨q, x1, x2, x3⟩
    have hqlt := hD.ord.lt q x1
    have := hw.look i o t q ho ht hqlt x3 (hD.pend q x1 x2).1
    rw [lst q this hqlt] at x2
    cases x2
  have hex := hD.agr.exec (hw.sel i o · · ho) hlook
  have hwt := hD.agr.wanted hlook
  have hprd : ∀ j ∈ prd ops i, j ∈ LV := fun j hj => by
    have hjl := hlist j hj
    have hjlt : j < ops.size := by
      refine Nat.lt_of_not_le fun hge => ?_
      rw [Array.getD_eq_getD_getElem?, Array.getElem?_eq_none (by rw [hD.len]; exact hge)] at hjl
      cases hjl
    exact hD.sub j hjlt (lst j hj hjlt)
  have hni' : listed.getD i true = false := by
    cases e : listed.getD i true with
    | false => rfl
    | true => exact absurd (hD.sub i hlt e) hni
  -- what comes behind
  have next : ∀ (a' b' : Go.Act) (w' : World) (s : St), Rw X s b' w' → stabs X ops.toList (ops.toList.map (·.dst)) ps s → arunE X ops.toList (ops.toList.map (·.dst)) E0 K r s →
      Agr (fun t => ∃ q ∈ LV, listed.getD q true = false ∧ dstOf ops q = some t) a' b' → wpAny X.P .any ops Q fuel (listed.setIfInBounds i true) a' w' := by
    intro a' b' w' s hR hst hrun hag
    have un' : ∀ q, (listed.setIfInBounds i true).getD q true = false → q ≠ i ∧ listed.getD q true = false := by
      intro q e
      rw [getD_set hlt'] at e
      split at e
      · cases e
      · rename_i hne; exact ⟨hne, e⟩
    have lis' : ∀ k, listed.getD k true = true → (listed.setIfInBounds i true).getD k true = true := by
      intro k e
      rw [getD_set hlt']
      split
      · rfl
      · exact e
    have hord : LVok ops (i :: LV) := ⟨hni, hlt, hprd, hD.ord⟩
    obtain ⟨b2, hR2, hP2, hag2⟩ := reval hw hR (listed := listed.setIfInBounds i true) (i :: LV) hord (fun q hqm e => by
      obtain ⟨hne, eq⟩ := un' q e
      have hqLV : q ∈ LV := (List.mem_cons.1 hqm).resolve_left hne
      obtain ⟨x1, o', d', x2, x3, x4, _⟩ := hD.pend q hqLV eq
      have hqlt := hD.ord.lt q hqLV
      refine ⟨x1, ?_⟩
      have hqp : q ∈ pendL ops LV i := by
        refine List.mem_filter.2 ⟨hqLV, ?_⟩
        simp only [x1, Bool.true_and, Bool.not_eq_true', List.any_eq_false]
        intro l hl hc
        simp only [Bool.and_eq_true, Bool.not_eq_true'] at hc
        obtain ⟨hlq, hlp⟩ := hc
        have hlp := contains_mem.1 hlp
        rcases List.mem_cons.1 hl with rfl | hl
        · rw [lst q hlp hqlt] at eq; cases eq
        · have hll : listed.getD l true = true := by
            cases e' : listed.getD l true with
            | true => rfl
            | false => rw [(hD.pend l hl e').1] at hlq; cases hlq
          have := hD.closed l (hD.ord.lt l hl) hll q hlp
          rw [← getD_tf (by rw [hD.len]; exact hqlt), eq] at this
          cases this
      obtain ⟨o2, y1, y2⟩ := stabs_mem hst q (hps q hqp)
      refine ⟨o2, y1, y2, fun d hd => ?_⟩
      rw [x2] at y1
      obtain rfl := Option.some.inj y1
      rw [x3] at hd
      obtain rfl := Option.some.inj hd
      rw [← hD.rw.size]; exact x4)
    refine ih r (i :: LV) (listed.setIfInBounds i true) s a' b2 w' ⟨hR2, by rw [Array.size_setIfInBounds]; exact hD.len, fun k hk e => ?_, fun k hk e j hj => ?_, fun q hqm e => ?_, ⟨?_, ?_, fun t ht => ?_⟩, hord⟩ hok hrun ?_
    · rw [getD_set hlt'] at e
      split at e
      · rename_i e'; rw [e']; simp
      · exact List.mem_cons_of_mem _ (hD.sub k hk e)
    · have : listed.getD j false = true := by
        rw [getD_set hlt'] at e
        split at e
        · rename_i e'; subst e'; exact hlist j hj
        · exact hD.closed k hk e j hj
      have hjlt : j < listed.size := by
        refine Nat.lt_of_not_le fun hge => ?_
        rw [Array.getD_eq_getD_getElem?, Array.getElem?_eq_none hge] at this
        cases this
      rw [← getD_tf (by rw [Array.size_setIfInBounds]; exact hjlt)]
      exact lis' j (by rw [getD_tf hjlt]; exact this)
    · obtain ⟨hne, e'⟩ := un' q e
      have hqLV : q ∈ LV := (List.mem_cons.1 hqm).resolve_left hne
      exact ⟨(hD.pend q hqLV e').1, hP2 q hqm e⟩
    · rw [hag.defers, hag2.defers]
    · rw [hag.size, hag2.size]
    · rw [hag2.tmps t ht]
      refine hag.tmps t fun ⟨q, x1, x2, x3⟩ => ht ⟨q, List.mem_cons_of_mem _ x1, ?_, x3⟩
      rw [getD_set hlt']
      split
      · rename_i e; exact absurd (e ▸ x1) hni
      · exact x2
    · have := unl_set hD.len hlt hni'
      omega
  -- the operation itself
  have hop := h ops i rfl ho b w (QE X E0) hD.rw (fun v w' st' x h1 h2 => ⟨v, x, st', rfl, h1, h2⟩)
  have agr' : ∀ v, Agr (fun t => ∃ q ∈ LV, listed.getD q true = false ∧ dstOf ops q = some t) (a.put o.dst v) (b.put o.dst v) := fun v => hD.agr.put o.dst v (fun t ht => .inr ht)
  unfold wpOp at hop ⊢
  simp only [ho] at hop ⊢
  rw [hwt]
  split at hop
  · rename_i hwd
    rw [if_pos hwd]
    rcases hop with hop | ⟨_, _, _, _, _, _, hop, _⟩
    · left
      unfold Oper.wp at hop ⊢
      rw [hex]
      refine upon_agrE hD.agr.defers ?_ ?_ hop
      case refine_2 =>
        rintro e w' ⟨v, x, st', rfl, h1, h2⟩
        exact hQ a v w' _ x (h1.slots hD.agr.defers hD.agr.size) h2
      rintro v D w' ⟨s, hR, hst, hrun⟩
      refine next _ _ w' s hR hst hrun ?_
      have : Agr (fun t => ∃ q ∈ LV, listed.getD q true = false ∧ dstOf ops q = some t) { a with defers := D } { b with defers := D } := ⟨rfl, hD.agr.size, hD.agr.tmps⟩
      exact this.put o.dst v (fun t ht => .inr ht)
    · cases hop
  · rename_i hwd
    rw [if_neg hwd]
    obtain ⟨s, hR, hst, hrun⟩ := hop
    exact next _ _ w s hR hst hrun (agr' _)
theorem SemD.of_schE (sch : Sch) (hwf : wfD ops = true) (hok : okD ops sch [] = true) (h : arunE X ops.toList (ops.toList.map (·.dst)) E0 K sch st) : SemD X ops K (fun x _ => E0 x) st := by
  have hw := wfD_spec hwf
  intro a w Q hR hK hQ
  have main : ∀ (fuel : Nat) (sch : Sch) (LV : List Nat) (listed : Array Bool) (st : St) (a b : Go.Act) (w : World), DI X ops LV listed st a b w → okD ops sch LV = true → arunE X ops.toList (ops.toList.map (·.dst)) E0 K sch st → unl ops listed ≤ fuel →
      wpAny X.P .any ops Q fuel listed a w := by
    intro fuel
    induction fuel with
    | zero =>
      intro sch0 LV0 listed st0 a b0 w hD0 hok0 hr0 hun
      obtain ⟨sch, LV, st, b, hnq, hok, hr, hD⟩ := advanceE hw sch0 hok0 hr0 hD0
      have hall : ∀ i, i < ops.size → listed.getD i true = true := by
        intro i hi
        cases e : listed.getD i true with
        | true => rfl
        | false =>
          have := unl_set hD.len hi e
          omega
      refine ⟨?_, finishE hK hD hnq hok hr hall⟩
      apply List.eq_nil_iff_forall_not_mem.2
      intro i hm
      obtain ⟨h1, h2, _⟩ := ready_iff.1 hm
      rw [hall i h2] at h1
      cases h1
    | succ fuel ih =>
      intro sch0 LV0 listed st0 a b0 w hD0 hok0 hr0 hun
      obtain ⟨sch, LV, st, b, hnq, hok, hr, hD⟩ := advanceE hw sch0 hok0 hr0 hD0
      refine ⟨fun hnone => finishE hK hD hnq hok hr ?_, fun i hi => ?_⟩
      · -- nothing is ready: all is done
        have tf : ∀ j, listed.getD j false = true ↔ (j < ops.size ∧ listed.getD j true = true) := by
          intro j
          by_cases hj : j < ops.size
          · rw [getD_tf (by rw [hD.len]; exact hj)]; simp [hj]
          · simp [Array.getD_eq_getD_getElem?, Array.getElem?_eq_none (by rw [hD.len]; omega : listed.size ≤ j), hj]
        have hLV : ∀ q ∈ LV, listed.getD q true = true := by
          intro q hq
          cases e : listed.getD q true with
          | true => rfl
          | false =>
            obtain ⟨q', h1, h2, h3⟩ := deepest LV hD.ord ⟨q, hq, e⟩
            have : q' ∈ Region.ready .any ops listed := ready_iff.2 ⟨h2, hD.ord.lt q' h1, fun j hj => (tf j).2 ⟨hD.ord.lt j (hD.ord.prd q' h1 j hj), h3 j hj⟩⟩
            rw [hnone] at this
            cases this
        have no : ∀ i, i ∉ rdyL ops LV := fun i hm => by
          obtain ⟨h1, h2, h3⟩ := mem_rdyL.1 hm
          have hnl : listed.getD i true = false := by
            cases e : listed.getD i true with
            | false => rfl
            | true => exact absurd (hD.sub i h1 e) h2
          have : i ∈ Region.ready .any ops listed := ready_iff.2 ⟨hnl, h1, fun j hj => (tf j).2 ⟨hD.ord.lt j (h3 j hj), hLV j (h3 j hj)⟩⟩
          rw [hnone] at this
          cases this
        cases sch with
        | done => exact fun i hi => hLV i (okD_done hok i hi)
        | q i r => exact absurd rfl (hnq i r)
        | l i ps r =>
          simp only [okD, Bool.and_eq_true, beq_iff_eq] at hok
          exact absurd (by rw [hok.1.1.1]; simp) (no i)
        | l2 i ps r j qs s =>
          simp only [okD, Bool.and_eq_true, beq_iff_eq] at hok
          exact absurd (by rw [hok.1.1.1.1.1.1]; simp) (no i)
      · obtain ⟨h0, hlt, hlist⟩ := ready_iff.1 hi
        have ho : ops[i]? = some ops[i] := Array.getElem?_eq_getElem hlt
        by_cases hin : i ∈ LV
        · -- a quiet one that is pending
          obtain ⟨hq, o, d, ho', hd, hdlt, hP⟩ := hD.pend i hin h0
          rw [ho] at ho'
          obtain rfl := Option.some.inj ho'
          have hdi : dstOf ops i = some d := by simp [dstOf, ho, hd]
          have hlt' : i < listed.size := by rw [hD.len]; exact hlt
          have hlook : ∀ t ∈ ops[i].looksAt ops, ¬ ∃ q ∈ LV, listed.getD q true = false ∧ dstOf ops q = some t := by
            rintro t ht ⟨q, x1, x2, x3⟩
            have hqlt := hD.ord.lt q x1
            have hqp := hw.look i _ t q ho ht hqlt x3 (hD.pend q x1 x2).1
            have := hlist q hqp
            rw [← getD_tf (by rw [hD.len]; exact hqlt), x2] at this
            cases this
          have hex := hD.agr.exec (hw.sel i _ · · ho) hlook
          have hwt := hD.agr.wanted hlook
          have nx : wpAny X.P .any ops Q fuel (listed.setIfInBounds i true) (a.put (some d) (b.tmps.getD d undef)) w := by
            refine ih sch LV _ st _ b w ⟨hD.rw, by rw [Array.size_setIfInBounds]; exact hD.len, fun k hk e => ?_, fun k hk e j hj => ?_, fun q hqm e => ?_, ⟨hD.agr.defers, by simpa [Go.Act.put] using hD.agr.size, fun t ht => ?_⟩, hD.ord⟩ hok hr ?_
            · rw [getD_set hlt'] at e
              split at e
              · rename_i e'; rw [e']; exact hin
              · exact hD.sub k hk e
            · have hjl : listed.getD j false = true := by
                rw [getD_set hlt'] at e
                split at e
                · rename_i e'; subst e'; exact hlist j hj
                · exact hD.closed k hk e j hj
              have hjlt : j < listed.size := by
                refine Nat.lt_of_not_le fun hge => ?_
                rw [Array.getD_eq_getD_getElem?, Array.getElem?_eq_none hge] at hjl
                cases hjl
              rw [← getD_tf (by rw [Array.size_setIfInBounds]; exact hjlt), getD_set hlt']
              by_cases hji : j = i
              · rw [if_pos hji]
              · rw [if_neg hji]
                exact (getD_tf hjlt).trans hjl
            · rw [getD_set hlt'] at e
              split at e
              · cases e
              · exact hD.pend q hqm e
            · simp only [Go.Act.put]
              by_cases htd : d = t
              · subst htd
                rw [Array.getElem?_setIfInBounds_self_of_lt (by rw [hD.agr.size]; exact hdlt), Array.getElem?_eq_getElem hdlt]
                simp [Array.getD_eq_getD_getElem?, hdlt]
              · rw [Array.getElem?_setIfInBounds_ne htd]
                refine hD.agr.tmps t fun ⟨q, x1, x2, x3⟩ => ht ⟨q, x1, ?_, x3⟩
                rw [getD_set hlt']
                split
                · rename_i e; subst e; rw [hdi] at x3; exact absurd (Option.some.inj x3) htd
                · exact x2
            · have := unl_set hD.len hlt h0
              omega
          unfold wpOp
          simp only [ho]
          rw [hwt, hd]
          rcases hP with ⟨hwd, hrun⟩ | ⟨hwd, hund⟩
          · rw [if_pos hwd]
            left
            unfold Oper.wp
            rw [hex, hrun, Oper.upon_value, hd]
            exact nx
          · rw [if_neg (by rw [hwd]; simp)]
            rw [hund] at nx
            exact nx
        · -- one that is not quiet
          have hprd : ∀ j ∈ prd ops i, j ∈ LV := fun j hj => by
            have hjl := hlist j hj
            have hjlt : j < ops.size := by
              refine Nat.lt_of_not_le fun hge => ?_
              rw [Array.getD_eq_getD_getElem?, Array.getElem?_eq_none (by rw [hD.len]; exact hge)] at hjl
              cases hjl
            exact hD.sub j hjlt (by rw [getD_tf (by rw [hD.len]; exact hjlt)]; exact hjl)
          have hrd : i ∈ rdyL ops LV := mem_rdyL.2 ⟨hlt, hin, hprd⟩
          cases sch with
          | done => exact absurd (okD_done hok i hlt) hin
          | q i r => exact absurd rfl (hnq i r)
          | l i1 ps r =>
            simp only [okD, Bool.and_eq_true, beq_iff_eq, Bool.not_eq_true'] at hok
            obtain ⟨⟨⟨k1, k2⟩, k3⟩, k4⟩ := hok
            rw [k1] at hrd
            obtain rfl := List.mem_singleton.1 hrd
            simp only [arunE, Array.getElem?_toList, ho] at hr
            exact loudE hw ho k2 hD hin hlist (fun q hq => contains_mem.1 (List.all_eq_true.1 k3 q hq)) k4 hr hQ hun ih
          | l2 i1 ps r j1 qs s =>
            simp only [okD, Bool.and_eq_true, beq_iff_eq, Bool.not_eq_true'] at hok
            obtain ⟨⟨⟨⟨⟨⟨k1, k2⟩, k3⟩, k4⟩, k5⟩, k6⟩, k7⟩ := hok
            rw [k1] at hrd
            simp only [arunE, Array.getElem?_toList] at hr
            rcases List.mem_cons.1 hrd with rfl | hrd
            · have hr1 := hr.1
              simp only [ho] at hr1
              exact loudE hw ho k2 hD hin hlist (fun q hq => contains_mem.1 (List.all_eq_true.1 k4 q hq)) k6 hr1 hQ hun ih
            · obtain rfl := List.mem_singleton.1 hrd
              have hr2 := hr.2
              simp only [ho] at hr2
              exact loudE hw ho k3 hD hin hlist (fun q hq => contains_mem.1 (List.all_eq_true.1 k5 q hq)) k7 hr2 hQ hun ih
  refine main ops.size sch [] (Array.replicate ops.size false) st a a w ⟨hR, by simp, ?_, ?_, by simp, ⟨rfl, rfl, fun _ _ => rfl⟩, trivial⟩ hok h ?_
  · intro i hi e
    simp [Array.getD_eq_getD_getElem?, hi] at e
  · intro i hi e
    simp [Array.getD_eq_getD_getElem?, hi] at e
  · unfold unl
    refine Nat.le_trans (List.length_filter_le _ _) ?_
    simp
theorem SemG.monoE {ds : List (Option Nat)} {o : Oper} {K1 K2 : St → Prop} {E1 E2 : AV → St → Prop} (h : SemG X ds o K1 E1 st) (hK : ∀ s, K1 s → K2 s) (hE : ∀ x s, E1 x s → E2 x s) : SemG X ds o K2 E2 st :=
  fun ops i h1 h2 a w Q hR hQ => wpOp_mono (fun a' w' he => by obtain ⟨s, h3, h4⟩ := he; exact ⟨s, h3, hK s h4⟩) (h ops i h1 h2 a w Q hR fun v w' st' x h5 h6 => hQ v w' st' x h5 (hE x st' h6))
theorem QG.mono {ds : List (Option Nat)} {o : Oper} {K1 K2 : St → Prop} (h : QG X ds o K1 st) (hK : ∀ s, K1 s → K2 s) : QG X ds o K2 st := by
  have q : ∀ {s}, QOp X o K1 s → QOp X o K2 s := fun ⟨d, z, a, b, c, e⟩ => ⟨d, z, a, b, c, hK _ e⟩
  rcases h with ⟨h1, h2⟩ | ⟨j, want, d, t, a, b, c, e, f⟩ | ⟨j, want, d, a, b, c, e, f⟩
  · exact .inl ⟨h1, q h2⟩
  · exact .inr (.inl ⟨j, want, d, t, a, b, c, fun x => q (e x), fun x => ⟨(f x).1, hK _ (f x).2⟩⟩)
  · exact .inr (.inr ⟨j, want, d, a, b, c, e, hK _ f⟩)
theorem arunE_of {l : List Oper} {ds : List (Option Nat)} : ∀ {sch : Sch} {st : St}, arun X l ds K sch st → arunE X l ds E0 K sch st := by
  intro sch
  induction sch with
  | done => exact fun h => h
  | q i r ih =>
    intro st h
    unfold arun at h
    unfold arunE
    cases ho : l[i]? with
    | none => rw [ho] at h; exact h.elim
    | some o => rw [ho] at h; exact QG.mono h fun s hs => ih hs
  | l i ps r ih =>
    intro st h
    unfold arun at h
    unfold arunE
    cases ho : l[i]? with
    | none => rw [ho] at h; exact h.elim
    | some o => rw [ho] at h; exact SemG.monoE h (fun s hs => ⟨hs.1, ih hs.2⟩) fun _ _ h => h.elim
  | l2 i ps r j qs s ih1 ih2 =>
    intro st h
    unfold arun at h
    unfold arunE
    refine ⟨?_, ?_⟩
    · have h := h.1
      cases ho : l[i]? with
      | none => rw [ho] at h; exact h.elim
      | some o => rw [ho] at h; exact SemG.monoE h (fun s hs => ⟨hs.1, ih1 hs.2⟩) fun _ _ h => h.elim
    · have h := h.2
      cases ho : l[j]? with
      | none => rw [ho] at h; exact h.elim
      | some o => rw [ho] at h; exact SemG.monoE h (fun s hs => ⟨hs.1, ih2 hs.2⟩) fun _ _ h => h.elim
theorem w_schE {id : Nat} {l : List Oper} {Q : Ex → St → Prop} (E0 : AV → Prop) (hE : ∀ x s, E0 x → Q (.pan x) s) (sch : Sch) (hm : X.P.follows .mixedOrders = true) (hwf : wfD l.toArray = true) (hok : okD l.toArray sch [] = true)
    (h : ∀ K : St → Prop, (∀ s, Q .normal s → K s) → arunE X l (l.map (·.dst)) E0 K sch st) : SemCode X (.region id l.toArray true) Q st :=
  w_draw hm fun K hK a w Q' hR hK' hE' => SemD.of_schE sch hwf hok (h K hK) a w Q' hR hK' fun a' v w' st' x h1 h2 => hE' a' v w' st' x h1 (hE x st' h2)
section
variable {l : List Oper} {ds : List (Option Nat)} {i d : Nat} {r : Sch} {op : Op} {ty : TypeId} {pos : String} {aft : Array Edge} {z : AV} {ps : List Nat}
theorem ae_q (ho : l[i]? = some ⟨some d, op, ty, pos, aft, none⟩ := by rfl) (hd : d < X.n := by first | (simp; done) | fail) (hz : qev X.P st ⟨some d, op, ty, pos, aft, none⟩ = some z := by simp [fx]; first | done | rfl | exact (Bool.not_not _).symm) (h : arunE X l ds E0 K r (st.put (some d) z)) : arunE X l ds E0 K (.q i r) st := by
  unfold arunE
  rw [ho]
  exact .inl ⟨rfl, d, z, rfl, hd, hz, h⟩
theorem ae_l (ho : l[i]? = some ⟨some d, op, ty, pos, aft, none⟩ := by rfl) (h : SemOp X ⟨some d, op, ty, pos, aft, none⟩ (fun s => stabs X l ds ps s ∧ arunE X l ds E0 K r s) (fun x _ => E0 x) st) : arunE X l ds E0 K (.l i ps r) st := by
  unfold arunE
  rw [ho]
  exact g_none rfl h
end
end
end Go.Hm
end
