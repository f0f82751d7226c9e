/-
  Own texts, joined by mkclaim.py: Hm71, Hm72.
-/
import Derived.Test.YtmaoicgfcngciaaGreatDoorR12
set_option linter.unusedSimpArgs false
set_option linter.unusedVariables false
set_option maxRecDepth 100000
set_option maxHeartbeats 4000000

section
namespace Go.Hm
open Go Go.RowKit
structure VOk (nf nc : Nat) (v : Val) : Prop where
  num : 0 ≤ v.2 ∧ v.2 ≤ 1000
  fn : v.1 = 2 → v.2 < nf
  cls : v.1 = 3 → v.2 < nc
theorem VOk.zero {nf nc : Nat} : VOk nf nc (0, 0) := ⟨by simp, by simp, by simp⟩
theorem VOk.mono {nf nc nf' nc' : Nat} {v : Val} (h : VOk nf nc v) (h1 : nf ≤ nf') (h2 : nc ≤ nc') : VOk nf' nc' v :=
  ⟨h.num, fun e => by have := h.fn e; omega, fun e => by have := h.cls e; omega⟩
def SOk (nf nc : Nat) (l : List Slt) : Prop := l.length = 8 ∧ ∀ v, some v ∈ l → VOk nf nc v
theorem SOk.mono {nf nc nf' nc' : Nat} {l : List Slt} (h : SOk nf nc l) (h1 : nf ≤ nf') (h2 : nc ≤ nc') : SOk nf' nc' l := ⟨h.1, fun v hv => (h.2 v hv).mono h1 h2⟩
theorem SOk.none {nf nc : Nat} : SOk nf nc noSlots := ⟨by simp, fun v hv => by simp at hv⟩
theorem SOk.set {nf nc : Nat} {l : List Slt} (h : SOk nf nc l) {i : Nat} {s : Slt} (hs : ∀ v, s = some v → VOk nf nc v) : SOk nf nc (l.set i s) := by
  refine ⟨by simp [h.1], fun v hv => ?_⟩
  rcases List.mem_or_eq_of_mem_set hv with e | e
  · exact h.2 v e
  · exact hs v e.symm
theorem SOk.get {nf nc : Nat} {l : List Slt} (h : SOk nf nc l) {i : Nat} {v : Val} (hv : l[i]? = some (some v)) : VOk nf nc v := h.2 v (List.mem_of_getElem? hv)
def madeAt (p : Prg) (acts : List Act) (b i : Nat) : Prop := ∃ c k, acts[i]? = some c ∧ p[b]? = some k ∧ k.parent = c.blk ∧ 0 < b
structure WOk (p : Prg) (w : Wld) : Prop where
  a0 : ∃ a, w.acts[0]? = some a ∧ a.blk = 0
  vars : ∀ (i : Nat) a, w.acts[i]? = some a → SOk w.funs.length w.classes.length a.vars
  blks : ∀ (i : Nat) a, w.acts[i]? = some a → a.blk < p.length
  up : ∀ (i : Nat) a, w.acts[i]? = some a → 0 < i → a.up < i ∧ madeAt p w.acts a.blk a.up
  glob : SOk w.funs.length w.classes.length w.globals
  funs : ∀ (i : Nat) g, w.funs[i]? = some g → madeAt p w.acts g.1 g.2
  cls : ∀ c ∈ w.classes, SOk w.funs.length w.classes.length c
  stk : ∀ i ∈ w.stack, i < w.acts.length
  nacts : w.acts.length + 2 * w.left ≤ 1000
  nfuns : w.funs.length + 2 * w.left ≤ 1000
  ncls : w.classes.length + 2 * w.left ≤ 1000
  nout : w.out.length + 2 * w.left ≤ 1000
  ntr : w.trace.length + w.left ≤ 1000
  nstk : w.stack.length + 2 * w.left ≤ 1000
  outr : ∀ v ∈ w.out, -3 ≤ v ∧ v ≤ 1000
  enr : 0 ≤ w.en ∧ w.en ≤ 7
theorem WOk.en {p : Prg} {w : Wld} (h : WOk p w) {e : Int} (he : 0 ≤ e ∧ e ≤ 7) : WOk p { w with en := e } := ⟨h.a0, h.vars, h.blks, h.up, h.glob, h.funs, h.cls, h.stk, h.nacts, h.nfuns, h.ncls, h.nout, h.ntr, h.nstk, h.outr, he⟩
structure Grow (s : Nat) (w w' : Wld) : Prop where
  acts : ∀ (i : Nat) a, w.acts[i]? = some a → ∃ b, w'.acts[i]? = some b ∧ b.blk = a.blk ∧ b.up = a.up
  funs : w.funs <+: w'.funs
  cls : w.classes <+: w'.classes
  out : w.out <+: w'.out
  tr : w.trace <+: w'.trace
  left : w'.left ≤ w.left
  nacts : w'.acts.length + 2 * w'.left ≤ w.acts.length + 2 * w.left + s
  nfuns : w'.funs.length + 2 * w'.left ≤ w.funs.length + 2 * w.left + s
  ncls : w'.classes.length + 2 * w'.left ≤ w.classes.length + 2 * w.left + s
  nout : w'.out.length + 2 * w'.left ≤ w.out.length + 2 * w.left + s
  ntr : w'.trace.length + w'.left = w.trace.length + w.left
theorem Grow.refl (s : Nat) (w : Wld) : Grow s w w := ⟨fun _ a h => ⟨a, h, rfl, rfl⟩, List.prefix_refl _, List.prefix_refl _, List.prefix_refl _, List.prefix_refl _, Nat.le_refl _, by omega, by omega, by omega, by omega, rfl⟩
theorem Grow.trans {s t u : Nat} {w w' w'' : Wld} (h : Grow s w w') (h' : Grow t w' w'') (hu : s + t ≤ u) : Grow u w w'' := by
  refine ⟨fun i a e => ?_, h.funs.trans h'.funs, h.cls.trans h'.cls, h.out.trans h'.out, h.tr.trans h'.tr, Nat.le_trans h'.left h.left, ?_, ?_, ?_, ?_, h'.ntr.trans h.ntr⟩
  · obtain ⟨b, e1, e2, e3⟩ := h.acts i a e
    obtain ⟨c, f1, f2, f3⟩ := h'.acts i b e1
    exact ⟨c, f1, f2.trans e2, f3.trans e3⟩
  · have := h.nacts; have := h'.nacts; omega
  · have := h.nfuns; have := h'.nfuns; omega
  · have := h.ncls; have := h'.ncls; omega
  · have := h.nout; have := h'.nout; omega
theorem Grow.mono {s t : Nat} {w w' : Wld} (h : Grow s w w') (ht : s ≤ t) : Grow t w w' := h.trans (Grow.refl 0 w') (by omega)
theorem Grow.lacts {s : Nat} {w w' : Wld} (h : Grow s w w') : w.acts.length ≤ w'.acts.length := by
  cases hn : w.acts.length with
  | zero => omega
  | succ n =>
    obtain ⟨a, ha⟩ : ∃ a, w.acts[n]? = some a := ⟨_, gE (by omega)⟩
    obtain ⟨b, hb, _⟩ := h.acts n a ha
    have := (gS hb).1
    omega
theorem Grow.lfuns {s : Nat} {w w' : Wld} (h : Grow s w w') : w.funs.length ≤ w'.funs.length := h.funs.length_le
theorem Grow.lcls {s : Nat} {w w' : Wld} (h : Grow s w w') : w.classes.length ≤ w'.classes.length := h.cls.length_le
theorem Grow.en {s : Nat} {w w' : Wld} (h : Grow s w w') {e : Int} : Grow s w { w' with en := e } := ⟨h.acts, h.funs, h.cls, h.out, h.tr, h.left, h.nacts, h.nfuns, h.ncls, h.nout, h.ntr⟩
theorem Grow.blk {s : Nat} {w w' : Wld} (h : Grow s w w') {i : Nat} {a : Act} (hi : w.acts[i]? = some a) : w'.blk i = w.blk i := by
  obtain ⟨b, hb, e, _⟩ := h.acts i a hi
  simp only [Wld.blk, hi, hb, e]
theorem madeAt.grow {p : Prg} {s b i : Nat} {w w' : Wld} (h : madeAt p w.acts b i) (hg : Grow s w w') : madeAt p w'.acts b i := by
  obtain ⟨c, k, h1, h2, h3, h4⟩ := h
  obtain ⟨d, e1, e2, _⟩ := hg.acts i c h1
  exact ⟨d, k, e1, h2, by rw [e2]; exact h3, h4⟩
theorem blk_at {w : Wld} {i : Nat} {a : Act} (h : w.acts[i]? = some a) : w.blk i = a.blk := by simp only [Wld.blk, h]
theorem inside_up {p : Prg} {w : Wld} {o a : Nat} {c : Act} (hh : Heads p) (h : WOk p w) (hc : w.acts[a]? = some c) (hne : c.blk ≠ o) (ho : 0 < o) (hi : inside p (w.blk a) o = true) : 0 < a ∧ c.up < a ∧ inside p (w.blk c.up) o = true := by
  rw [blk_at hc] at hi
  have h0 : 0 < a := by
    cases a with
    | zero =>
      obtain ⟨a0, ha, hb⟩ := h.a0
      rw [ha] at hc
      obtain rfl := Option.some.inj hc
      rw [hb, inside_end (by omega)] at hi
      simp at hi
      omega
    | succ a => omega
  obtain ⟨hu, q, k, e1, e2, e3, e4⟩ := h.up _ c hc h0
  refine ⟨h0, hu, ?_⟩
  have hlt : o < c.blk := by
    rcases Nat.lt_or_ge o c.blk with e | e
    · exact e
    · rw [inside_end (by omega)] at hi
      simp at hi
      omega
  rw [blk_at e1, ← e3, ← inside_step hh (by omega) e2 (by omega)]
  exact hi
theorem climb_fuel {p : Prg} {w : Wld} {o : Nat} (hh : Heads p) (h : WOk p w) (ho : 0 < o) : ∀ (n m a : Nat), a ≤ n → a ≤ m → a < w.acts.length → inside p (w.blk a) o = true → climb w.acts o n a = climb w.acts o m a
  | 0, 0, _, _, _, _, _ => rfl
  | 0, m + 1, a, h1, _, hl, hi => by
    obtain rfl : a = 0 := by omega
    obtain ⟨c, hc⟩ : ∃ c, w.acts[0]? = some c := ⟨_, gE hl⟩
    by_cases e : c.blk = o
    · simp [climb, hc, e]
    · have := (inside_up hh h hc e ho hi).1
      omega
  | n + 1, 0, a, _, h2, hl, hi => by
    obtain rfl : a = 0 := by omega
    obtain ⟨c, hc⟩ : ∃ c, w.acts[0]? = some c := ⟨_, gE hl⟩
    by_cases e : c.blk = o
    · simp [climb, hc, e]
    · have := (inside_up hh h hc e ho hi).1
      omega
  | n + 1, m + 1, a, h1, h2, hl, hi => by
    obtain ⟨c, hc⟩ : ∃ c, w.acts[a]? = some c := ⟨_, gE hl⟩
    by_cases e : c.blk = o
    · simp [climb, hc, e]
    · obtain ⟨e1, e2, e3⟩ := inside_up hh h hc e ho hi
      simp only [climb, hc, e, if_false]
      exact climb_fuel hh h ho n m c.up (by omega) (by omega) (by omega) e3
theorem climb_here {acts : List Act} {o a : Nat} {c : Act} (hc : acts[a]? = some c) (e : c.blk = o) : ∀ n, climb acts o n a = a
  | 0 => rfl
  | n + 1 => by simp [climb, hc, e]
theorem climb_up {p : Prg} {w : Wld} {o a : Nat} {c : Act} (hh : Heads p) (h : WOk p w) (ho : 0 < o) (hc : w.acts[a]? = some c) (hne : c.blk ≠ o) (hi : inside p (w.blk a) o = true) : climb w.acts o a a = climb w.acts o c.up c.up := by
  obtain ⟨e1, e2, e3⟩ := inside_up hh h hc hne ho hi
  have hl := (gS hc).1
  obtain ⟨b, rfl⟩ : ∃ b, a = b + 1 := ⟨a - 1, by omega⟩
  simp only [climb, hc, hne, if_false]
  exact climb_fuel hh h ho b c.up c.up (by omega) (by omega) (by omega) e3
theorem climb_at {p : Prg} {w : Wld} {o : Nat} (hh : Heads p) (h : WOk p w) (ho : 0 < o) : ∀ (n a : Nat), a ≤ n → a < w.acts.length → inside p (w.blk a) o = true → ∃ c, w.acts[climb w.acts o a a]? = some c ∧ c.blk = o
  | n, a, h1, hl, hi => by
    obtain ⟨c, hc⟩ : ∃ c, w.acts[a]? = some c := ⟨_, gE hl⟩
    by_cases e : c.blk = o
    · exact ⟨c, by rw [climb_here hc e]; exact hc, e⟩
    · obtain ⟨e1, e2, e3⟩ := inside_up hh h hc e ho hi
      rw [climb_up hh h ho hc e hi]
      match n with
      | 0 => omega
      | n + 1 => exact climb_at hh h ho n c.up (by omega) (by omega) e3
theorem outerF_inside {p : Prg} {x : Int} {o : Nat} (hh : Heads p) (ho : 0 < o) : ∀ (n : Nat) (j : Int), outerF p x n j = o → inside p j o = true
  | 0, j, h => by simp only [outerF] at h; omega
  | n + 1, j, h => by
    have hle := outerF_le (p := p) (x := x) hh (n + 1) j
    rw [h] at hle
    by_cases e : j = o
    · rw [inside_end (by omega)]
      simpa using e
    simp only [outerF] at h
    split at h
    · omega
    · rename_i hj
      split at h
      · omega
      · rename_i q hq
        have hs := inside_step (b := o) hh (by omega) hq (by omega)
        rw [show ((j.toNat : Nat) : Int) = j from by omega] at hs
        rw [hs]
        split at h
        · exact outerF_inside hh ho n _ h
        · split at h
          · omega
          · split at h
            · exact absurd h e
            · exact outerF_inside hh ho n _ h
theorem owner_inside {p : Prg} {b o : Nat} {x : Int} (hh : Heads p) (ho : 0 < o) (h : owner p b x = o) : inside p b o = true := by
  by_cases e : b = o
  · rw [inside_end (by omega)]
    simp [e]
  unfold owner at h
  cases hk : p[b]? with
  | none => rw [hk] at h; simp at h
  | some k =>
    rw [hk] at h
    simp only at h
    split at h
    · omega
    · split at h
      · omega
      · simp only [outer, hk] at h
        have hle := outerF_le (p := p) (x := x) hh b k.parent
        have hb := (hh b k hk).2.1
        rw [inside_step hh (by omega) hk (by omega)]
        exact outerF_inside hh ho _ _ h
theorem loc_spec {p : Prg} {w : Wld} {a : Nat} {x : Int} (hh : Heads p) (h : WOk p w) (ha : a < w.acts.length) :
    (owner p (w.blk a) x = -1 ∧ w.loc p a x = none) ∨ ∃ (o i : Nat) (c : Act), 0 < o ∧ owner p (w.blk a) x = o ∧ w.loc p a x = some i ∧ i = climb w.acts o a a ∧ w.acts[i]? = some c ∧ c.blk = o ∧ inside p (w.blk a) o = true := by
  rcases owner_pos (p := p) (c := w.blk a) (x := x) with e | e
  · exact .inl ⟨e, by simp [Wld.loc, e]⟩
  · obtain ⟨o, ho⟩ : ∃ o : Nat, owner p (w.blk a) x = o := ⟨(owner p (w.blk a) x).toNat, by omega⟩
    have ho0 : 0 < o := by omega
    have hi := owner_inside hh ho0 ho
    obtain ⟨c, hc, hb⟩ := climb_at hh h ho0 a a (Nat.le_refl _) ha hi
    refine .inr ⟨o, _, c, ho0, ho, ?_, rfl, hc, hb, hi⟩
    have : ¬ (o : Int) < 0 := by omega
    simp [Wld.loc, ho, this]
theorem loc_lt {p : Prg} {w : Wld} {a : Nat} {x : Int} (hh : Heads p) (h : WOk p w) (ha : a < w.acts.length) : ∀ i, w.loc p a x = some i → i < w.acts.length := by
  intro i hi
  rcases loc_spec (x := x) hh h ha with ⟨_, h2⟩ | ⟨o, j, c, _, _, h3, _, h4, _⟩
  · rw [h2] at hi; cases hi
  · rw [h3] at hi
    obtain rfl := Option.some.inj hi
    exact (gS h4).1
theorem WOk.vars_of {p : Prg} {w : Wld} (h : WOk p w) {l : Option Nat} (hl : ∀ i, l = some i → i < w.acts.length) : SOk w.funs.length w.classes.length (w.vars l) := by
  cases l with
  | none => exact h.glob
  | some i =>
    obtain ⟨c, hc⟩ : ∃ c, w.acts[i]? = some c := ⟨_, gE (hl i rfl)⟩
    simp only [Wld.vars, hc]
    exact h.vars i c hc
theorem get_eq {w : Wld} {l : Option Nat} {x : Int} {v : Val} (h : w.get l x = some v) : (w.vars l)[x.toNat]? = some (some v) := by
  unfold Wld.get at h
  split at h
  · rename_i s hs
    rw [hs, h]
  · cases h
theorem WOk.get {p : Prg} {w : Wld} (h : WOk p w) {l : Option Nat} {x : Int} {v : Val} (hv : w.get l x = some v) : VOk w.funs.length w.classes.length v := by
  have hv := get_eq hv
  cases l with
  | none => exact h.glob.get hv
  | some i =>
    simp only [Wld.vars] at hv
    split at hv
    · rename_i c hc
      exact (h.vars i c hc).get hv
    · simp at hv
theorem set_acts {w : Wld} {l : Option Nat} {x : Int} {s : Slt} {i : Nat} {a : Act} (h : (w.set l x s).acts[i]? = some a) : ∃ b, w.acts[i]? = some b ∧ b.blk = a.blk ∧ b.up = a.up ∧ (a.vars = b.vars ∨ a.vars = b.vars.set x.toNat s) := by
  cases l with
  | none => exact ⟨a, h, rfl, rfl, .inl rfl⟩
  | some j =>
    simp only [Wld.set, List.getElem?_modify] at h
    obtain ⟨b, hb, e⟩ := Option.map_eq_some_iff.1 h
    refine ⟨b, hb, ?_⟩
    split at e
    · subst e; exact ⟨rfl, rfl, .inr rfl⟩
    · subst e; exact ⟨rfl, rfl, .inl rfl⟩
theorem acts_set {w : Wld} {l : Option Nat} {x : Int} {s : Slt} {i : Nat} {a : Act} (h : w.acts[i]? = some a) : ∃ b, (w.set l x s).acts[i]? = some b ∧ b.blk = a.blk ∧ b.up = a.up := by
  cases l with
  | none => exact ⟨a, h, rfl, rfl⟩
  | some j =>
    simp only [Wld.set, List.getElem?_modify, h, Option.map_some]
    split <;> exact ⟨_, rfl, rfl, rfl⟩
theorem set_len {w : Wld} {l : Option Nat} {x : Int} {s : Slt} : (w.set l x s).acts.length = w.acts.length := by
  cases l <;> simp [Wld.set]
theorem set_same {w : Wld} {l : Option Nat} {x : Int} {s : Slt} : (w.set l x s).funs = w.funs ∧ (w.set l x s).classes = w.classes ∧ (w.set l x s).out = w.out ∧ (w.set l x s).trace = w.trace ∧ (w.set l x s).left = w.left ∧ (w.set l x s).stack = w.stack ∧ (w.set l x s).en = w.en := by
  cases l <;> exact ⟨rfl, rfl, rfl, rfl, rfl, rfl, rfl⟩
theorem set_grow {w : Wld} {l : Option Nat} {x : Int} {s : Slt} : Grow 0 w (w.set l x s) := by
  obtain ⟨e1, e2, e3, e4, e5, e6, _⟩ := set_same (w := w) (l := l) (x := x) (s := s)
  refine ⟨fun i a h => acts_set h, by rw [e1]; exact List.prefix_refl _, by rw [e2]; exact List.prefix_refl _, by rw [e3]; exact List.prefix_refl _, by rw [e4]; exact List.prefix_refl _, by rw [e5]; exact Nat.le_refl _, by rw [e5, set_len]; omega, by rw [e5, e1]; omega, by rw [e5, e2]; omega, by rw [e5, e3]; omega, by rw [e5, e4]⟩
theorem WOk.set {p : Prg} {w : Wld} (h : WOk p w) {l : Option Nat} {x : Int} {s : Slt} (hs : ∀ v, s = some v → VOk w.funs.length w.classes.length v) : WOk p (w.set l x s) := by
  obtain ⟨e1, e2, e3, e4, e5, e6, e7⟩ := set_same (w := w) (l := l) (x := x) (s := s)
  have hg : Grow 0 w (w.set l x s) := set_grow
  refine ⟨?_, fun i a ha => ?_, fun i a ha => ?_, fun i a ha hi => ?_, ?_, fun i g hi => ?_, fun c hc => ?_, fun i hi => ?_, by rw [set_len, e5]; exact h.nacts, by rw [e1, e5]; exact h.nfuns, by rw [e2, e5]; exact h.ncls, by rw [e3, e5]; exact h.nout, by rw [e4, e5]; exact h.ntr, by rw [e6, e5]; exact h.nstk, by rw [e3]; exact h.outr, by rw [e7]; exact h.enr⟩
  · obtain ⟨a, ha, hb⟩ := h.a0
    obtain ⟨b, f1, f2, _⟩ := acts_set (l := l) (x := x) (s := s) ha
    exact ⟨b, f1, f2.trans hb⟩
  · obtain ⟨b, f1, f2, f3, f4⟩ := set_acts ha
    rw [e1, e2]
    rcases f4 with f4 | f4
    · rw [f4]; exact h.vars i b f1
    · rw [f4]; exact (h.vars i b f1).set hs
  · obtain ⟨b, f1, f2, f3, f4⟩ := set_acts ha
    rw [← f2]; exact h.blks i b f1
  · obtain ⟨b, f1, f2, f3, f4⟩ := set_acts ha
    obtain ⟨g1, g2⟩ := h.up i b f1 hi
    rw [← f3, ← f2]
    exact ⟨g1, g2.grow hg⟩
  · rw [e1, e2]
    cases l with
    | none => exact h.glob.set hs
    | some j => exact h.glob
  · rw [e1] at hi
    exact (h.funs i g hi).grow hg
  · rw [e2] at hc
    rw [e1, e2]
    exact h.cls c hc
  · rw [e6] at hi
    rw [set_len]
    exact h.stk i hi
structure Aft (p : Prg) (s : Nat) (w w' : Wld) : Prop where
  ok : WOk p w'
  grow : Grow s w w'
  stk : w'.en = 0 → w'.stack = w.stack
theorem Aft.refl {p : Prg} {s : Nat} {w : Wld} (h : WOk p w) : Aft p s w w := ⟨h, .refl s w, fun _ => rfl⟩
theorem Aft.en {p : Prg} {s : Nat} {w w' : Wld} (h : Aft p s w w') {e : Int} (he : e ≠ 0) (hr : 0 ≤ e ∧ e ≤ 7 := by decide) : Aft p s w { w' with en := e } := ⟨h.ok.en hr, h.grow.en, fun h => absurd h he⟩
theorem Aft.trans {p : Prg} {s t u : Nat} {w w' w'' : Wld} (h : Aft p s w w') (h' : Aft p t w' w'') (h0 : w''.en = 0 → w'.en = 0) (hu : s + t ≤ u) : Aft p u w w'' := ⟨h'.ok, h.grow.trans h'.grow hu, fun e => (h'.stk e).trans (h.stk (h0 e))⟩
theorem Aft.mono {p : Prg} {s t : Nat} {w w' : Wld} (h : Aft p s w w') (hst : s ≤ t) : Aft p t w w' := ⟨h.ok, h.grow.mono hst, h.stk⟩
theorem lack_ne {p : Prg} {b : Nat} {o : Int} : lack p b o ≠ 0 := by unfold lack; (repeat' split) <;> decide
theorem lack_r07 {p : Prg} {b : Nat} {o : Int} : 0 ≤ lack p b o ∧ lack p b o ≤ 7 := by unfold lack; (repeat' split) <;> decide
theorem loadW_ok {p : Prg} {w : Wld} {a : Nat} {x : Int} (h : WOk p w) : Aft p 0 w (loadW p w a x).1 ∧ VOk w.funs.length w.classes.length (loadW p w a x).2 ∧ ((loadW p w a x).1 = w ∨ ∃ e, e ≠ 0 ∧ (loadW p w a x).1 = { w with en := e }) := by
  unfold loadW
  split
  · rename_i v hv
    exact ⟨.refl h, h.get hv, .inl rfl⟩
  · split
    · split
      · rename_i v hv
        exact ⟨.refl h, h.get hv, .inl rfl⟩
      · split
        · exact ⟨.refl h, ⟨by simp, by simp, by simp⟩, .inl rfl⟩
        · exact ⟨(Aft.refl h).en (by decide), .zero, .inr ⟨_, by decide, rfl⟩⟩
    · exact ⟨(Aft.refl h).en lack_ne lack_r07, .zero, .inr ⟨_, lack_ne, rfl⟩⟩
theorem loadsW_ok {p : Prg} {a : Nat} : ∀ {l : List Int} {w : Wld}, WOk p w → Aft p 0 w (loadsW p w a l).1 ∧ (∀ v ∈ (loadsW p w a l).2, VOk w.funs.length w.classes.length v) ∧ ((loadsW p w a l).1 = w ∨ ∃ e, e ≠ 0 ∧ (loadsW p w a l).1 = { w with en := e }) ∧ ((loadsW p w a l).1.en = 0 → (loadsW p w a l).2.length = l.length) ∧ (loadsW p w a l).2.length ≤ l.length
  | [], w, h => ⟨.refl h, fun v hv => by simp [loadsW] at hv, .inl rfl, fun _ => rfl, Nat.le_refl _⟩
  | x :: l, w, h => by
    simp only [loadsW]
    split
    · rename_i he
      exact ⟨.refl h, fun v hv => by simp at hv, .inl rfl, fun e => absurd e he, by simp⟩
    · rename_i he
      obtain ⟨h1, h2, h3⟩ := loadW_ok (a := a) (x := x) h
      rcases h3 with h3 | ⟨e, he, h3⟩
      · rw [h3]
        obtain ⟨i1, i2, i3, i4, i5⟩ := loadsW_ok (a := a) (l := l) h
        refine ⟨i1, fun v hv => ?_, i3, fun e => by simp [i4 e], by simp [i5]⟩
        rcases List.mem_cons.1 hv with e | e
        · subst e; exact h2
        · exact i2 v e
      · rw [h3]
        have hen : loadsW p { w with en := e } a l = ({ w with en := e }, []) := by
          cases l with
          | nil => rfl
          | cons y l => simp [loadsW, he]
        rw [hen]
        refine ⟨(Aft.refl h).en he (by have := h1.ok.enr; rw [h3] at this; exact this), fun v hv => ?_, .inr ⟨e, he, rfl⟩, fun e' => absurd e' he, by simp⟩
        simp at hv
        subst hv
        exact h2
theorem storeW_ok {p : Prg} {w : Wld} {a : Nat} {x : Int} {v : Val} (h : WOk p w) (hv : VOk w.funs.length w.classes.length v) : Aft p 0 w (storeW p w a x v) :=
  ⟨h.set fun u e => by obtain rfl := Option.some.inj e; exact hv, set_grow, fun _ => set_same.2.2.2.2.2.1⟩
theorem takeW_ok {p : Prg} {w : Wld} {a : Nat} {x : Int} (h : WOk p w) : Aft p 0 w (takeW p w a x) := by
  unfold takeW
  split
  · exact ⟨h.set fun u e => (by cases e), set_grow, fun _ => set_same.2.2.2.2.2.1⟩
  · exact (Aft.refl h).en lack_ne lack_r07
theorem plusW_ok {p : Prg} {w : Wld} {a b : Val} (h : WOk p w) (ha : VOk w.funs.length w.classes.length a) (hb : VOk w.funs.length w.classes.length b) : Aft p 0 w (plusW w a b).1 ∧ VOk (plusW w a b).1.funs.length (plusW w a b).1.classes.length (plusW w a b).2 := by
  unfold plusW
  split
  · exact ⟨(Aft.refl h).en (by decide), .zero⟩
  · refine ⟨.refl h, ⟨?_, by simp, by simp⟩⟩
    have := ha.num
    have := hb.num
    simp only
    rw [Int.tmod_eq_emod_of_nonneg (by omega)]
    omega
theorem attrW_ok {p : Prg} {w : Wld} {v : Val} {x : Int} (h : WOk p w) : Aft p 0 w (attrW w v x).1 ∧ VOk (attrW w v x).1.funs.length (attrW w v x).1.classes.length (attrW w v x).2 := by
  unfold attrW
  split
  · exact ⟨(Aft.refl h).en (by decide), .zero⟩
  · split
    · rename_i c hc
      split
      · rename_i u hu
        exact ⟨.refl h, (h.cls c (List.mem_of_getElem? hc)).get hu⟩
      · exact ⟨(Aft.refl h).en (by decide), .zero⟩
    · exact ⟨(Aft.refl h).en (by decide), .zero⟩
structure Room (k : Nat) (w : Wld) : Prop where
  acts : w.acts.length + k + 2 * w.left ≤ 1000
  funs : w.funs.length + k + 2 * w.left ≤ 1000
  cls : w.classes.length + k + 2 * w.left ≤ 1000
  out : w.out.length + k + 2 * w.left ≤ 1000
  stk : w.stack.length + k + 2 * w.left ≤ 1000
theorem Room.mono {k k' : Nat} {w : Wld} (h : Room k w) (hk : k' ≤ k) : Room k' w := by
  obtain ⟨h1, h2, h3, h4, h5⟩ := h
  exact ⟨by omega, by omega, by omega, by omega, by omega⟩
theorem Aft.room {p : Prg} {s k k' : Nat} {w w' : Wld} (h : Aft p s w w') (hr : Room k w) (h0 : w'.en = 0) (hk : k' + s ≤ k) : Room k' w' := by
  obtain ⟨h1, h2, h3, h4, h5⟩ := hr
  have g := h.grow
  have e := h.stk h0
  have := g.left
  exact ⟨by have := g.nacts; omega, by have := g.nfuns; omega, by have := g.ncls; omega, by have := g.nout; omega, by rw [e]; omega⟩
def RunOk (p : Prg) (n : Nat) (R : Wld → Nat → Wld × Val) : Prop := ∀ (w : Wld) (a : Nat), WOk p w → w.left < n → a < w.acts.length → w.en = 0 → Aft p 0 w (R w a).1 ∧ VOk (R w a).1.funs.length (R w a).1.classes.length (R w a).2
theorem bindP_ok {nf nc : Nat} {ps : List Int} {vs : List Val} (h : ∀ v ∈ vs, VOk nf nc v) : SOk nf nc (bindP ps vs) := by
  unfold bindP
  have key : ∀ (l : List (Int × Val)) (s : List Slt), (∀ q ∈ l, VOk nf nc q.2) → SOk nf nc s → SOk nf nc (l.foldl (fun l q => l.set q.1.toNat (some q.2)) s) := by
    intro l
    induction l with
    | nil => exact fun s _ h => h
    | cons q l ih => exact fun s hl hs => ih _ (fun q' h' => hl q' (List.mem_cons_of_mem _ h')) (hs.set fun v e => by obtain rfl := Option.some.inj e; exact hl q List.mem_cons_self)
  exact key _ _ (fun q hq => h q.2 (List.of_mem_zip hq).2) .none
theorem beginW_ok {p : Prg} {w : Wld} {b up : Nat} {vs : List Val} (h : WOk p w) (hm : madeAt p w.acts b up) (hv : ∀ v ∈ vs, VOk w.funs.length w.classes.length v) (hr : Room 1 w) : WOk p (beginW p w b up vs) ∧ Grow 1 w (beginW p w b up vs) := by
  have hg : Grow 1 w (beginW p w b up vs) := by
    refine ⟨fun i a ha => ⟨a, ?_, rfl, rfl⟩, List.prefix_refl _, List.prefix_refl _, List.prefix_refl _, List.prefix_refl _, Nat.le_refl _, ?_, by simp [beginW], by simp [beginW], by simp [beginW], rfl⟩
    · have := (gS ha).1
      simp only [beginW]
      rw [List.getElem?_append_left this]
      exact ha
    · simp [beginW]
      omega
  refine ⟨?_, hg⟩
  have hmade := hm.grow hg
  obtain ⟨c, k, m1, m2, m3, m4⟩ := hm
  have hul := (gS m1).1
  have hbl := (gS m2).1
  have split' : ∀ (i : Nat) (a : Act), (beginW p w b up vs).acts[i]? = some a → w.acts[i]? = some a ∨ (i = w.acts.length ∧ a.blk = b ∧ a.up = up ∧ SOk w.funs.length w.classes.length a.vars) := by
    intro i a ha
    simp only [beginW] at ha
    rcases Nat.lt_or_ge i w.acts.length with hlt | hge
    · rw [List.getElem?_append_left hlt] at ha
      exact .inl ha
    · rw [List.getElem?_append_right hge] at ha
      have : i = w.acts.length := by
        have := (gS ha).1
        simp at this
        omega
      subst this
      simp at ha
      subst ha
      exact .inr ⟨rfl, rfl, rfl, bindP_ok hv⟩
  refine ⟨?_, fun i a ha => ?_, fun i a ha => ?_, fun i a ha hi => ?_, h.glob, fun i g hg' => (h.funs i g hg').grow hg, h.cls, fun i hi => ?_, by simpa [beginW] using hr.acts, h.nfuns, h.ncls, h.nout, h.ntr, by simpa [beginW] using hr.stk, h.outr, h.enr⟩
  · obtain ⟨a, ha, hb⟩ := h.a0
    obtain ⟨b, e1, e2, _⟩ := hg.acts 0 a ha
    exact ⟨b, e1, e2.trans hb⟩
  · rcases split' i a ha with e | ⟨_, _, _, e⟩
    · exact h.vars i a e
    · exact e
  · rcases split' i a ha with e | ⟨_, e, _, _⟩
    · exact h.blks i a e
    · rw [e]; exact hbl
  · rcases split' i a ha with e | ⟨e1, e2, e3, _⟩
    · obtain ⟨x1, x2⟩ := h.up i a e hi
      exact ⟨x1, x2.grow hg⟩
    · rw [e2, e3]
      exact ⟨by omega, hmade⟩
  · simp only [beginW, List.mem_append, List.mem_singleton] at hi
    simp only [beginW, List.length_append, List.length_singleton]
    rcases hi with e | e
    · have := h.stk i e; omega
    · omega
theorem enterW_ok {p : Prg} {n : Nat} {R : Wld → Nat → Wld × Val} (hR : RunOk p n R) {w : Wld} {b up : Nat} {vs : List Val} (h : WOk p w) (hn : w.left < n) (h0 : w.en = 0) (hm : madeAt p w.acts b up) (hv : ∀ v ∈ vs, VOk w.funs.length w.classes.length v) (hr : Room 1 w) :
    Aft p 1 w (enterW p R w b up vs).1 ∧ VOk (enterW p R w b up vs).1.funs.length (enterW p R w b up vs).1.classes.length (enterW p R w b up vs).2 := by
  obtain ⟨h1, h2⟩ := beginW_ok h hm hv hr
  obtain ⟨⟨r1, r2, r3⟩, r4⟩ := hR (beginW p w b up vs) w.acts.length h1 hn (by simp [beginW]) h0
  unfold enterW endW
  split
  · rename_i he
    refine ⟨⟨⟨r1.a0, r1.vars, r1.blks, r1.up, r1.glob, r1.funs, r1.cls, fun i hi => r1.stk i (List.dropLast_subset _ hi), r1.nacts, r1.nfuns, r1.ncls, r1.nout, r1.ntr, ?_, r1.outr, r1.enr⟩, ?_, fun _ => ?_⟩, r4⟩
    · have := r1.nstk
      simp only [List.length_dropLast]
      omega
    · have hg := h2.trans r2 (Nat.le_refl _)
      exact ⟨hg.acts, hg.funs, hg.cls, hg.out, hg.tr, hg.left, hg.nacts, hg.nfuns, hg.ncls, hg.nout, hg.ntr⟩
    · simp only [r3 he]
      simp [beginW]
  · rename_i he
    exact ⟨⟨r1, h2.trans r2 (Nat.le_refl _), fun e => absurd e he⟩, r4⟩
theorem callW_ok {p : Prg} {n : Nat} {R : Wld → Nat → Wld × Val} (hR : RunOk p n R) {w : Wld} {f : Val} {vs : List Val} (h : WOk p w) (hn : w.left < n) (h0 : w.en = 0) (hv : ∀ v ∈ vs, VOk w.funs.length w.classes.length v) (hr : Room 1 w) :
    Aft p 1 w (callW p R w f vs).1 ∧ VOk (callW p R w f vs).1.funs.length (callW p R w f vs).1.classes.length (callW p R w f vs).2 := by
  unfold callW
  split
  · exact ⟨(Aft.refl h).en (by decide), .zero⟩
  · split
    · rename_i g hg
      split
      · exact ⟨(Aft.refl h).en (by decide), .zero⟩
      · exact enterW_ok hR h hn h0 (h.funs _ g hg) hv hr
    · exact ⟨.refl h, .zero⟩
theorem WOk.addCls {p : Prg} {w : Wld} (h : WOk p w) {c : List Slt} (hc : SOk w.funs.length w.classes.length c) (hl : w.classes.length + 1 + 2 * w.left ≤ 1000) : WOk p { w with classes := w.classes ++ [c] } := by
  have hm : ∀ {l : List Slt}, SOk w.funs.length w.classes.length l → SOk w.funs.length (w.classes ++ [c]).length l := fun h => h.mono (Nat.le_refl _) (by simp)
  refine ⟨h.a0, fun i a ha => hm (h.vars i a ha), h.blks, h.up, hm h.glob, h.funs, fun d hd => ?_, h.stk, h.nacts, h.nfuns, by simpa using hl, h.nout, h.ntr, h.nstk, h.outr, h.enr⟩
  rcases List.mem_append.1 hd with e | e
  · exact hm (h.cls d e)
  · simp at e; subst e; exact hm hc
theorem WOk.addFun {p : Prg} {w : Wld} (h : WOk p w) {b i : Nat} (hm : madeAt p w.acts b i) (hl : w.funs.length + 1 + 2 * w.left ≤ 1000) : WOk p { w with funs := w.funs ++ [(b, i)] } := by
  have hs : ∀ {l : List Slt}, SOk w.funs.length w.classes.length l → SOk (w.funs ++ [(b, i)]).length w.classes.length l := fun h => h.mono (by simp) (Nat.le_refl _)
  refine ⟨h.a0, fun i a ha => hs (h.vars i a ha), h.blks, h.up, hs h.glob, fun j g hg => ?_, fun c hc => hs (h.cls c hc), h.stk, h.nacts, by simpa using hl, h.ncls, h.nout, h.ntr, h.nstk, h.outr, h.enr⟩
  rcases List.mem_append.1 (List.mem_of_getElem? hg) with e | e
  · obtain ⟨j', hj'⟩ := List.getElem?_of_mem e
    exact h.funs j' g hj'
  · simp at e; subst e; exact hm
theorem classW_ok {p : Prg} {n : Nat} {R : Wld → Nat → Wld × Val} (hR : RunOk p n R) {w : Wld} {b a : Nat} (h : WOk p w) (hn : w.left < n) (h0 : w.en = 0) (hm : madeAt p w.acts b a) (hr : Room 2 w) :
    Aft p 2 w (classW p R w b a).1 ∧ VOk (classW p R w b a).1.funs.length (classW p R w b a).1.classes.length (classW p R w b a).2 := by
  obtain ⟨⟨h1, h2, h3⟩, _⟩ := enterW_ok (vs := []) hR h hn h0 hm (fun v hv => by simp at hv) (hr.mono (by omega))
  have hlen : w.acts.length < (enterW p R w b a []).1.acts.length := by
    obtain ⟨g1, g2⟩ := beginW_ok (vs := []) h hm (fun v hv => by simp at hv) (hr.mono (by omega))
    obtain ⟨⟨_, r2, _⟩, _⟩ := hR (beginW p w b a []) w.acts.length g1 hn (by simp [beginW]) h0
    have := r2.lacts
    unfold enterW endW
    split <;> simp [beginW] at this ⊢ <;> omega
  unfold classW
  split
  · rename_i he
    exact ⟨⟨h1, h2.mono (by omega), h3⟩, .zero⟩
  · rename_i he
    have he' : (enterW p R w b a []).1.en = 0 := by simpa using he
    have hr1 := (Aft.mk h1 h2 h3).room hr he' (k' := 1) (by omega)
    have hok := h1.addCls (c := (enterW p R w b a []).1.vars (some w.acts.length)) (h1.vars_of fun i e => by obtain rfl := Option.some.inj e; exact hlen) hr1.cls
    refine ⟨⟨hok, ?_, fun e => h3 e⟩, ?_⟩
    · refine ⟨h2.acts, h2.funs, h2.cls.trans (List.prefix_append _ _), h2.out, h2.tr, h2.left, by have := h2.nacts; simp only; omega, by have := h2.nfuns; simp only; omega, by have := h2.ncls; simp only [List.length_append, List.length_singleton]; omega, by have := h2.nout; simp only; omega, h2.ntr⟩
    · have := hr1.cls
      exact ⟨by simp only; omega, by simp, fun _ => by simp only [List.length_append, List.length_singleton]; omega⟩
theorem StmOk.made {p : Prg} {b : Nat} {k : Blk} {s : Stm} (h : StmOk p b k s = true) (hk : s.kind = 3 ∨ s.kind = 4) : ∃ q, p[s.a.toNat]? = some q ∧ q.parent = b ∧ 0 < s.a ∧ q.kind = s.kind - 2 := by
  have key : ∀ d, madeAs p b s.a d = true → ∃ q, p[s.a.toNat]? = some q ∧ q.parent = b ∧ 0 < s.a ∧ q.kind = d := by
    intro d hm
    simp only [madeAs, Bool.and_eq_true, decide_eq_true_eq] at hm
    obtain ⟨⟨h1, h2⟩, h3⟩ := hm
    split at h3
    · rename_i q hq
      simp only [Bool.and_eq_true, beq_iff_eq] at h3
      exact ⟨q, hq, h3.2, by omega, h3.1⟩
    · cases h3
  rcases hk with e | e
  · simp only [StmOk, e] at h
    simp at h
    obtain ⟨q, h1, h2, h3, h4⟩ := key 1 h.2.2
    exact ⟨q, h1, h2, h3, by rw [h4, e]; rfl⟩
  · simp only [StmOk, e] at h
    simp at h
    obtain ⟨q, h1, h2, h3, h4⟩ := key 2 h.2.2
    exact ⟨q, h1, h2, h3, by rw [h4, e]; rfl⟩
theorem StmOk.num {p : Prg} {b : Nat} {k : Blk} {s : Stm} (h : StmOk p b k s = true) (hk : s.kind = 0) : 0 ≤ s.a ∧ s.a ≤ 99 := by
  simp only [StmOk, hk] at h
  simp at h
  omega
theorem getD_ok {nf nc : Nat} {vs : List Val} (h : ∀ v ∈ vs, VOk nf nc v) (i : Nat) : VOk nf nc (vs.getD i (0, 0)) := by
  rw [List.getD_eq_getElem?_getD]
  cases hi : vs[i]? with
  | none => exact .zero
  | some v => exact h v (List.mem_of_getElem? hi)
theorem workW_ok {p : Prg} {n : Nat} {R : Wld → Nat → Wld × Val} (hR : RunOk p n R) {w : Wld} {a : Nat} {k : Blk} {s : Stm} {vs : List Val} (h : WOk p w) (hn : w.left < n) (h0 : w.en = 0) (ha : a < w.acts.length) (hs : StmOk p (w.blk a) k s = true) (hv : ∀ v ∈ vs, VOk w.funs.length w.classes.length v) (hr : Room 2 w) :
    Aft p 2 w (workW p R w a s vs).1 ∧ VOk (workW p R w a s vs).1.funs.length (workW p R w a s vs).1.classes.length (workW p R w a s vs).2 := by
  obtain ⟨c, hc⟩ : ∃ c, w.acts[a]? = some c := ⟨_, gE ha⟩
  have hmade : s.kind = 3 ∨ s.kind = 4 → madeAt p w.acts s.a.toNat a := fun e => by
    obtain ⟨q, h1, h2, h3, _⟩ := StmOk.made hs e
    exact ⟨c, q, hc, h1, by rw [h2, blk_at hc], by omega⟩
  unfold workW
  split
  · rename_i e
    have := StmOk.num hs e
    exact ⟨.refl h, ⟨by simp only; omega, by simp, by simp⟩⟩
  · split
    · obtain ⟨h1, h2⟩ := plusW_ok h (getD_ok hv 0) (getD_ok hv 1)
      exact ⟨h1.mono (by omega), h2⟩
    · split
      · rename_i e
        have hl := hr.funs
        refine ⟨⟨h.addFun (hmade (.inl e)) (by omega), ?_, fun _ => rfl⟩, ⟨by simp only; omega, fun _ => by simp only [List.length_append, List.length_singleton]; omega, by simp⟩⟩
        exact ⟨fun _ a h => ⟨a, h, rfl, rfl⟩, List.prefix_append _ _, List.prefix_refl _, List.prefix_refl _, List.prefix_refl _, Nat.le_refl _, by simp only; omega, by simp only [List.length_append, List.length_singleton]; omega, by simp only; omega, by simp only; omega, rfl⟩
      · split
        · rename_i e
          exact classW_ok hR h hn h0 (hmade (.inr e)) hr
        · split
          · obtain ⟨h1, h2⟩ := callW_ok (f := vs.getD 0 (0, 0)) (vs := vs.tail) hR h hn h0 (fun v hv' => hv v (List.mem_of_mem_tail hv')) (hr.mono (by omega))
            exact ⟨h1.mono (by omega), h2⟩
          · split
            · obtain ⟨h1, h2⟩ := attrW_ok (v := vs.getD 0 (0, 0)) (x := s.b) h
              exact ⟨h1.mono (by omega), h2⟩
            · exact ⟨.refl h, getD_ok hv 0⟩
theorem valueW_ok {p : Prg} {n : Nat} {R : Wld → Nat → Wld × Val} (hR : RunOk p n R) {w : Wld} {a : Nat} {k : Blk} {s : Stm} (h : WOk p w) (hn : w.left < n) (h0 : w.en = 0) (ha : a < w.acts.length) (hs : StmOk p (w.blk a) k s = true) (hr : Room 2 w) :
    Aft p 2 w (valueW p R w a s).1 ∧ VOk (valueW p R w a s).1.funs.length (valueW p R w a s).1.classes.length (valueW p R w a s).2 := by
  unfold valueW
  obtain ⟨h1, h2, h3, _⟩ := loadsW_ok (a := a) (l := s.reads) h
  split
  · exact ⟨h1.mono (by omega), .zero⟩
  · rename_i he
    rcases h3 with h3 | ⟨e, he', h3⟩
    · rw [h3]
      exact workW_ok hR h hn h0 ha hs h2 hr
    · rw [h3] at he
      exact absurd he' he
theorem shown_rng {nf nc : Nat} {v : Val} (h : VOk nf nc v) : -3 ≤ Hm.shown v ∧ Hm.shown v ≤ 1000 := by
  have := h.num
  unfold Hm.shown
  split
  · omega
  · split
    · omega
    · split <;> omega
theorem WOk.addOut {p : Prg} {w : Wld} (h : WOk p w) {v : Int} (hl : w.out.length + 1 + 2 * w.left ≤ 1000) (hv : -3 ≤ v ∧ v ≤ 1000) : WOk p { w with out := w.out ++ [v] } :=
  ⟨h.a0, h.vars, h.blks, h.up, h.glob, h.funs, h.cls, h.stk, h.nacts, h.nfuns, h.ncls, by simpa using hl, h.ntr, h.nstk, fun x hx => by
    simp only [List.mem_append, List.mem_singleton] at hx
    rcases hx with hx | rfl
    · exact h.outr x hx
    · exact hv, h.enr⟩
theorem StmOk.print {p : Prg} {R : Wld → Nat → Wld × Val} {w : Wld} {a : Nat} {s : Stm} (h : s.kind = 7) : valueW p R w a s = if (loadsW p w a s.reads).1.en ≠ 0 then ((loadsW p w a s.reads).1, (0, 0)) else ((loadsW p w a s.reads).1, (loadsW p w a s.reads).2.getD 0 (0, 0)) := by
  simp [valueW, workW, h]
theorem stmW_ok {p : Prg} {n : Nat} {R : Wld → Nat → Wld × Val} (hR : RunOk p n R) {w : Wld} {a : Nat} {k : Blk} {s : Stm} (h : WOk p w) (hn : w.left < n) (h0 : w.en = 0) (ha : a < w.acts.length) (hs : StmOk p (w.blk a) k s = true) (hr : Room 2 w) : Aft p 2 w (stmW p R w a s) := by
  unfold stmW
  split
  · exact .refl h
  · split
    · exact (takeW_ok h).mono (by omega)
    · obtain ⟨h1, h2⟩ := valueW_ok hR h hn h0 ha hs hr
      split
      · exact h1
      · rename_i hne
        have he : (valueW p R w a s).1.en = 0 := by simpa using hne
        split
        · rename_i e7
          have hw : (valueW p R w a s).1 = w := by
            obtain ⟨_, _, h3, _⟩ := loadsW_ok (a := a) (l := s.reads) h
            rw [StmOk.print e7] at he ⊢
            split at he
            · rename_i hx; exact absurd he hx
            · rename_i hx
              rw [if_neg hx]
              rcases h3 with h3 | ⟨e, he', h3⟩
              · exact h3
              · rw [h3] at hx; exact absurd he' hx
          rw [hw]
          have hl := hr.out
          refine ⟨h.addOut (by omega) (shown_rng h2), ⟨fun _ a h => ⟨a, h, rfl, rfl⟩, List.prefix_refl _, List.prefix_refl _, List.prefix_append _ _, List.prefix_refl _, Nat.le_refl _, by simp only; omega, by simp only; omega, by simp only; omega, by simp only [List.length_append, List.length_singleton]; omega, rfl⟩, fun _ => rfl⟩
        · obtain ⟨s1, s2, s3⟩ := storeW_ok (a := a) (x := s.to) h1.ok h2
          refine ⟨s1, h1.grow.trans s2 (by omega), fun e => ?_⟩
          rw [s3 e]
          exact h1.stk he
theorem tickW_ok {p : Prg} {w : Wld} {a i : Nat} (h : WOk p w) (hl : w.left ≠ 0) : WOk p (tickW w a i) ∧ Room 2 (tickW w a i) := by
  have h1 := h.nacts
  have h2 := h.nfuns
  have h3 := h.ncls
  have h4 := h.nout
  have h5 := h.ntr
  have h6 := h.nstk
  refine ⟨⟨h.a0, h.vars, h.blks, h.up, h.glob, h.funs, h.cls, h.stk, ?_, ?_, ?_, ?_, ?_, ?_, h.outr, h.enr⟩, ⟨?_, ?_, ?_, ?_, ?_⟩⟩
  all_goals simp only [tickW, List.length_append, List.length_singleton]
  all_goals omega
theorem tick_grow {w w' : Wld} {a i : Nat} (hl : w.left ≠ 0) (h : Grow 2 (tickW w a i) w') : Grow 0 w w' := by
  have h1 := h.nacts
  have h2 := h.nfuns
  have h3 := h.ncls
  have h4 := h.nout
  have h5 := h.ntr
  have h6 := h.left
  simp only [tickW, List.length_append, List.length_singleton] at h1 h2 h3 h4 h5 h6
  exact ⟨h.acts, h.funs, h.cls, h.out, (List.prefix_append _ _).trans h.tr, by omega, by omega, by omega, by omega, by omega, by omega⟩
theorem Aft.tick {p : Prg} {w w' : Wld} {a i : Nat} (hl : w.left ≠ 0) (h : Aft p 2 (tickW w a i) w') : Aft p 0 w w' := ⟨h.ok, tick_grow hl h.grow, h.stk⟩
theorem bodyW_ok {p : Prg} {n : Nat} {R : Wld → Nat → Wld × Val} (hR : RunOk p n R) {a : Nat} {k : Blk} : ∀ {l : List Stm} {w : Wld} {i : Nat}, WOk p w → w.left < n + 1 → w.en = 0 → a < w.acts.length → (∀ s ∈ l, StmOk p (w.blk a) k s = true) →
    Aft p 0 w (bodyW p R a w i l).1 ∧ VOk (bodyW p R a w i l).1.funs.length (bodyW p R a w i l).1.classes.length (bodyW p R a w i l).2
  | [], w, i, h, _, _, _, _ => ⟨.refl h, .zero⟩
  | s :: l, w, i, h, hn, h0, ha, hs => by
    simp only [bodyW]
    split
    · exact ⟨(Aft.refl h).en (by decide), .zero⟩
    · rename_i hl
      obtain ⟨t1, t2⟩ := tickW_ok (a := a) (i := i) h hl
      have tn : (tickW w a i).left < n := by simp only [tickW]; omega
      split
      · obtain ⟨x1, x2, x3⟩ := loadW_ok (a := a) (x := s.a) t1
        refine ⟨(x1.mono (by omega)).tick hl, ?_⟩
        have e1 := x1.grow.lfuns
        have e2 := x1.grow.lcls
        exact x2.mono e1 e2
      · have hst := stmW_ok hR t1 tn h0 ha (hs s (by simp)) t2
        split
        · exact ⟨hst.tick hl, .zero⟩
        · rename_i he
          have he' : (stmW p R (tickW w a i) a s).en = 0 := by simpa using he
          have hA := hst.tick hl
          obtain ⟨c, hc⟩ : ∃ c, w.acts[a]? = some c := ⟨_, gE ha⟩
          have hb := hA.grow.blk hc
          obtain ⟨r1, r2⟩ := bodyW_ok hR (l := l) (i := i + 1) hA.ok (by have := hA.grow.left; omega) he' (Nat.lt_of_lt_of_le ha hA.grow.lacts) (fun s' hs' => by rw [hb]; exact hs s' (by simp [hs']))
          exact ⟨hA.trans r1 (fun _ => he') (by omega), r2⟩
theorem runW_ok {p : Prg} (hp : ShapeP p) : ∀ n, RunOk p n (runW p n)
  | 0 => fun w a _ h => absurd h (by omega)
  | n + 1 => by
    intro w a h hn ha h0
    simp only [runW]
    obtain ⟨c, hc⟩ : ∃ c, w.acts[a]? = some c := ⟨_, gE ha⟩
    have hb := h.blks a c hc
    obtain ⟨k, hk⟩ : ∃ k, p[c.blk]? = some k := ⟨_, gE hb⟩
    rw [blk_at hc, hk]
    exact bodyW_ok (runW_ok hp n) (k := k) h hn h0 ha (fun s hs => by rw [blk_at hc]; exact hp.stm _ k hk s hs)
theorem startW_ok {p : Prg} (hp : ShapeP p) {fuel : Nat} (hf : fuel ≤ 150) : WOk p (startW fuel) := by
  have hl := hp.len
  refine ⟨⟨_, rfl, rfl⟩, fun i a ha => ?_, fun i a ha => ?_, fun i a ha hi => ?_, .none, fun i g hg => ?_, fun c hc => ?_, fun i hi => ?_, ?_, ?_, ?_, ?_, ?_, ?_, by simp [startW], by simp [startW]⟩
  · have := List.mem_of_getElem? ha
    simp [startW] at this
    subst this
    exact .none
  · have := List.mem_of_getElem? ha
    simp [startW] at this
    subst this
    simp only
    omega
  · have := (gS ha).1
    simp [startW] at this
    omega
  · simp [startW] at hg
  · simp [startW] at hc
  · simp [startW] at hi ⊢
    omega
  all_goals simp [startW]
  all_goals omega
theorem meantW_ok {p : Prg} (hp : ShapeP p) {fuel : Nat} (hf : fuel ≤ 150) : Aft p 0 (startW fuel) (meantW p fuel) :=
  (runW_ok hp 151 (startW fuel) 0 (startW_ok hp hf) (by simp [startW]; omega) (by simp [startW]) rfl).1
def slotC (s : Slt) : List AV := match s with | some v => [bv true, iv v.1, iv v.2] | none => [bv false, iv 0, iv 0]
@[simp] theorem slotC_len {s : Slt} : (slotC s).length = 3 := by cases s <;> rfl
@[simp] theorem slotC_tr {s : Slt} {f : Nm → Option Nm} : (slotC s).map (AV.tr f) = slotC s := by cases s <;> rfl
@[simp] theorem slotC_none : slotC none = [bv false, iv 0, iv 0] := rfl
@[simp] theorem slotC_some {v : Val} : slotC (some v) = [bv true, iv v.1, iv v.2] := rfl
def slrows (l : List Slt) : List (List AV) := l.map slotC
section
variable {l : List Slt} {i : Nat} {f : Nm → Option Nm} {s : Slt}
@[simp] theorem slrows_len : (slrows l).length = l.length := by simp [slrows]
@[simp] theorem slrows_get : (slrows l)[i]? = (l[i]?).map slotC := by simp [slrows]
@[simp] theorem slrows_getE {h : i < (slrows l).length} : (slrows l)[i] = slotC (l[i]'(by simpa using h)) := by simp [slrows]
@[simp] theorem slrows_tr : (slrows l).map (fun r => r.map (AV.tr f)) = slrows l := by simp [slrows]
@[simp] theorem slrows_nil : slrows [] = [] := rfl
@[simp] theorem slrows_cln : (slrows l).all (fun r => r.all AV.cln) = true := by
  rw [List.all_eq_true]
  intro r hr
  simp only [slrows, List.mem_map] at hr
  obtain ⟨s, _, rfl⟩ := hr
  cases s <;> rfl
theorem slrows_set : rowsSet (slrows l) i 0 (slotC s) = slrows (l.set i s) := by
  apply List.ext_getElem?
  intro j
  simp only [rowsSet, List.getElem?_modify, slrows_get, List.getElem?_set]
  by_cases e : i = j
  · subst e
    cases h : l[i]? with
    | none =>
      have : ¬ i < l.length := fun hl => by rw [gE hl] at h; cases h
      simp [this]
    | some y =>
      have : i < l.length := (gS h).1
      simp [this]
  · simp [e]
end
@[simp] theorem slrows_setS {l : List Slt} {i : Nat} {a b : Int} : rowsSet (slrows l) i 0 [bv true, iv a, iv b] = slrows (l.set i (some (a, b))) := slrows_set (s := some (a, b))
@[simp] theorem slrows_setN {l : List Slt} {i : Nat} : rowsSet (slrows l) i 0 [bv false, iv 0, iv 0] = slrows (l.set i none) := slrows_set (s := none)
def vrows (l : List Val) : List (List AV) := l.map fun v => [iv v.1, iv v.2]
section
variable {l m : List Val} {i : Nat} {f : Nm → Option Nm} {v : Val}
@[simp] theorem vrows_len : (vrows l).length = l.length := by simp [vrows]
@[simp] theorem vrows_getE {h : i < (vrows l).length} : (vrows l)[i] = [iv (l[i]'(by simpa using h)).1, iv (l[i]'(by simpa using h)).2] := by simp [vrows]
@[simp] theorem vrows_tr : (vrows l).map (fun r => r.map (AV.tr f)) = vrows l := by simp [vrows]
@[simp] theorem vrows_take {n : Nat} : (vrows l).take n = vrows (l.take n) := by simp [vrows]
@[simp] theorem vrows_nil : vrows [] = [] := rfl
end
def nrows (l : List (Nat × Nat)) : List (List AV) := l.map fun v => [iv v.1, iv v.2]
section
variable {l m : List (Nat × Nat)} {i : Nat} {f : Nm → Option Nm}
@[simp] theorem nrows_len : (nrows l).length = l.length := by simp [nrows]
@[simp] theorem nrows_tr : (nrows l).map (fun r => r.map (AV.tr f)) = nrows l := by simp [nrows]
@[simp] theorem nrows_take {n : Nat} : (nrows l).take n = nrows (l.take n) := by simp [nrows]
@[simp] theorem nrows_nil : nrows [] = [] := rfl
theorem nrows_app1 {a b : Nat} : nrows l ++ [[iv a, iv b]] = nrows (l ++ [(a, b)]) := by simp [nrows]
end
def outI (i : Nat) (a : Act) : Int := if i = 0 then -1 else a.up
def actRows (n : Nm) (az : List Act) : List (List AV) := az.mapIdx fun i a => [iv a.blk, iv (outI i a), .hs (.c n i 2) 3 0 8]
def clsRows (n : Nm) (cs : List (List Slt)) : List (List AV) := cs.mapIdx fun i _ => [.hs (.c n i 0) 3 0 8]
def funRows (n : Nm) (fs : List (Nat × Nat)) : List (List AV) := fs.mapIdx fun i g => [iv g.1, iv g.2, .hs (.c n i 2) 3 0 0]
section
variable {az : List Act} {cs : List (List Slt)} {fs : List (Nat × Nat)} {n m : Nm} {i : Nat} {f : Nm → Option Nm}
@[simp] theorem actRows_len : (actRows n az).length = az.length := by simp [actRows]
@[simp] theorem actRows_get : (actRows n az)[i]? = (az[i]?).map fun a => [iv a.blk, iv (outI i a), .hs (.c n i 2) 3 0 8] := by simp [actRows]
@[simp] theorem clsRows_len : (clsRows n cs).length = cs.length := by simp [clsRows]
@[simp] theorem clsRows_get : (clsRows n cs)[i]? = (cs[i]?).map fun _ => [AV.hs (.c n i 0) 3 0 8] := by simp [clsRows]
@[simp] theorem funRows_len : (funRows n fs).length = fs.length := by simp [funRows]
@[simp] theorem funRows_get : (funRows n fs)[i]? = (fs[i]?).map fun g => [iv g.1, iv g.2, AV.hs (.c n i 2) 3 0 0] := by simp [funRows]
@[simp] theorem actRows_getE {h : i < (actRows n az).length} : (actRows n az)[i] = [iv (az[i]'(by simpa using h)).blk, iv (outI i (az[i]'(by simpa using h))), .hs (.c n i 2) 3 0 8] := by simp [actRows]
@[simp] theorem clsRows_getE {h : i < (clsRows n cs).length} : (clsRows n cs)[i] = [AV.hs (.c n i 0) 3 0 8] := by simp [clsRows]
@[simp] theorem funRows_getE {h : i < (funRows n fs).length} : (funRows n fs)[i] = [iv (fs[i]'(by simpa using h)).1, iv (fs[i]'(by simpa using h)).2, AV.hs (.c n i 2) 3 0 0] := by simp [funRows]
theorem actRows_tr (h : ∀ i, i < az.length → f (.c n i 2) = some (.c m i 2)) : (actRows n az).map (fun r => r.map (AV.tr f)) = actRows m az := by
  apply List.ext_getElem?
  intro j
  rw [List.getElem?_map, actRows_get, actRows_get]
  cases hj : az[j]? with
  | none => rfl
  | some a => simp [h j (gS hj).1]
theorem clsRows_tr (h : ∀ i, i < cs.length → f (.c n i 0) = some (.c m i 0)) : (clsRows n cs).map (fun r => r.map (AV.tr f)) = clsRows m cs := by
  apply List.ext_getElem?
  intro j
  rw [List.getElem?_map, clsRows_get, clsRows_get]
  cases hj : cs[j]? with
  | none => rfl
  | some a => simp [h j (gS hj).1]
theorem funRows_tr (h : ∀ i, i < fs.length → f (.c n i 2) = some (.c m i 2)) : (funRows n fs).map (fun r => r.map (AV.tr f)) = funRows m fs := by
  apply List.ext_getElem?
  intro j
  rw [List.getElem?_map, funRows_get, funRows_get]
  cases hj : fs[j]? with
  | none => rfl
  | some a => simp [h j (gS hj).1]
@[simp] theorem actRows_fix (h : ∀ i, f (.c n i 2) = some (.c n i 2)) : (actRows n az).map (fun r => r.map (AV.tr f)) = actRows n az := actRows_tr fun i _ => h i
@[simp] theorem clsRows_fix (h : ∀ i, f (.c n i 0) = some (.c n i 0)) : (clsRows n cs).map (fun r => r.map (AV.tr f)) = clsRows n cs := clsRows_tr fun i _ => h i
@[simp] theorem funRows_fix (h : ∀ i, f (.c n i 2) = some (.c n i 2)) : (funRows n fs).map (fun r => r.map (AV.tr f)) = funRows n fs := funRows_tr fun i _ => h i
theorem actRows_app {a : Act} : actRows n az ++ [[iv a.blk, iv (outI az.length a), .hs (.c n az.length 2) 3 0 8]] = actRows n (az ++ [a]) := by simp [actRows]
theorem clsRows_app {c : List Slt} : clsRows n cs ++ [[.hs (.c n cs.length 0) 3 0 8]] = clsRows n (cs ++ [c]) := by simp [clsRows]
theorem funRows_app {a b : Nat} : funRows n fs ++ [[iv a, iv b, .hs (.c n fs.length 2) 3 0 0]] = funRows n (fs ++ [(a, b)]) := by simp [funRows]
end
abbrev Wn : Nm := .u 1 0 0
def wRow (p : Prg) (w : Wld) : List AV := [ksl p, .hs (.c Wn 0 1) 3 0 w.acts.length, .hs (.c Wn 0 2) 1 0 w.stack.length, .hs (.c Wn 0 3) 3 0 8, .hs (.c Wn 0 4) 3 0 w.funs.length, .hs (.c Wn 0 5) 1 0 w.classes.length, .hs (.c Wn 0 6) 1 0 w.out.length, .hs (.c Wn 0 7) 2 0 w.trace.length, iv w.en, iv w.left]
def nints (l : List Nat) : List Int := l.map fun (n : Nat) => (n : Int)
@[simp] theorem nints_len {l : List Nat} : (nints l).length = l.length := by simp [nints]
structure OwnW (hp : Nm → Option AO) (p : Prg) (w : Wld) : Prop where
  top : hp Wn = some (.row 10 [wRow p w])
  acts : hp (.c Wn 0 1) = some (.row 3 (actRows (.c Wn 0 1) w.acts))
  act : ∀ (i : Nat) a, w.acts[i]? = some a → hp (.c (.c Wn 0 1) i 2) = some (.row 3 (slrows a.vars))
  stk : ∃ l, hp (.c Wn 0 2) = some (.row 1 (irows (nints w.stack ++ l)))
  glob : hp (.c Wn 0 3) = some (.row 3 (slrows w.globals))
  funs : hp (.c Wn 0 4) = some (.row 3 (funRows (.c Wn 0 4) w.funs))
  clss : hp (.c Wn 0 5) = some (.row 1 (clsRows (.c Wn 0 5) w.classes))
  cls : ∀ (i : Nat) c, w.classes[i]? = some c → hp (.c (.c Wn 0 5) i 0) = some (.row 3 (slrows c))
  out : hp (.c Wn 0 6) = some (.row 1 (irows w.out))
  trc : hp (.c Wn 0 7) = some (.row 2 (nrows w.trace))
theorem OwnW.re {hp hp' : Nm → Option AO} {p : Prg} {w : Wld} (ow : OwnW hp p w)
    (h0 : hp' Wn = some (.row 10 [wRow p w]) := by simp [ow.top, wRow])
    (h1 : hp' (.c Wn 0 1) = some (.row 3 (actRows (.c Wn 0 1) w.acts)) := by simp [ow.acts])
    (h2 : ∀ (i : Nat) a, w.acts[i]? = some a → hp' (.c (.c Wn 0 1) i 2) = some (.row 3 (slrows a.vars)) := by intro i a ha; simp [ow.act i a ha])
    (h3 : ∀ l, hp (.c Wn 0 2) = some (.row 1 (irows (nints w.stack ++ l))) → hp' (.c Wn 0 2) = some (.row 1 (irows (nints w.stack ++ l))) := by intro l hl; simp [hl])
    (h4 : hp' (.c Wn 0 3) = some (.row 3 (slrows w.globals)) := by simp [ow.glob])
    (h5 : hp' (.c Wn 0 4) = some (.row 3 (funRows (.c Wn 0 4) w.funs)) := by simp [ow.funs])
    (h6 : hp' (.c Wn 0 5) = some (.row 1 (clsRows (.c Wn 0 5) w.classes)) := by simp [ow.clss])
    (h7 : ∀ (i : Nat) c, w.classes[i]? = some c → hp' (.c (.c Wn 0 5) i 0) = some (.row 3 (slrows c)) := by intro i c hc; simp [ow.cls i c hc])
    (h8 : hp' (.c Wn 0 6) = some (.row 1 (irows w.out)) := by simp [ow.out])
    (h9 : hp' (.c Wn 0 7) = some (.row 2 (nrows w.trace)) := by simp [ow.trc]) : OwnW hp' p w :=
  ⟨h0, h1, h2, ow.stk.imp fun l hl => h3 l hl, h4, h5, h6, h7, h8, h9⟩
def locN : Option Nat → Nm
  | none => .c Wn 0 3
  | some i => .c (.c Wn 0 1) i 2
theorem OwnW.hp' {hp hp' : Nm → Option AO} {p : Prg} {w : Wld} (h : OwnW hp p w) {f : Nm → Option Nm} (hf : ∀ m, Nm.under Wn m = true → f m = some m) (hh : ∀ m, Nm.under Wn m = true → hp' m = (hp m).map (AO.tr f)) : OwnW hp' p w := by
  have hu : ∀ j, Nm.under Wn (.c Wn 0 j) = true := fun j => by simp [Nm.under]
  have hu2 : ∀ j i k, Nm.under Wn (.c (.c Wn 0 j) i k) = true := fun j i k => by simp [Nm.under]
  refine ⟨?_, ?_, fun i a ha => ?_, ?_, ?_, ?_, ?_, fun i c hc => ?_, ?_, ?_⟩
  · rw [hh _ (by simp [Nm.under]), h.top]
    simp [wRow, AO.tr, AV.tr, trLL_eq, hf _ (hu 1), hf _ (hu 2), hf _ (hu 3), hf _ (hu 4), hf _ (hu 5), hf _ (hu 6), hf _ (hu 7)]
  · rw [hh _ (hu 1), h.acts]
    simp only [Option.map_some, AO.tr]
    rw [actRows_tr (fun i _ => hf _ (hu2 1 i 2))]
  · rw [hh _ (hu2 1 i 2), h.act i a ha]
    simp [AO.tr]
  · obtain ⟨l, hl⟩ := h.stk
    exact ⟨l, by rw [hh _ (hu 2), hl]; simp [AO.tr]⟩
  · rw [hh _ (hu 3), h.glob]
    simp [AO.tr]
  · rw [hh _ (hu 4), h.funs]
    simp only [Option.map_some, AO.tr]
    rw [funRows_tr (fun i _ => hf _ (hu2 4 i 2))]
  · rw [hh _ (hu 5), h.clss]
    simp only [Option.map_some, AO.tr]
    rw [clsRows_tr (fun i _ => hf _ (hu2 5 i 0))]
  · rw [hh _ (hu2 5 i 0), h.cls i c hc]
    simp [AO.tr]
  · rw [hh _ (hu 6), h.out]
    simp [AO.tr]
  · rw [hh _ (hu 7), h.trc]
    simp [AO.tr]
section
variable {l : Option Nat} {d : Nat}
@[simp] theorem locN_under : Nm.under Wn (locN l) = true := by cases l <;> simp [locN, Nm.under]
@[simp] theorem locN_under_s : Nm.under (.s d) (locN l) = false := by cases l <;> simp [locN, Nm.under]
end
theorem OwnW.loc {hp : Nm → Option AO} {p : Prg} {w : Wld} (h : OwnW hp p w) {l : Option Nat} (hl : ∀ i, l = some i → i < w.acts.length) : hp (locN l) = some (.row 3 (slrows (w.vars l))) := by
  cases l with
  | none => exact h.glob
  | some i =>
    obtain ⟨a, ha⟩ : ∃ a, w.acts[i]? = some a := ⟨_, gE (hl i rfl)⟩
    simp only [locN, Wld.vars, ha]
    exact h.act i a ha
theorem OwnW.fin {hp : Nm → Option AO} {p : Prg} {w : Wld} (h : OwnW hp p w) : OwnW (finH (Nm.under Wn) [] hp) p w :=
  h.hp' (f := finf (Nm.under Wn) []) (fun m hm => by simp only [finf, hm, if_true]) (fun m hm => by simp only [finH, hm, if_true])
theorem OwnW.finD {hp : Nm → Option AO} {p : Prg} {w : Wld} {D : Nm → Bool} {sbs : List (Nm × Nm)} (h : OwnW hp p w) (hD : ∀ m, D m = true → m.sroot = false) (hW : ∀ m, Nm.under Wn m = true → D m = true) (hs : ∀ q ∈ sbs, q.1.sroot = true) : OwnW (finH D sbs hp) p w :=
  h.hp' (f := finf D sbs) (fun m hm => finf_D hD (hW m hm) hs) (fun m hm => by simp only [finH, hW m hm, if_true])
end Go.Hm
end
