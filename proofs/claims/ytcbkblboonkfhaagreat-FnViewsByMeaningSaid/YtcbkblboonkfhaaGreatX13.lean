/-
  Own texts, joined by mkclaim.py: Hm70, Hm71.
-/
import Derived.Test.YtcbkblboonkfhaaGreatX12
set_option linter.unusedSimpArgs false
set_option linter.unusedVariables false
set_option maxRecDepth 100000
set_option maxHeartbeats 4000000

section
namespace Go.Hm
open Go Go.RowKit
abbrev Val := Int × Int
abbrev Slt := Option Val
structure Act where
  blk : Nat
  up : Nat
  vars : List Slt
structure Wld where
  acts : List Act
  stack : List Nat
  globals : List Slt
  funs : List (Nat × Nat)
  classes : List (List Slt)
  out : List Int
  trace : List (Nat × Nat)
  en : Int
  left : Nat
abbrev noSlots : List Slt := List.replicate 8 none
def shown (v : Val) : Int := if v.1 = 1 then v.2 else if v.1 = 2 then -2 else if v.1 = 3 then -3 else -1
def Wld.blk (w : Wld) (at' : Nat) : Nat := match w.acts[at']? with | some a => a.blk | none => 0
def climb (acts : List Act) (o : Nat) : Nat → Nat → Nat
  | 0, a => a
  | n + 1, a => match acts[a]? with | some c => if c.blk = o then a else climb acts o n c.up | none => a
def Wld.loc (p : Prg) (w : Wld) (at' : Nat) (x : Int) : Option Nat := if owner p (w.blk at') x < 0 then none else some (climb w.acts (owner p (w.blk at') x).toNat at' at')
def Wld.vars (w : Wld) : Option Nat → List Slt
  | none => w.globals
  | some i => match w.acts[i]? with | some a => a.vars | none => []
def Wld.get (w : Wld) (l : Option Nat) (x : Int) : Slt := match (w.vars l)[x.toNat]? with | some s => s | none => none
def Wld.set (w : Wld) (l : Option Nat) (x : Int) (s : Slt) : Wld := match l with
  | none => { w with globals := w.globals.set x.toNat s }
  | some i => { w with acts := w.acts.modify i fun a => { a with vars := a.vars.set x.toNat s } }
def lack (p : Prg) (b : Nat) (o : Int) : Int := if o < 0 ∨ (o = b ∧ kindAt p b = 2) then 4 else if o = b then 2 else 3
def loadW (p : Prg) (w : Wld) (at' : Nat) (x : Int) : Wld × Val :=
  match w.get (w.loc p at' x) x with
  | some v => (w, v)
  | none =>
    if lack p (w.blk at') (owner p (w.blk at') x) = 4 then
      match w.get none x with
      | some v => (w, v)
      | none => if x = 7 then (w, (1, 70)) else ({ w with en := 4 }, (0, 0))
    else ({ w with en := lack p (w.blk at') (owner p (w.blk at') x) }, (0, 0))
def loadsW (p : Prg) (w : Wld) (at' : Nat) : List Int → Wld × List Val
  | [] => (w, [])
  | x :: l => if w.en ≠ 0 then (w, []) else
    ((loadsW p (loadW p w at' x).1 at' l).1, (loadW p w at' x).2 :: (loadsW p (loadW p w at' x).1 at' l).2)
def storeW (p : Prg) (w : Wld) (at' : Nat) (x : Int) (v : Val) : Wld := w.set (w.loc p at' x) x (some v)
def takeW (p : Prg) (w : Wld) (at' : Nat) (x : Int) : Wld := match w.get (w.loc p at' x) x with
  | some _ => w.set (w.loc p at' x) x none
  | none => { w with en := lack p (w.blk at') (owner p (w.blk at') x) }
def plusW (w : Wld) (a b : Val) : Wld × Val := if a.1 ≠ 1 ∨ b.1 ≠ 1 then ({ w with en := 5 }, (0, 0)) else (w, (1, (a.2 + b.2).tmod 1000))
def attrW (w : Wld) (v : Val) (x : Int) : Wld × Val := if v.1 ≠ 3 then ({ w with en := 5 }, (0, 0)) else
  match w.classes[v.2.toNat]? with
  | some c => match c[x.toNat]? with
    | some (some u) => (w, u)
    | _ => ({ w with en := 7 }, (0, 0))
  | none => ({ w with en := 7 }, (0, 0))
def bindP (ps : List Int) (vs : List Val) : List Slt := (ps.zip vs).foldl (fun l q => l.set q.1.toNat (some q.2)) noSlots
def beginW (p : Prg) (w : Wld) (b up : Nat) (vs : List Val) : Wld :=
  { w with acts := w.acts ++ [⟨b, up, bindP (match p[b]? with | some k => k.params | none => []) vs⟩], stack := w.stack ++ [w.acts.length] }
def endW (w : Wld) : Wld := if w.en = 0 then { w with stack := w.stack.dropLast } else w
def parN (p : Prg) (b : Nat) : Nat := match p[b]? with | some k => k.params.length | none => 0
section
variable (p : Prg) (R : Wld → Nat → Wld × Val)
def enterW (w : Wld) (b up : Nat) (vs : List Val) : Wld × Val := (endW (R (beginW p w b up vs) w.acts.length).1, (R (beginW p w b up vs) w.acts.length).2)
def callW (w : Wld) (f : Val) (vs : List Val) : Wld × Val := if f.1 ≠ 2 then ({ w with en := 5 }, (0, 0)) else
  match w.funs[f.2.toNat]? with
  | some g => if parN p g.1 ≠ vs.length then ({ w with en := 6 }, (0, 0)) else enterW p R w g.1 g.2 vs
  | none => (w, (0, 0))
def classW (w : Wld) (b at' : Nat) : Wld × Val :=
  if (enterW p R w b at' []).1.en ≠ 0 then ((enterW p R w b at' []).1, (0, 0)) else
  ({ (enterW p R w b at' []).1 with classes := (enterW p R w b at' []).1.classes ++ [(enterW p R w b at' []).1.vars (some w.acts.length)] }, (3, ((enterW p R w b at' []).1.classes.length : Int)))
def workW (w : Wld) (at' : Nat) (s : Stm) (vs : List Val) : Wld × Val :=
  if s.kind = 0 then (w, (1, s.a)) else if s.kind = 2 then plusW w (vs.getD 0 (0, 0)) (vs.getD 1 (0, 0))
  else if s.kind = 3 then ({ w with funs := w.funs ++ [(s.a.toNat, at')] }, (2, (w.funs.length : Int)))
  else if s.kind = 4 then classW p R w s.a.toNat at' else if s.kind = 5 then callW p R w (vs.getD 0 (0, 0)) vs.tail
  else if s.kind = 6 then attrW w (vs.getD 0 (0, 0)) s.b else (w, vs.getD 0 (0, 0))
def valueW (w : Wld) (at' : Nat) (s : Stm) : Wld × Val :=
  if (loadsW p w at' s.reads).1.en ≠ 0 then ((loadsW p w at' s.reads).1, (0, 0)) else workW p R (loadsW p w at' s.reads).1 at' s (loadsW p w at' s.reads).2
def stmW (w : Wld) (at' : Nat) (s : Stm) : Wld :=
  if s.kind = 9 ∨ s.kind = 10 then w else if s.kind = 11 then takeW p w at' s.to else
  if (valueW p R w at' s).1.en ≠ 0 then (valueW p R w at' s).1
  else if s.kind = 7 then { (valueW p R w at' s).1 with out := (valueW p R w at' s).1.out ++ [shown (valueW p R w at' s).2] }
  else storeW p (valueW p R w at' s).1 at' s.to (valueW p R w at' s).2
def tickW (w : Wld) (at' i : Nat) : Wld := { w with left := w.left - 1, trace := w.trace ++ [(w.blk at', i)] }
def bodyW (at' : Nat) : Wld → Nat → List Stm → Wld × Val
  | w, _, [] => (w, (0, 0))
  | w, i, s :: l =>
    if w.left = 0 then ({ w with en := 1 }, (0, 0)) else
    if s.kind = 8 then loadW p (tickW w at' i) at' s.a else
    if (stmW p R (tickW w at' i) at' s).en ≠ 0 then (stmW p R (tickW w at' i) at' s, (0, 0)) else bodyW at' (stmW p R (tickW w at' i) at' s) (i + 1) l
end
def runW (p : Prg) : Nat → Wld → Nat → Wld × Val
  | 0, w, _ => (w, (0, 0))
  | n + 1, w, at' => bodyW p (runW p n) at' w 0 (match p[w.blk at']? with | some k => k.body | none => [])
def startW (fuel : Nat) : Wld := ⟨[⟨0, 0, noSlots⟩], [0], noSlots, [], [], [], [], 0, fuel⟩
def meantW (p : Prg) (fuel : Nat) : Wld := (runW p 151 (startW fuel) 0).1
def shownS (l : List Slt) : List Int := l.map fun s => match s with | some v => shown v | none => -9
structure VOk (nf nc : Nat) (v : Val) : Prop where
  num : 0 ≤ v.2 ∧ v.2 ≤ 1000
  fn : v.1 = 2 → v.2 < nf
  cls : v.1 = 3 → v.2 < nc
theorem VOk.zero {nf nc : Nat} : VOk nf nc (0, 0) := ⟨by simp, by simp, by simp⟩
theorem VOk.mono {nf nc nf' nc' : Nat} {v : Val} (h : VOk nf nc v) (h1 : nf ≤ nf') (h2 : nc ≤ nc') : VOk nf' nc' v :=
  ⟨h.num, fun e => by have := h.fn e; omega, fun e => by have := h.cls e; omega⟩
def SOk (nf nc : Nat) (l : List Slt) : Prop := l.length = 8 ∧ ∀ v, some v ∈ l → VOk nf nc v
theorem SOk.mono {nf nc nf' nc' : Nat} {l : List Slt} (h : SOk nf nc l) (h1 : nf ≤ nf') (h2 : nc ≤ nc') : SOk nf' nc' l := ⟨h.1, fun v hv => (h.2 v hv).mono h1 h2⟩
theorem SOk.none {nf nc : Nat} : SOk nf nc noSlots := ⟨by simp, fun v hv => by simp at hv⟩
theorem SOk.set {nf nc : Nat} {l : List Slt} (h : SOk nf nc l) {i : Nat} {s : Slt} (hs : ∀ v, s = some v → VOk nf nc v) : SOk nf nc (l.set i s) := by
  refine ⟨by simp [h.1], fun v hv => ?_⟩
  rcases List.mem_or_eq_of_mem_set hv with e | e
  · exact h.2 v e
  · exact hs v e.symm
theorem SOk.get {nf nc : Nat} {l : List Slt} (h : SOk nf nc l) {i : Nat} {v : Val} (hv : l[i]? = some (some v)) : VOk nf nc v := h.2 v (List.mem_of_getElem? hv)
def madeAt (p : Prg) (acts : List Act) (b i : Nat) : Prop := ∃ c k, acts[i]? = some c ∧ p[b]? = some k ∧ k.parent = c.blk ∧ 0 < b
structure WOk (p : Prg) (w : Wld) : Prop where
  a0 : ∃ a, w.acts[0]? = some a ∧ a.blk = 0
  vars : ∀ (i : Nat) a, w.acts[i]? = some a → SOk w.funs.length w.classes.length a.vars
  blks : ∀ (i : Nat) a, w.acts[i]? = some a → a.blk < p.length
  up : ∀ (i : Nat) a, w.acts[i]? = some a → 0 < i → a.up < i ∧ madeAt p w.acts a.blk a.up
  glob : SOk w.funs.length w.classes.length w.globals
  funs : ∀ (i : Nat) g, w.funs[i]? = some g → madeAt p w.acts g.1 g.2
  cls : ∀ c ∈ w.classes, SOk w.funs.length w.classes.length c
  stk : ∀ i ∈ w.stack, i < w.acts.length
  nacts : w.acts.length + 2 * w.left ≤ 1000
  nfuns : w.funs.length + 2 * w.left ≤ 1000
  ncls : w.classes.length + 2 * w.left ≤ 1000
  nout : w.out.length + 2 * w.left ≤ 1000
  ntr : w.trace.length + w.left ≤ 1000
  nstk : w.stack.length + 2 * w.left ≤ 1000
theorem WOk.en {p : Prg} {w : Wld} (h : WOk p w) {e : Int} : WOk p { w with en := e } := ⟨h.a0, h.vars, h.blks, h.up, h.glob, h.funs, h.cls, h.stk, h.nacts, h.nfuns, h.ncls, h.nout, h.ntr, h.nstk⟩
structure Grow (s : Nat) (w w' : Wld) : Prop where
  acts : ∀ (i : Nat) a, w.acts[i]? = some a → ∃ b, w'.acts[i]? = some b ∧ b.blk = a.blk ∧ b.up = a.up
  funs : w.funs <+: w'.funs
  cls : w.classes <+: w'.classes
  out : w.out <+: w'.out
  tr : w.trace <+: w'.trace
  left : w'.left ≤ w.left
  nacts : w'.acts.length + 2 * w'.left ≤ w.acts.length + 2 * w.left + s
  nfuns : w'.funs.length + 2 * w'.left ≤ w.funs.length + 2 * w.left + s
  ncls : w'.classes.length + 2 * w'.left ≤ w.classes.length + 2 * w.left + s
  nout : w'.out.length + 2 * w'.left ≤ w.out.length + 2 * w.left + s
  ntr : w'.trace.length + w'.left = w.trace.length + w.left
theorem Grow.refl (s : Nat) (w : Wld) : Grow s w w := ⟨fun _ a h => ⟨a, h, rfl, rfl⟩, List.prefix_refl _, List.prefix_refl _, List.prefix_refl _, List.prefix_refl _, Nat.le_refl _, by omega, by omega, by omega, by omega, rfl⟩
theorem Grow.trans {s t u : Nat} {w w' w'' : Wld} (h : Grow s w w') (h' : Grow t w' w'') (hu : s + t ≤ u) : Grow u w w'' := by
  refine ⟨fun i a e => ?_, h.funs.trans h'.funs, h.cls.trans h'.cls, h.out.trans h'.out, h.tr.trans h'.tr, Nat.le_trans h'.left h.left, ?_, ?_, ?_, ?_, h'.ntr.trans h.ntr⟩
  · obtain ⟨b, e1, e2, e3⟩ := h.acts i a e
    obtain ⟨c, f1, f2, f3⟩ := h'.acts i b e1
    exact ⟨c, f1, f2.trans e2, f3.trans e3⟩
  · have := h.nacts; have := h'.nacts; omega
  · have := h.nfuns; have := h'.nfuns; omega
  · have := h.ncls; have := h'.ncls; omega
  · have := h.nout; have := h'.nout; omega
theorem Grow.mono {s t : Nat} {w w' : Wld} (h : Grow s w w') (ht : s ≤ t) : Grow t w w' := h.trans (Grow.refl 0 w') (by omega)
theorem Grow.lacts {s : Nat} {w w' : Wld} (h : Grow s w w') : w.acts.length ≤ w'.acts.length := by
  cases hn : w.acts.length with
  | zero => omega
  | succ n =>
    obtain ⟨a, ha⟩ : ∃ a, w.acts[n]? = some a := ⟨_, gE (by omega)⟩
    obtain ⟨b, hb, _⟩ := h.acts n a ha
    have := (gS hb).1
    omega
theorem Grow.lfuns {s : Nat} {w w' : Wld} (h : Grow s w w') : w.funs.length ≤ w'.funs.length := h.funs.length_le
theorem Grow.lcls {s : Nat} {w w' : Wld} (h : Grow s w w') : w.classes.length ≤ w'.classes.length := h.cls.length_le
theorem Grow.en {s : Nat} {w w' : Wld} (h : Grow s w w') {e : Int} : Grow s w { w' with en := e } := ⟨h.acts, h.funs, h.cls, h.out, h.tr, h.left, h.nacts, h.nfuns, h.ncls, h.nout, h.ntr⟩
theorem Grow.blk {s : Nat} {w w' : Wld} (h : Grow s w w') {i : Nat} {a : Act} (hi : w.acts[i]? = some a) : w'.blk i = w.blk i := by
  obtain ⟨b, hb, e, _⟩ := h.acts i a hi
  simp only [Wld.blk, hi, hb, e]
theorem madeAt.grow {p : Prg} {s b i : Nat} {w w' : Wld} (h : madeAt p w.acts b i) (hg : Grow s w w') : madeAt p w'.acts b i := by
  obtain ⟨c, k, h1, h2, h3, h4⟩ := h
  obtain ⟨d, e1, e2, _⟩ := hg.acts i c h1
  exact ⟨d, k, e1, h2, by rw [e2]; exact h3, h4⟩
theorem blk_at {w : Wld} {i : Nat} {a : Act} (h : w.acts[i]? = some a) : w.blk i = a.blk := by simp only [Wld.blk, h]
theorem inside_up {p : Prg} {w : Wld} {o a : Nat} {c : Act} (hh : Heads p) (h : WOk p w) (hc : w.acts[a]? = some c) (hne : c.blk ≠ o) (ho : 0 < o) (hi : inside p (w.blk a) o = true) : 0 < a ∧ c.up < a ∧ inside p (w.blk c.up) o = true := by
  rw [blk_at hc] at hi
  have h0 : 0 < a := by
    cases a with
    | zero =>
      obtain ⟨a0, ha, hb⟩ := h.a0
      rw [ha] at hc
      obtain rfl := Option.some.inj hc
      rw [hb, inside_end (by omega)] at hi
      simp at hi
      omega
    | succ a => omega
  obtain ⟨hu, q, k, e1, e2, e3, e4⟩ := h.up _ c hc h0
  refine ⟨h0, hu, ?_⟩
  have hlt : o < c.blk := by
    rcases Nat.lt_or_ge o c.blk with e | e
    · exact e
    · rw [inside_end (by omega)] at hi
      simp at hi
      omega
  rw [blk_at e1, ← e3, ← inside_step hh (by omega) e2 (by omega)]
  exact hi
theorem climb_fuel {p : Prg} {w : Wld} {o : Nat} (hh : Heads p) (h : WOk p w) (ho : 0 < o) : ∀ (n m a : Nat), a ≤ n → a ≤ m → a < w.acts.length → inside p (w.blk a) o = true → climb w.acts o n a = climb w.acts o m a
  | 0, 0, _, _, _, _, _ => rfl
  | 0, m + 1, a, h1, _, hl, hi => by
    obtain rfl : a = 0 := by omega
    obtain ⟨c, hc⟩ : ∃ c, w.acts[0]? = some c := ⟨_, gE hl⟩
    by_cases e : c.blk = o
    · simp [climb, hc, e]
    · have := (inside_up hh h hc e ho hi).1
      omega
  | n + 1, 0, a, _, h2, hl, hi => by
    obtain rfl : a = 0 := by omega
    obtain ⟨c, hc⟩ : ∃ c, w.acts[0]? = some c := ⟨_, gE hl⟩
    by_cases e : c.blk = o
    · simp [climb, hc, e]
    · have := (inside_up hh h hc e ho hi).1
      omega
  | n + 1, m + 1, a, h1, h2, hl, hi => by
    obtain ⟨c, hc⟩ : ∃ c, w.acts[a]? = some c := ⟨_, gE hl⟩
    by_cases e : c.blk = o
    · simp [climb, hc, e]
    · obtain ⟨e1, e2, e3⟩ := inside_up hh h hc e ho hi
      simp only [climb, hc, e, if_false]
      exact climb_fuel hh h ho n m c.up (by omega) (by omega) (by omega) e3
theorem climb_here {acts : List Act} {o a : Nat} {c : Act} (hc : acts[a]? = some c) (e : c.blk = o) : ∀ n, climb acts o n a = a
  | 0 => rfl
  | n + 1 => by simp [climb, hc, e]
theorem climb_up {p : Prg} {w : Wld} {o a : Nat} {c : Act} (hh : Heads p) (h : WOk p w) (ho : 0 < o) (hc : w.acts[a]? = some c) (hne : c.blk ≠ o) (hi : inside p (w.blk a) o = true) : climb w.acts o a a = climb w.acts o c.up c.up := by
  obtain ⟨e1, e2, e3⟩ := inside_up hh h hc hne ho hi
  have hl := (gS hc).1
  obtain ⟨b, rfl⟩ : ∃ b, a = b + 1 := ⟨a - 1, by omega⟩
  simp only [climb, hc, hne, if_false]
  exact climb_fuel hh h ho b c.up c.up (by omega) (by omega) (by omega) e3
theorem climb_at {p : Prg} {w : Wld} {o : Nat} (hh : Heads p) (h : WOk p w) (ho : 0 < o) : ∀ (n a : Nat), a ≤ n → a < w.acts.length → inside p (w.blk a) o = true → ∃ c, w.acts[climb w.acts o a a]? = some c ∧ c.blk = o
  | n, a, h1, hl, hi => by
    obtain ⟨c, hc⟩ : ∃ c, w.acts[a]? = some c := ⟨_, gE hl⟩
    by_cases e : c.blk = o
    · exact ⟨c, by rw [climb_here hc e]; exact hc, e⟩
    · obtain ⟨e1, e2, e3⟩ := inside_up hh h hc e ho hi
      rw [climb_up hh h ho hc e hi]
      match n with
      | 0 => omega
      | n + 1 => exact climb_at hh h ho n c.up (by omega) (by omega) e3
theorem outerF_inside {p : Prg} {x : Int} {o : Nat} (hh : Heads p) (ho : 0 < o) : ∀ (n : Nat) (j : Int), outerF p x n j = o → inside p j o = true
  | 0, j, h => by simp only [outerF] at h; omega
  | n + 1, j, h => by
    have hle := outerF_le (p := p) (x := x) hh (n + 1) j
    rw [h] at hle
    by_cases e : j = o
    · rw [inside_end (by omega)]
      simpa using e
    simp only [outerF] at h
    split at h
    · omega
    · rename_i hj
      split at h
      · omega
      · rename_i q hq
        have hs := inside_step (b := o) hh (by omega) hq (by omega)
        rw [show ((j.toNat : Nat) : Int) = j from by omega] at hs
        rw [hs]
        split at h
        · exact outerF_inside hh ho n _ h
        · split at h
          · omega
          · split at h
            · exact absurd h e
            · exact outerF_inside hh ho n _ h
theorem owner_inside {p : Prg} {b o : Nat} {x : Int} (hh : Heads p) (ho : 0 < o) (h : owner p b x = o) : inside p b o = true := by
  by_cases e : b = o
  · rw [inside_end (by omega)]
    simp [e]
  unfold owner at h
  cases hk : p[b]? with
  | none => rw [hk] at h; simp at h
  | some k =>
    rw [hk] at h
    simp only at h
    split at h
    · omega
    · split at h
      · omega
      · simp only [outer, hk] at h
        have hle := outerF_le (p := p) (x := x) hh b k.parent
        have hb := (hh b k hk).2.1
        rw [inside_step hh (by omega) hk (by omega)]
        exact outerF_inside hh ho _ _ h
theorem loc_spec {p : Prg} {w : Wld} {a : Nat} {x : Int} (hh : Heads p) (h : WOk p w) (ha : a < w.acts.length) :
    (owner p (w.blk a) x = -1 ∧ w.loc p a x = none) ∨ ∃ (o i : Nat) (c : Act), 0 < o ∧ owner p (w.blk a) x = o ∧ w.loc p a x = some i ∧ i = climb w.acts o a a ∧ w.acts[i]? = some c ∧ c.blk = o ∧ inside p (w.blk a) o = true := by
  rcases owner_pos (p := p) (c := w.blk a) (x := x) with e | e
  · exact .inl ⟨e, by simp [Wld.loc, e]⟩
  · obtain ⟨o, ho⟩ : ∃ o : Nat, owner p (w.blk a) x = o := ⟨(owner p (w.blk a) x).toNat, by omega⟩
    have ho0 : 0 < o := by omega
    have hi := owner_inside hh ho0 ho
    obtain ⟨c, hc, hb⟩ := climb_at hh h ho0 a a (Nat.le_refl _) ha hi
    refine .inr ⟨o, _, c, ho0, ho, ?_, rfl, hc, hb, hi⟩
    have : ¬ (o : Int) < 0 := by omega
    simp [Wld.loc, ho, this]
theorem loc_lt {p : Prg} {w : Wld} {a : Nat} {x : Int} (hh : Heads p) (h : WOk p w) (ha : a < w.acts.length) : ∀ i, w.loc p a x = some i → i < w.acts.length := by
  intro i hi
  rcases loc_spec (x := x) hh h ha with ⟨_, h2⟩ | ⟨o, j, c, _, _, h3, _, h4, _⟩
  · rw [h2] at hi; cases hi
  · rw [h3] at hi
    obtain rfl := Option.some.inj hi
    exact (gS h4).1
theorem WOk.vars_of {p : Prg} {w : Wld} (h : WOk p w) {l : Option Nat} (hl : ∀ i, l = some i → i < w.acts.length) : SOk w.funs.length w.classes.length (w.vars l) := by
  cases l with
  | none => exact h.glob
  | some i =>
    obtain ⟨c, hc⟩ : ∃ c, w.acts[i]? = some c := ⟨_, gE (hl i rfl)⟩
    simp only [Wld.vars, hc]
    exact h.vars i c hc
theorem get_eq {w : Wld} {l : Option Nat} {x : Int} {v : Val} (h : w.get l x = some v) : (w.vars l)[x.toNat]? = some (some v) := by
  unfold Wld.get at h
  split at h
  · rename_i s hs
    rw [hs, h]
  · cases h
theorem WOk.get {p : Prg} {w : Wld} (h : WOk p w) {l : Option Nat} {x : Int} {v : Val} (hv : w.get l x = some v) : VOk w.funs.length w.classes.length v := by
  have hv := get_eq hv
  cases l with
  | none => exact h.glob.get hv
  | some i =>
    simp only [Wld.vars] at hv
    split at hv
    · rename_i c hc
      exact (h.vars i c hc).get hv
    · simp at hv
theorem set_acts {w : Wld} {l : Option Nat} {x : Int} {s : Slt} {i : Nat} {a : Act} (h : (w.set l x s).acts[i]? = some a) : ∃ b, w.acts[i]? = some b ∧ b.blk = a.blk ∧ b.up = a.up ∧ (a.vars = b.vars ∨ a.vars = b.vars.set x.toNat s) := by
  cases l with
  | none => exact ⟨a, h, rfl, rfl, .inl rfl⟩
  | some j =>
    simp only [Wld.set, List.getElem?_modify] at h
    obtain ⟨b, hb, e⟩ := Option.map_eq_some_iff.1 h
    refine ⟨b, hb, ?_⟩
    split at e
    · subst e; exact ⟨rfl, rfl, .inr rfl⟩
    · subst e; exact ⟨rfl, rfl, .inl rfl⟩
theorem acts_set {w : Wld} {l : Option Nat} {x : Int} {s : Slt} {i : Nat} {a : Act} (h : w.acts[i]? = some a) : ∃ b, (w.set l x s).acts[i]? = some b ∧ b.blk = a.blk ∧ b.up = a.up := by
  cases l with
  | none => exact ⟨a, h, rfl, rfl⟩
  | some j =>
    simp only [Wld.set, List.getElem?_modify, h, Option.map_some]
    split <;> exact ⟨_, rfl, rfl, rfl⟩
theorem set_len {w : Wld} {l : Option Nat} {x : Int} {s : Slt} : (w.set l x s).acts.length = w.acts.length := by
  cases l <;> simp [Wld.set]
theorem set_same {w : Wld} {l : Option Nat} {x : Int} {s : Slt} : (w.set l x s).funs = w.funs ∧ (w.set l x s).classes = w.classes ∧ (w.set l x s).out = w.out ∧ (w.set l x s).trace = w.trace ∧ (w.set l x s).left = w.left ∧ (w.set l x s).stack = w.stack ∧ (w.set l x s).en = w.en := by
  cases l <;> exact ⟨rfl, rfl, rfl, rfl, rfl, rfl, rfl⟩
theorem set_grow {w : Wld} {l : Option Nat} {x : Int} {s : Slt} : Grow 0 w (w.set l x s) := by
  obtain ⟨e1, e2, e3, e4, e5, e6, _⟩ := set_same (w := w) (l := l) (x := x) (s := s)
  refine ⟨fun i a h => acts_set h, by rw [e1]; exact List.prefix_refl _, by rw [e2]; exact List.prefix_refl _, by rw [e3]; exact List.prefix_refl _, by rw [e4]; exact List.prefix_refl _, by rw [e5]; exact Nat.le_refl _, by rw [e5, set_len]; omega, by rw [e5, e1]; omega, by rw [e5, e2]; omega, by rw [e5, e3]; omega, by rw [e5, e4]⟩
theorem WOk.set {p : Prg} {w : Wld} (h : WOk p w) {l : Option Nat} {x : Int} {s : Slt} (hs : ∀ v, s = some v → VOk w.funs.length w.classes.length v) : WOk p (w.set l x s) := by
  obtain ⟨e1, e2, e3, e4, e5, e6, _⟩ := set_same (w := w) (l := l) (x := x) (s := s)
  have hg : Grow 0 w (w.set l x s) := set_grow
  refine ⟨?_, fun i a ha => ?_, fun i a ha => ?_, fun i a ha hi => ?_, ?_, fun i g hi => ?_, fun c hc => ?_, fun i hi => ?_, by rw [set_len, e5]; exact h.nacts, by rw [e1, e5]; exact h.nfuns, by rw [e2, e5]; exact h.ncls, by rw [e3, e5]; exact h.nout, by rw [e4, e5]; exact h.ntr, by rw [e6, e5]; exact h.nstk⟩
  · obtain ⟨a, ha, hb⟩ := h.a0
    obtain ⟨b, f1, f2, _⟩ := acts_set (l := l) (x := x) (s := s) ha
    exact ⟨b, f1, f2.trans hb⟩
  · obtain ⟨b, f1, f2, f3, f4⟩ := set_acts ha
    rw [e1, e2]
    rcases f4 with f4 | f4
    · rw [f4]; exact h.vars i b f1
    · rw [f4]; exact (h.vars i b f1).set hs
  · obtain ⟨b, f1, f2, f3, f4⟩ := set_acts ha
    rw [← f2]; exact h.blks i b f1
  · obtain ⟨b, f1, f2, f3, f4⟩ := set_acts ha
    obtain ⟨g1, g2⟩ := h.up i b f1 hi
    rw [← f3, ← f2]
    exact ⟨g1, g2.grow hg⟩
  · rw [e1, e2]
    cases l with
    | none => exact h.glob.set hs
    | some j => exact h.glob
  · rw [e1] at hi
    exact (h.funs i g hi).grow hg
  · rw [e2] at hc
    rw [e1, e2]
    exact h.cls c hc
  · rw [e6] at hi
    rw [set_len]
    exact h.stk i hi
structure Aft (p : Prg) (s : Nat) (w w' : Wld) : Prop where
  ok : WOk p w'
  grow : Grow s w w'
  stk : w'.en = 0 → w'.stack = w.stack
theorem Aft.refl {p : Prg} {s : Nat} {w : Wld} (h : WOk p w) : Aft p s w w := ⟨h, .refl s w, fun _ => rfl⟩
theorem Aft.en {p : Prg} {s : Nat} {w w' : Wld} (h : Aft p s w w') {e : Int} (he : e ≠ 0) : Aft p s w { w' with en := e } := ⟨h.ok.en, h.grow.en, fun h => absurd h he⟩
theorem Aft.trans {p : Prg} {s t u : Nat} {w w' w'' : Wld} (h : Aft p s w w') (h' : Aft p t w' w'') (h0 : w''.en = 0 → w'.en = 0) (hu : s + t ≤ u) : Aft p u w w'' := ⟨h'.ok, h.grow.trans h'.grow hu, fun e => (h'.stk e).trans (h.stk (h0 e))⟩
theorem Aft.mono {p : Prg} {s t : Nat} {w w' : Wld} (h : Aft p s w w') (hst : s ≤ t) : Aft p t w w' := ⟨h.ok, h.grow.mono hst, h.stk⟩
theorem lack_ne {p : Prg} {b : Nat} {o : Int} : lack p b o ≠ 0 := by unfold lack; (repeat' split) <;> decide
theorem loadW_ok {p : Prg} {w : Wld} {a : Nat} {x : Int} (h : WOk p w) : Aft p 0 w (loadW p w a x).1 ∧ VOk w.funs.length w.classes.length (loadW p w a x).2 ∧ ((loadW p w a x).1 = w ∨ ∃ e, e ≠ 0 ∧ (loadW p w a x).1 = { w with en := e }) := by
  unfold loadW
  split
  · rename_i v hv
    exact ⟨.refl h, h.get hv, .inl rfl⟩
  · split
    · split
      · rename_i v hv
        exact ⟨.refl h, h.get hv, .inl rfl⟩
      · split
        · exact ⟨.refl h, ⟨by simp, by simp, by simp⟩, .inl rfl⟩
        · exact ⟨(Aft.refl h).en (by decide), .zero, .inr ⟨_, by decide, rfl⟩⟩
    · exact ⟨(Aft.refl h).en lack_ne, .zero, .inr ⟨_, lack_ne, rfl⟩⟩
theorem loadsW_ok {p : Prg} {a : Nat} : ∀ {l : List Int} {w : Wld}, WOk p w → Aft p 0 w (loadsW p w a l).1 ∧ (∀ v ∈ (loadsW p w a l).2, VOk w.funs.length w.classes.length v) ∧ ((loadsW p w a l).1 = w ∨ ∃ e, e ≠ 0 ∧ (loadsW p w a l).1 = { w with en := e }) ∧ ((loadsW p w a l).1.en = 0 → (loadsW p w a l).2.length = l.length) ∧ (loadsW p w a l).2.length ≤ l.length
  | [], w, h => ⟨.refl h, fun v hv => by simp [loadsW] at hv, .inl rfl, fun _ => rfl, Nat.le_refl _⟩
  | x :: l, w, h => by
    simp only [loadsW]
    split
    · rename_i he
      exact ⟨.refl h, fun v hv => by simp at hv, .inl rfl, fun e => absurd e he, by simp⟩
    · rename_i he
      obtain ⟨h1, h2, h3⟩ := loadW_ok (a := a) (x := x) h
      rcases h3 with h3 | ⟨e, he, h3⟩
      · rw [h3]
        obtain ⟨i1, i2, i3, i4, i5⟩ := loadsW_ok (a := a) (l := l) h
        refine ⟨i1, fun v hv => ?_, i3, fun e => by simp [i4 e], by simp [i5]⟩
        rcases List.mem_cons.1 hv with e | e
        · subst e; exact h2
        · exact i2 v e
      · rw [h3]
        have hen : loadsW p { w with en := e } a l = ({ w with en := e }, []) := by
          cases l with
          | nil => rfl
          | cons y l => simp [loadsW, he]
        rw [hen]
        refine ⟨(Aft.refl h).en he, fun v hv => ?_, .inr ⟨e, he, rfl⟩, fun e' => absurd e' he, by simp⟩
        simp at hv
        subst hv
        exact h2
theorem storeW_ok {p : Prg} {w : Wld} {a : Nat} {x : Int} {v : Val} (h : WOk p w) (hv : VOk w.funs.length w.classes.length v) : Aft p 0 w (storeW p w a x v) :=
  ⟨h.set fun u e => by obtain rfl := Option.some.inj e; exact hv, set_grow, fun _ => set_same.2.2.2.2.2.1⟩
theorem takeW_ok {p : Prg} {w : Wld} {a : Nat} {x : Int} (h : WOk p w) : Aft p 0 w (takeW p w a x) := by
  unfold takeW
  split
  · exact ⟨h.set fun u e => (by cases e), set_grow, fun _ => set_same.2.2.2.2.2.1⟩
  · exact (Aft.refl h).en lack_ne
theorem plusW_ok {p : Prg} {w : Wld} {a b : Val} (h : WOk p w) (ha : VOk w.funs.length w.classes.length a) (hb : VOk w.funs.length w.classes.length b) : Aft p 0 w (plusW w a b).1 ∧ VOk (plusW w a b).1.funs.length (plusW w a b).1.classes.length (plusW w a b).2 := by
  unfold plusW
  split
  · exact ⟨(Aft.refl h).en (by decide), .zero⟩
  · refine ⟨.refl h, ⟨?_, by simp, by simp⟩⟩
    have := ha.num
    have := hb.num
    simp only
    rw [Int.tmod_eq_emod_of_nonneg (by omega)]
    omega
theorem attrW_ok {p : Prg} {w : Wld} {v : Val} {x : Int} (h : WOk p w) : Aft p 0 w (attrW w v x).1 ∧ VOk (attrW w v x).1.funs.length (attrW w v x).1.classes.length (attrW w v x).2 := by
  unfold attrW
  split
  · exact ⟨(Aft.refl h).en (by decide), .zero⟩
  · split
    · rename_i c hc
      split
      · rename_i u hu
        exact ⟨.refl h, (h.cls c (List.mem_of_getElem? hc)).get hu⟩
      · exact ⟨(Aft.refl h).en (by decide), .zero⟩
    · exact ⟨(Aft.refl h).en (by decide), .zero⟩
structure Room (k : Nat) (w : Wld) : Prop where
  acts : w.acts.length + k + 2 * w.left ≤ 1000
  funs : w.funs.length + k + 2 * w.left ≤ 1000
  cls : w.classes.length + k + 2 * w.left ≤ 1000
  out : w.out.length + k + 2 * w.left ≤ 1000
  stk : w.stack.length + k + 2 * w.left ≤ 1000
theorem Room.mono {k k' : Nat} {w : Wld} (h : Room k w) (hk : k' ≤ k) : Room k' w := by
  obtain ⟨h1, h2, h3, h4, h5⟩ := h
  exact ⟨by omega, by omega, by omega, by omega, by omega⟩
theorem Aft.room {p : Prg} {s k k' : Nat} {w w' : Wld} (h : Aft p s w w') (hr : Room k w) (h0 : w'.en = 0) (hk : k' + s ≤ k) : Room k' w' := by
  obtain ⟨h1, h2, h3, h4, h5⟩ := hr
  have g := h.grow
  have e := h.stk h0
  have := g.left
  exact ⟨by have := g.nacts; omega, by have := g.nfuns; omega, by have := g.ncls; omega, by have := g.nout; omega, by rw [e]; omega⟩
def RunOk (p : Prg) (n : Nat) (R : Wld → Nat → Wld × Val) : Prop := ∀ (w : Wld) (a : Nat), WOk p w → w.left < n → a < w.acts.length → w.en = 0 → Aft p 0 w (R w a).1 ∧ VOk (R w a).1.funs.length (R w a).1.classes.length (R w a).2
theorem bindP_ok {nf nc : Nat} {ps : List Int} {vs : List Val} (h : ∀ v ∈ vs, VOk nf nc v) : SOk nf nc (bindP ps vs) := by
  unfold bindP
  have key : ∀ (l : List (Int × Val)) (s : List Slt), (∀ q ∈ l, VOk nf nc q.2) → SOk nf nc s → SOk nf nc (l.foldl (fun l q => l.set q.1.toNat (some q.2)) s) := by
    intro l
    induction l with
    | nil => exact fun s _ h => h
    | cons q l ih => exact fun s hl hs => ih _ (fun q' h' => hl q' (List.mem_cons_of_mem _ h')) (hs.set fun v e => by obtain rfl := Option.some.inj e; exact hl q List.mem_cons_self)
  exact key _ _ (fun q hq => h q.2 (List.of_mem_zip hq).2) .none
theorem beginW_ok {p : Prg} {w : Wld} {b up : Nat} {vs : List Val} (h : WOk p w) (hm : madeAt p w.acts b up) (hv : ∀ v ∈ vs, VOk w.funs.length w.classes.length v) (hr : Room 1 w) : WOk p (beginW p w b up vs) ∧ Grow 1 w (beginW p w b up vs) := by
  have hg : Grow 1 w (beginW p w b up vs) := by
    refine ⟨fun i a ha => ⟨a, ?_, rfl, rfl⟩, List.prefix_refl _, List.prefix_refl _, List.prefix_refl _, List.prefix_refl _, Nat.le_refl _, ?_, by simp [beginW], by simp [beginW], by simp [beginW], rfl⟩
    · have := (gS ha).1
      simp only [beginW]
      rw [List.getElem?_append_left this]
      exact ha
    · simp [beginW]
      omega
  refine ⟨?_, hg⟩
  have hmade := hm.grow hg
  obtain ⟨c, k, m1, m2, m3, m4⟩ := hm
  have hul := (gS m1).1
  have hbl := (gS m2).1
  have split' : ∀ (i : Nat) (a : Act), (beginW p w b up vs).acts[i]? = some a → w.acts[i]? = some a ∨ (i = w.acts.length ∧ a.blk = b ∧ a.up = up ∧ SOk w.funs.length w.classes.length a.vars) := by
    intro i a ha
    simp only [beginW] at ha
    rcases Nat.lt_or_ge i w.acts.length with hlt | hge
    · rw [List.getElem?_append_left hlt] at ha
      exact .inl ha
    · rw [List.getElem?_append_right hge] at ha
      have : i = w.acts.length := by
        have := (gS ha).1
        simp at this
        omega
      subst this
      simp at ha
      subst ha
      exact .inr ⟨rfl, rfl, rfl, bindP_ok hv⟩
  refine ⟨?_, fun i a ha => ?_, fun i a ha => ?_, fun i a ha hi => ?_, h.glob, fun i g hg' => (h.funs i g hg').grow hg, h.cls, fun i hi => ?_, by simpa [beginW] using hr.acts, h.nfuns, h.ncls, h.nout, h.ntr, by simpa [beginW] using hr.stk⟩
  · obtain ⟨a, ha, hb⟩ := h.a0
    obtain ⟨b, e1, e2, _⟩ := hg.acts 0 a ha
    exact ⟨b, e1, e2.trans hb⟩
  · rcases split' i a ha with e | ⟨_, _, _, e⟩
    · exact h.vars i a e
    · exact e
  · rcases split' i a ha with e | ⟨_, e, _, _⟩
    · exact h.blks i a e
    · rw [e]; exact hbl
  · rcases split' i a ha with e | ⟨e1, e2, e3, _⟩
    · obtain ⟨x1, x2⟩ := h.up i a e hi
      exact ⟨x1, x2.grow hg⟩
    · rw [e2, e3]
      exact ⟨by omega, hmade⟩
  · simp only [beginW, List.mem_append, List.mem_singleton] at hi
    simp only [beginW, List.length_append, List.length_singleton]
    rcases hi with e | e
    · have := h.stk i e; omega
    · omega
theorem enterW_ok {p : Prg} {n : Nat} {R : Wld → Nat → Wld × Val} (hR : RunOk p n R) {w : Wld} {b up : Nat} {vs : List Val} (h : WOk p w) (hn : w.left < n) (h0 : w.en = 0) (hm : madeAt p w.acts b up) (hv : ∀ v ∈ vs, VOk w.funs.length w.classes.length v) (hr : Room 1 w) :
    Aft p 1 w (enterW p R w b up vs).1 ∧ VOk (enterW p R w b up vs).1.funs.length (enterW p R w b up vs).1.classes.length (enterW p R w b up vs).2 := by
  obtain ⟨h1, h2⟩ := beginW_ok h hm hv hr
  obtain ⟨⟨r1, r2, r3⟩, r4⟩ := hR (beginW p w b up vs) w.acts.length h1 hn (by simp [beginW]) h0
  unfold enterW endW
  split
  · rename_i he
    refine ⟨⟨⟨r1.a0, r1.vars, r1.blks, r1.up, r1.glob, r1.funs, r1.cls, fun i hi => r1.stk i (List.dropLast_subset _ hi), r1.nacts, r1.nfuns, r1.ncls, r1.nout, r1.ntr, ?_⟩, ?_, fun _ => ?_⟩, r4⟩
    · have := r1.nstk
      simp only [List.length_dropLast]
      omega
    · have hg := h2.trans r2 (Nat.le_refl _)
      exact ⟨hg.acts, hg.funs, hg.cls, hg.out, hg.tr, hg.left, hg.nacts, hg.nfuns, hg.ncls, hg.nout, hg.ntr⟩
    · simp only [r3 he]
      simp [beginW]
  · rename_i he
    exact ⟨⟨r1, h2.trans r2 (Nat.le_refl _), fun e => absurd e he⟩, r4⟩
theorem callW_ok {p : Prg} {n : Nat} {R : Wld → Nat → Wld × Val} (hR : RunOk p n R) {w : Wld} {f : Val} {vs : List Val} (h : WOk p w) (hn : w.left < n) (h0 : w.en = 0) (hv : ∀ v ∈ vs, VOk w.funs.length w.classes.length v) (hr : Room 1 w) :
    Aft p 1 w (callW p R w f vs).1 ∧ VOk (callW p R w f vs).1.funs.length (callW p R w f vs).1.classes.length (callW p R w f vs).2 := by
  unfold callW
  split
  · exact ⟨(Aft.refl h).en (by decide), .zero⟩
  · split
    · rename_i g hg
      split
      · exact ⟨(Aft.refl h).en (by decide), .zero⟩
      · exact enterW_ok hR h hn h0 (h.funs _ g hg) hv hr
    · exact ⟨.refl h, .zero⟩
theorem WOk.addCls {p : Prg} {w : Wld} (h : WOk p w) {c : List Slt} (hc : SOk w.funs.length w.classes.length c) (hl : w.classes.length + 1 + 2 * w.left ≤ 1000) : WOk p { w with classes := w.classes ++ [c] } := by
  have hm : ∀ {l : List Slt}, SOk w.funs.length w.classes.length l → SOk w.funs.length (w.classes ++ [c]).length l := fun h => h.mono (Nat.le_refl _) (by simp)
  refine ⟨h.a0, fun i a ha => hm (h.vars i a ha), h.blks, h.up, hm h.glob, h.funs, fun d hd => ?_, h.stk, h.nacts, h.nfuns, by simpa using hl, h.nout, h.ntr, h.nstk⟩
  rcases List.mem_append.1 hd with e | e
  · exact hm (h.cls d e)
  · simp at e; subst e; exact hm hc
theorem WOk.addFun {p : Prg} {w : Wld} (h : WOk p w) {b i : Nat} (hm : madeAt p w.acts b i) (hl : w.funs.length + 1 + 2 * w.left ≤ 1000) : WOk p { w with funs := w.funs ++ [(b, i)] } := by
  have hs : ∀ {l : List Slt}, SOk w.funs.length w.classes.length l → SOk (w.funs ++ [(b, i)]).length w.classes.length l := fun h => h.mono (by simp) (Nat.le_refl _)
  refine ⟨h.a0, fun i a ha => hs (h.vars i a ha), h.blks, h.up, hs h.glob, fun j g hg => ?_, fun c hc => hs (h.cls c hc), h.stk, h.nacts, by simpa using hl, h.ncls, h.nout, h.ntr, h.nstk⟩
  rcases List.mem_append.1 (List.mem_of_getElem? hg) with e | e
  · obtain ⟨j', hj'⟩ := List.getElem?_of_mem e
    exact h.funs j' g hj'
  · simp at e; subst e; exact hm
theorem classW_ok {p : Prg} {n : Nat} {R : Wld → Nat → Wld × Val} (hR : RunOk p n R) {w : Wld} {b a : Nat} (h : WOk p w) (hn : w.left < n) (h0 : w.en = 0) (hm : madeAt p w.acts b a) (hr : Room 2 w) :
    Aft p 2 w (classW p R w b a).1 ∧ VOk (classW p R w b a).1.funs.length (classW p R w b a).1.classes.length (classW p R w b a).2 := by
  obtain ⟨⟨h1, h2, h3⟩, _⟩ := enterW_ok (vs := []) hR h hn h0 hm (fun v hv => by simp at hv) (hr.mono (by omega))
  have hlen : w.acts.length < (enterW p R w b a []).1.acts.length := by
    obtain ⟨g1, g2⟩ := beginW_ok (vs := []) h hm (fun v hv => by simp at hv) (hr.mono (by omega))
    obtain ⟨⟨_, r2, _⟩, _⟩ := hR (beginW p w b a []) w.acts.length g1 hn (by simp [beginW]) h0
    have := r2.lacts
    unfold enterW endW
    split <;> simp [beginW] at this ⊢ <;> omega
  unfold classW
  split
  · rename_i he
    exact ⟨⟨h1, h2.mono (by omega), h3⟩, .zero⟩
  · rename_i he
    have he' : (enterW p R w b a []).1.en = 0 := by simpa using he
    have hr1 := (Aft.mk h1 h2 h3).room hr he' (k' := 1) (by omega)
    have hok := h1.addCls (c := (enterW p R w b a []).1.vars (some w.acts.length)) (h1.vars_of fun i e => by obtain rfl := Option.some.inj e; exact hlen) hr1.cls
    refine ⟨⟨hok, ?_, fun e => h3 e⟩, ?_⟩
    · refine ⟨h2.acts, h2.funs, h2.cls.trans (List.prefix_append _ _), h2.out, h2.tr, h2.left, by have := h2.nacts; simp only; omega, by have := h2.nfuns; simp only; omega, by have := h2.ncls; simp only [List.length_append, List.length_singleton]; omega, by have := h2.nout; simp only; omega, h2.ntr⟩
    · have := hr1.cls
      exact ⟨by simp only; omega, by simp, fun _ => by simp only [List.length_append, List.length_singleton]; omega⟩
theorem StmOk.made {p : Prg} {b : Nat} {k : Blk} {s : Stm} (h : StmOk p b k s = true) (hk : s.kind = 3 ∨ s.kind = 4) : ∃ q, p[s.a.toNat]? = some q ∧ q.parent = b ∧ 0 < s.a ∧ q.kind = s.kind - 2 := by
  have key : ∀ d, madeAs p b s.a d = true → ∃ q, p[s.a.toNat]? = some q ∧ q.parent = b ∧ 0 < s.a ∧ q.kind = d := by
    intro d hm
    simp only [madeAs, Bool.and_eq_true, decide_eq_true_eq] at hm
    obtain ⟨⟨h1, h2⟩, h3⟩ := hm
    split at h3
    · rename_i q hq
      simp only [Bool.and_eq_true, beq_iff_eq] at h3
      exact ⟨q, hq, h3.2, by omega, h3.1⟩
    · cases h3
  rcases hk with e | e
  · simp only [StmOk, e] at h
    simp at h
    obtain ⟨q, h1, h2, h3, h4⟩ := key 1 h.2.2
    exact ⟨q, h1, h2, h3, by rw [h4, e]; rfl⟩
  · simp only [StmOk, e] at h
    simp at h
    obtain ⟨q, h1, h2, h3, h4⟩ := key 2 h.2.2
    exact ⟨q, h1, h2, h3, by rw [h4, e]; rfl⟩
theorem StmOk.num {p : Prg} {b : Nat} {k : Blk} {s : Stm} (h : StmOk p b k s = true) (hk : s.kind = 0) : 0 ≤ s.a ∧ s.a ≤ 99 := by
  simp only [StmOk, hk] at h
  simp at h
  omega
theorem getD_ok {nf nc : Nat} {vs : List Val} (h : ∀ v ∈ vs, VOk nf nc v) (i : Nat) : VOk nf nc (vs.getD i (0, 0)) := by
  rw [List.getD_eq_getElem?_getD]
  cases hi : vs[i]? with
  | none => exact .zero
  | some v => exact h v (List.mem_of_getElem? hi)
theorem workW_ok {p : Prg} {n : Nat} {R : Wld → Nat → Wld × Val} (hR : RunOk p n R) {w : Wld} {a : Nat} {k : Blk} {s : Stm} {vs : List Val} (h : WOk p w) (hn : w.left < n) (h0 : w.en = 0) (ha : a < w.acts.length) (hs : StmOk p (w.blk a) k s = true) (hv : ∀ v ∈ vs, VOk w.funs.length w.classes.length v) (hr : Room 2 w) :
    Aft p 2 w (workW p R w a s vs).1 ∧ VOk (workW p R w a s vs).1.funs.length (workW p R w a s vs).1.classes.length (workW p R w a s vs).2 := by
  obtain ⟨c, hc⟩ : ∃ c, w.acts[a]? = some c := ⟨_, gE ha⟩
  have hmade : s.kind = 3 ∨ s.kind = 4 → madeAt p w.acts s.a.toNat a := fun e => by
    obtain ⟨q, h1, h2, h3, _⟩ := StmOk.made hs e
    exact ⟨c, q, hc, h1, by rw [h2, blk_at hc], by omega⟩
  unfold workW
  split
  · rename_i e
    have := StmOk.num hs e
    exact ⟨.refl h, ⟨by simp only; omega, by simp, by simp⟩⟩
  · split
    · obtain ⟨h1, h2⟩ := plusW_ok h (getD_ok hv 0) (getD_ok hv 1)
      exact ⟨h1.mono (by omega), h2⟩
    · split
      · rename_i e
        have hl := hr.funs
        refine ⟨⟨h.addFun (hmade (.inl e)) (by omega), ?_, fun _ => rfl⟩, ⟨by simp only; omega, fun _ => by simp only [List.length_append, List.length_singleton]; omega, by simp⟩⟩
        exact ⟨fun _ a h => ⟨a, h, rfl, rfl⟩, List.prefix_append _ _, List.prefix_refl _, List.prefix_refl _, List.prefix_refl _, Nat.le_refl _, by simp only; omega, by simp only [List.length_append, List.length_singleton]; omega, by simp only; omega, by simp only; omega, rfl⟩
      · split
        · rename_i e
          exact classW_ok hR h hn h0 (hmade (.inr e)) hr
        · split
          · obtain ⟨h1, h2⟩ := callW_ok (f := vs.getD 0 (0, 0)) (vs := vs.tail) hR h hn h0 (fun v hv' => hv v (List.mem_of_mem_tail hv')) (hr.mono (by omega))
            exact ⟨h1.mono (by omega), h2⟩
          · split
            · obtain ⟨h1, h2⟩ := attrW_ok (v := vs.getD 0 (0, 0)) (x := s.b) h
              exact ⟨h1.mono (by omega), h2⟩
            · exact ⟨.refl h, getD_ok hv 0⟩
theorem valueW_ok {p : Prg} {n : Nat} {R : Wld → Nat → Wld × Val} (hR : RunOk p n R) {w : Wld} {a : Nat} {k : Blk} {s : Stm} (h : WOk p w) (hn : w.left < n) (h0 : w.en = 0) (ha : a < w.acts.length) (hs : StmOk p (w.blk a) k s = true) (hr : Room 2 w) :
    Aft p 2 w (valueW p R w a s).1 ∧ VOk (valueW p R w a s).1.funs.length (valueW p R w a s).1.classes.length (valueW p R w a s).2 := by
  unfold valueW
  obtain ⟨h1, h2, h3, _⟩ := loadsW_ok (a := a) (l := s.reads) h
  split
  · exact ⟨h1.mono (by omega), .zero⟩
  · rename_i he
    rcases h3 with h3 | ⟨e, he', h3⟩
    · rw [h3]
      exact workW_ok hR h hn h0 ha hs h2 hr
    · rw [h3] at he
      exact absurd he' he
theorem WOk.addOut {p : Prg} {w : Wld} (h : WOk p w) {v : Int} (hl : w.out.length + 1 + 2 * w.left ≤ 1000) : WOk p { w with out := w.out ++ [v] } :=
  ⟨h.a0, h.vars, h.blks, h.up, h.glob, h.funs, h.cls, h.stk, h.nacts, h.nfuns, h.ncls, by simpa using hl, h.ntr, h.nstk⟩
theorem StmOk.print {p : Prg} {R : Wld → Nat → Wld × Val} {w : Wld} {a : Nat} {s : Stm} (h : s.kind = 7) : valueW p R w a s = if (loadsW p w a s.reads).1.en ≠ 0 then ((loadsW p w a s.reads).1, (0, 0)) else ((loadsW p w a s.reads).1, (loadsW p w a s.reads).2.getD 0 (0, 0)) := by
  simp [valueW, workW, h]
theorem stmW_ok {p : Prg} {n : Nat} {R : Wld → Nat → Wld × Val} (hR : RunOk p n R) {w : Wld} {a : Nat} {k : Blk} {s : Stm} (h : WOk p w) (hn : w.left < n) (h0 : w.en = 0) (ha : a < w.acts.length) (hs : StmOk p (w.blk a) k s = true) (hr : Room 2 w) : Aft p 2 w (stmW p R w a s) := by
  unfold stmW
  split
  · exact .refl h
  · split
    · exact (takeW_ok h).mono (by omega)
    · obtain ⟨h1, h2⟩ := valueW_ok hR h hn h0 ha hs hr
      split
      · exact h1
      · rename_i hne
        have he : (valueW p R w a s).1.en = 0 := by simpa using hne
        split
        · rename_i e7
          have hw : (valueW p R w a s).1 = w := by
            obtain ⟨_, _, h3, _⟩ := loadsW_ok (a := a) (l := s.reads) h
            rw [StmOk.print e7] at he ⊢
            split at he
            · rename_i hx; exact absurd he hx
            · rename_i hx
              rw [if_neg hx]
              rcases h3 with h3 | ⟨e, he', h3⟩
              · exact h3
              · rw [h3] at hx; exact absurd he' hx
          rw [hw]
          have hl := hr.out
          refine ⟨h.addOut (by omega), ⟨fun _ a h => ⟨a, h, rfl, rfl⟩, List.prefix_refl _, List.prefix_refl _, List.prefix_append _ _, List.prefix_refl _, Nat.le_refl _, by simp only; omega, by simp only; omega, by simp only; omega, by simp only [List.length_append, List.length_singleton]; omega, rfl⟩, fun _ => rfl⟩
        · obtain ⟨s1, s2, s3⟩ := storeW_ok (a := a) (x := s.to) h1.ok h2
          refine ⟨s1, h1.grow.trans s2 (by omega), fun e => ?_⟩
          rw [s3 e]
          exact h1.stk he
theorem tickW_ok {p : Prg} {w : Wld} {a i : Nat} (h : WOk p w) (hl : w.left ≠ 0) : WOk p (tickW w a i) ∧ Room 2 (tickW w a i) := by
  have h1 := h.nacts
  have h2 := h.nfuns
  have h3 := h.ncls
  have h4 := h.nout
  have h5 := h.ntr
  have h6 := h.nstk
  refine ⟨⟨h.a0, h.vars, h.blks, h.up, h.glob, h.funs, h.cls, h.stk, ?_, ?_, ?_, ?_, ?_, ?_⟩, ⟨?_, ?_, ?_, ?_, ?_⟩⟩
  all_goals simp only [tickW, List.length_append, List.length_singleton]
  all_goals omega
theorem tick_grow {w w' : Wld} {a i : Nat} (hl : w.left ≠ 0) (h : Grow 2 (tickW w a i) w') : Grow 0 w w' := by
  have h1 := h.nacts
  have h2 := h.nfuns
  have h3 := h.ncls
  have h4 := h.nout
  have h5 := h.ntr
  have h6 := h.left
  simp only [tickW, List.length_append, List.length_singleton] at h1 h2 h3 h4 h5 h6
  exact ⟨h.acts, h.funs, h.cls, h.out, (List.prefix_append _ _).trans h.tr, by omega, by omega, by omega, by omega, by omega, by omega⟩
theorem Aft.tick {p : Prg} {w w' : Wld} {a i : Nat} (hl : w.left ≠ 0) (h : Aft p 2 (tickW w a i) w') : Aft p 0 w w' := ⟨h.ok, tick_grow hl h.grow, h.stk⟩
theorem bodyW_ok {p : Prg} {n : Nat} {R : Wld → Nat → Wld × Val} (hR : RunOk p n R) {a : Nat} {k : Blk} : ∀ {l : List Stm} {w : Wld} {i : Nat}, WOk p w → w.left < n + 1 → w.en = 0 → a < w.acts.length → (∀ s ∈ l, StmOk p (w.blk a) k s = true) →
    Aft p 0 w (bodyW p R a w i l).1 ∧ VOk (bodyW p R a w i l).1.funs.length (bodyW p R a w i l).1.classes.length (bodyW p R a w i l).2
  | [], w, i, h, _, _, _, _ => ⟨.refl h, .zero⟩
  | s :: l, w, i, h, hn, h0, ha, hs => by
    simp only [bodyW]
    split
    · exact ⟨(Aft.refl h).en (by decide), .zero⟩
    · rename_i hl
      obtain ⟨t1, t2⟩ := tickW_ok (a := a) (i := i) h hl
      have tn : (tickW w a i).left < n := by simp only [tickW]; omega
      split
      · obtain ⟨x1, x2, x3⟩ := loadW_ok (a := a) (x := s.a) t1
        refine ⟨(x1.mono (by omega)).tick hl, ?_⟩
        have e1 := x1.grow.lfuns
        have e2 := x1.grow.lcls
        exact x2.mono e1 e2
      · have hst := stmW_ok hR t1 tn h0 ha (hs s (by simp)) t2
        split
        · exact ⟨hst.tick hl, .zero⟩
        · rename_i he
          have he' : (stmW p R (tickW w a i) a s).en = 0 := by simpa using he
          have hA := hst.tick hl
          obtain ⟨c, hc⟩ : ∃ c, w.acts[a]? = some c := ⟨_, gE ha⟩
          have hb := hA.grow.blk hc
          obtain ⟨r1, r2⟩ := bodyW_ok hR (l := l) (i := i + 1) hA.ok (by have := hA.grow.left; omega) he' (Nat.lt_of_lt_of_le ha hA.grow.lacts) (fun s' hs' => by rw [hb]; exact hs s' (by simp [hs']))
          exact ⟨hA.trans r1 (fun _ => he') (by omega), r2⟩
theorem runW_ok {p : Prg} (hp : ShapeP p) : ∀ n, RunOk p n (runW p n)
  | 0 => fun w a _ h => absurd h (by omega)
  | n + 1 => by
    intro w a h hn ha h0
    simp only [runW]
    obtain ⟨c, hc⟩ : ∃ c, w.acts[a]? = some c := ⟨_, gE ha⟩
    have hb := h.blks a c hc
    obtain ⟨k, hk⟩ : ∃ k, p[c.blk]? = some k := ⟨_, gE hb⟩
    rw [blk_at hc, hk]
    exact bodyW_ok (runW_ok hp n) (k := k) h hn h0 ha (fun s hs => by rw [blk_at hc]; exact hp.stm _ k hk s hs)
theorem startW_ok {p : Prg} (hp : ShapeP p) {fuel : Nat} (hf : fuel ≤ 150) : WOk p (startW fuel) := by
  have hl := hp.len
  refine ⟨⟨_, rfl, rfl⟩, fun i a ha => ?_, fun i a ha => ?_, fun i a ha hi => ?_, .none, fun i g hg => ?_, fun c hc => ?_, fun i hi => ?_, ?_, ?_, ?_, ?_, ?_, ?_⟩
  · have := List.mem_of_getElem? ha
    simp [startW] at this
    subst this
    exact .none
  · have := List.mem_of_getElem? ha
    simp [startW] at this
    subst this
    simp only
    omega
  · have := (gS ha).1
    simp [startW] at this
    omega
  · simp [startW] at hg
  · simp [startW] at hc
  · simp [startW] at hi ⊢
    omega
  all_goals simp [startW]
  all_goals omega
theorem meantW_ok {p : Prg} (hp : ShapeP p) {fuel : Nat} (hf : fuel ≤ 150) : Aft p 0 (startW fuel) (meantW p fuel) :=
  (runW_ok hp 151 (startW fuel) 0 (startW_ok hp hf) (by simp [startW]; omega) (by simp [startW]) rfl).1
end Go.Hm
end
