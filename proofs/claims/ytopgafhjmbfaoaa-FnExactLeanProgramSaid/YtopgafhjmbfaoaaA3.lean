/-
  Own texts, joined by merge.py: Hm12, Hm13, Hm14, Hm15, Hm16, Hm17, Hm18.
-/
import Derived.Test.YtopgafhjmbfaoaaA2

section
/-
  The heap machine, part 12: what functions do, and calls. Own work; generic in the program.
-/
namespace Go.Hm
open Go Go.RowKit

/-! ### Values that are read while nobody writes them -/
/-- a value, as it reads where the objects outside of D are settled -/
inductive Bw (hp : Nm → Option AO) (D : Nm → Bool) : AV → AV → Prop
  | refl (a : AV) : Bw hp D a a
  | nil (z : Nat) : Bw hp D (.sc (.slice none 0 0)) (.sl z [])
  | emp (z z' : Nat) : Bw hp D (.sl z []) (.sl z' [])
  | sl (z : Nat) (rows rows' : List (List AV)) (hl : rows.length = rows'.length) (hz : ∀ (i : Nat) r r', rows[i]? = some r → rows'[i]? = some r' → r.length = r'.length)
      (h : ∀ (i : Nat) r r', rows[i]? = some r → rows'[i]? = some r' → ∀ (j : Nat) a a', r[j]? = some a → r'[j]? = some a' → Bw hp D a a') : Bw hp D (.sl z rows) (.sl z rows')
  | hs (n : Nm) (z lo len : Nat) (rows rows' : List (List AV)) (hD : D n = false) (hn : hp n = some (.row z rows)) (hle : lo + len ≤ rows.length) (hl : rows'.length = len) (hz : ∀ r' ∈ rows', r'.length = z)
      (h : ∀ (i : Nat) r r', rows[lo + i]? = some r → rows'[i]? = some r' → ∀ (j : Nat) a a', r[j]? = some a → r'[j]? = some a' → Bw hp D a a') : Bw hp D (.hs n z lo len) (.sl z rows')
  | pt (n : Nm) (z off : Nat) (r r' : List AV) (rows : List (List AV)) (hD : D n = false) (hn : hp n = some (.row z (r :: rows))) (hl : r.length = r'.length) (h : ∀ (j : Nat) a a', r[j]? = some a → r'[j]? = some a' → Bw hp D a a') : Bw hp D (.pt n off) (.el r' off)
  | ep (n : Nm) (z i off : Nat) (r r' : List AV) (rows : List (List AV)) (hD : D n = false) (hn : hp n = some (.row z rows)) (hi : rows[i]? = some r) (hl : r.length = r'.length) (h : ∀ (j : Nat) a a', r[j]? = some a → r'[j]? = some a' → Bw hp D a a') : Bw hp D (.ep n z i off) (.el r' off)
  | agg (cs cs' : List AV) (hl : cs.length = cs'.length) (h : ∀ (j : Nat) a a', cs[j]? = some a → cs'[j]? = some a' → Bw hp D a a') : Bw hp D (.agg cs) (.agg cs')
  | ifc (t : TypeId) (a a' : AV) (h : Bw hp D a a') : Bw hp D (.ifc t a) (.ifc t a')
  | fn (f : Fn) (xs xs' ys ys' : List AV) (hl : xs.length = xs'.length) (hl2 : ys.length = ys'.length) (h : ∀ (j : Nat) a a', xs[j]? = some a → xs'[j]? = some a' → Bw hp D a a') (h2 : ∀ (j : Nat) a a', ys[j]? = some a → ys'[j]? = some a' → Bw hp D a a') : Bw hp D (.fn f xs ys) (.fn f xs' ys')

/-- the ghost with more blocks settled -/
def Gh.more (g : Gh) (C : Nat → Prop) : Gh := { C := C, φ := g.φ, κ := g.κ }

theorem RV.more {g : Gh} {w : World} {v : Value} {a : AV} {C : Nat → Prop} (h : RV g w v a) (hC : ∀ b, g.C b → C b) : RV (g.more C) w v a :=
  h.same hC (fun _ _ => rfl) (fun _ => ⟨rfl, rfl⟩)

theorem RV.bw {own : Nat → Prop} {C : Nat → Prop} {w0 : World} {g : Gh} {hp : Nm → Option AO} {w : World} {D : Nm → Bool} {C' : Nat → Prop} (hi : Inv own C w0 g hp w) (hC : ∀ b, C b → C' b)
    (hD : ∀ n o b, D n = false → hp n = some o → g.φ n = some b → C' b) {a a' : AV} (hb : Bw hp D a a') : ∀ {v : Value}, RV g w v a → RV (g.more C') w v a' := by
  have hgC : ∀ b, g.C b → C' b := fun b h => hC b (hi.hC ▸ h)
  induction hb with
  | refl a => exact fun h => h.more hgC
  | nil z => intro v h; rw [h.sc_eq]; exact .slN _ _ _
  | emp z z' =>
    intro v h
    cases h with
    | slN => exact .slN _ _ _
    | slC b off cap n z rows f hCb hn hcap => simp at hn; subst hn; exact .slN _ _ _
  | sl z rows rows' hl hz _ ih =>
    intro v h
    cases h with
    | slN ad cap z =>
      have : rows' = [] := List.eq_nil_of_length_eq_zero (by simpa using hl.symm)
      subst this
      exact .slN _ _ _
    | slC b off cap n z rows f hCb hn hcap hu hcell ho hr =>
      refine .slC b off cap n z rows' f (hgC b hCb) (by rw [← hl]; exact hn) hcap ?_ hcell ho ?_
      · intro r hr'
        obtain ⟨i, hi'⟩ := List.getElem?_of_mem hr'
        have hlt : i < rows.length := by rw [hl]; exact (List.getElem?_eq_some_iff.1 hi').1
        rw [← hz i _ r (List.getElem?_eq_getElem hlt) hi']
        exact hu _ (List.getElem_mem hlt)
      · intro i row hrow j a ha
        have hlt : i < rows.length := by rw [hl]; exact (List.getElem?_eq_some_iff.1 hrow).1
        have e := hz i _ row (List.getElem?_eq_getElem hlt) hrow
        have hj : j < rows[i].length := by rw [e]; exact (List.getElem?_eq_some_iff.1 ha).1
        exact ih i _ row (List.getElem?_eq_getElem hlt) hrow j _ a (List.getElem?_eq_getElem hj) ha (hr i _ (List.getElem?_eq_getElem hlt) j _ (List.getElem?_eq_getElem hj))
  | hs n z lo len rows rows' hDn hn hle hl hz _ ih =>
    intro v h
    cases h with
    | hsN =>
      have : rows' = [] := List.eq_nil_of_length_eq_zero hl
      subst this
      exact .slN _ _ _
    | hsB _ _ _ _ b cap ad hk h1 h2 h3 =>
      by_cases h0 : len = 0
      · subst h0
        have : rows' = [] := List.eq_nil_of_length_eq_zero hl
        subst this
        exact .slN _ _ _
      · rw [h3 (by omega)]
        have ho := hi.obj n _ hn
        simp only [OAt, hk] at ho
        obtain ⟨cur, T, c1, c2, c3, c4, c5, c6, c7⟩ := ho
        have bnd : ∀ i j, i < len → j < z → (lo + i) * z + j < rows.length * z := by
          intro i j hi hj
          have : (lo + i + 1) * z ≤ rows.length * z := Nat.mul_le_mul_right _ (by omega)
          rw [Nat.add_mul (lo + i), Nat.one_mul] at this
          omega
        have hcs : rows.length * z ≤ cur.size := by rw [c2]; exact Nat.mul_le_mul_right _ c4
        refine .slC b (lo * z) cap len z rows' (fun i j => cur.getD ((lo + i) * z + j) undef) (hD n _ b hDn hn hk) hl h1 hz ?_ ?_ ?_
        · intro i j hi hj
          have hb := bnd i j hi hj
          rw [show lo * z + i * z + j = (lo + i) * z + j from by rw [Nat.add_mul], cell_of_row w _ _ _ T _ c1]
          have : (lo + i) * z + j < cur.size := by omega
          simp [this]
        · intro i j hi hj
          exact c6 _ (bnd i j hi hj)
        · intro i row hrow j a ha
          have hi' : lo + i < rows.length := by
            have := (List.getElem?_eq_some_iff.1 hrow).1
            omega
          have hr0 := c5 _ (List.getElem_mem hi')
          have hj : j < rows[lo + i].length := by rw [hr0, ← hz row (List.mem_of_getElem? hrow)]; exact (List.getElem?_eq_some_iff.1 ha).1
          exact ih i _ row (List.getElem?_eq_getElem hi') hrow j _ a (List.getElem?_eq_getElem hj) ha (c7 (lo + i) _ (List.getElem?_eq_getElem hi') j _ (List.getElem?_eq_getElem hj))
  | pt n z off r r' rows hDn hn hl _ ih =>
    intro v h
    cases h with
    | pt _ _ b hk =>
      obtain ⟨f, f1, f2, f3⟩ := hi.rowAt hn hk (i := 0) rfl
      have := RV.el (g := g.more C') (w := w) b 0 off r' f (hD n _ b hDn hn hk) (fun j hj => by simpa using f1 j (by rw [hl]; exact hj)) (fun j hj => f2 j (by rw [hl]; exact hj)) (fun j a ha => by
        have hj : j < r.length := by rw [hl]; exact (List.getElem?_eq_some_iff.1 ha).1
        exact ih j _ a (List.getElem?_eq_getElem hj) ha (f3 j _ (List.getElem?_eq_getElem hj)))
      rwa [Nat.zero_add] at this
  | ep n z i off r r' rows hDn hn hi' hl _ ih =>
    intro v h
    cases h with
    | ep _ _ _ _ b hk =>
      obtain ⟨f, f1, f2, f3⟩ := hi.rowAt hn hk hi'
      exact RV.el (g := g.more C') (w := w) b (i * z) off r' f (hD n _ b hDn hn hk) (fun j hj => f1 j (by rw [hl]; exact hj)) (fun j hj => f2 j (by rw [hl]; exact hj)) (fun j a ha => by
        have hj : j < r.length := by rw [hl]; exact (List.getElem?_eq_some_iff.1 ha).1
        exact ih j _ a (List.getElem?_eq_getElem hj) ha (f3 j _ (List.getElem?_eq_getElem hj)))
  | agg cs cs' hl _ ih =>
    intro v h
    cases h with
    | agg vs _ hl2 hr =>
      refine .agg vs cs' (hl2.trans hl) fun j u a hu ha => ?_
      have hj : j < cs.length := by rw [hl]; exact (List.getElem?_eq_some_iff.1 ha).1
      exact ih j _ a (List.getElem?_eq_getElem hj) ha (hr j u _ hu (List.getElem?_eq_getElem hj))
  | ifc t a a' _ ih =>
    intro v h
    cases h with
    | ifc _ v _ h => exact .ifc t v a' (ih h)
  | fn f xs xs' ys ys' hl hl2 _ _ ih ih2 =>
    intro v h
    cases h with
    | fn _ vs us _ _ k1 k2 hr hr2 =>
      refine .fn f vs us xs' ys' (k1.trans hl) (k2.trans hl2) (fun j u a hu ha => ?_) (fun j u a hu ha => ?_)
      · have hj : j < xs.length := by rw [hl]; exact (List.getElem?_eq_some_iff.1 ha).1
        exact ih j _ a (List.getElem?_eq_getElem hj) ha (hr j u _ hu (List.getElem?_eq_getElem hj))
      · have hj : j < ys.length := by rw [hl2]; exact (List.getElem?_eq_some_iff.1 ha).1
        exact ih2 j _ a (List.getElem?_eq_getElem hj) ha (hr2 j u _ hu (List.getElem?_eq_getElem hj))

/-! ### Values that tell of nothing that is settled -/
mutual
def AV.cln : AV → Bool
  | .sc _ => true
  | .sl _ rows => rows.isEmpty
  | .el _ _ => false
  | .hs _ _ _ _ => true
  | .pt _ _ => true
  | .ep _ _ _ _ => true
  | .mp _ => true
  | .agg cs => clnL cs
  | .tup cs => clnL cs
  | .ifc _ a => AV.cln a
  | .fn _ xs ys => clnL xs && clnL ys
  | .bot => true
def clnL : List AV → Bool
  | [] => true
  | a :: l => AV.cln a && clnL l
end
theorem clnL_eq (l : List AV) : clnL l = l.all AV.cln := by
  induction l with
  | nil => rfl
  | cons a l ih => simp [clnL, ih]
def AO.cln : AO → Bool
  | .row _ rows => rows.all (fun r => r.all AV.cln)
  | .map es => es.all (fun e => e.1.cln && e.2.cln)

theorem RV.cln {g : Gh} {w : World} {v : Value} {a : AV} (C' : Nat → Prop) (h : RV g w v a) (hc : a.cln = true) : RV (g.more C') w v a := by
  induction h with
  | sc v => exact .sc v
  | slN ad cap z => exact .slN ad cap z
  | slC b off cap n z rows f hC hn hcap hu hcell ho hr ih =>
    simp only [AV.cln, List.isEmpty_iff] at hc
    subst hc
    simp only [List.length_nil] at hn
    subst hn
    exact .slN _ _ _
  | el b o off row f hC hcell ho hr ih => simp [AV.cln] at hc
  | hsN n z hk => exact .hsN n z hk
  | hsB n z lo len b cap ad hk h1 h2 h3 => exact .hsB n z lo len b cap ad hk h1 h2 h3
  | pt n off b hk => exact .pt n off b hk
  | ep n z i off b hk => exact .ep n z i off b hk
  | mp n b hk => exact .mp n b hk
  | agg vs cs hl hr ih =>
    simp only [AV.cln, clnL_eq] at hc
    exact .agg vs cs hl (fun j v a hv ha => ih j v a hv ha (List.all_eq_true.1 hc a (List.mem_of_getElem? ha)))
  | tup vs cs hl hr ih =>
    simp only [AV.cln, clnL_eq] at hc
    exact .tup vs cs hl (fun j v a hv ha => ih j v a hv ha (List.all_eq_true.1 hc a (List.mem_of_getElem? ha)))
  | ifc t v a h ih => exact .ifc t v a (ih hc)
  | fn f vs us xs ys hl hl2 hr hr2 ih ih2 =>
    simp only [AV.cln, clnL_eq, Bool.and_eq_true] at hc
    exact .fn f vs us xs ys hl hl2 (fun j v a hv ha => ih j v a hv ha (List.all_eq_true.1 hc.1 a (List.mem_of_getElem? ha))) (fun j v a hv ha => ih2 j v a hv ha (List.all_eq_true.1 hc.2 a (List.mem_of_getElem? ha)))
  | bot v => exact .bot v

/-! ### Functions -/
/-- f has a body that is called -/
def Callable (P : Program) (f : FuncId) : Prop := ∃ fn, P.funcs[f]? = some fn ∧ (fn.name == "runtime.NumGoroutine") = false ∧ fn.body.isNone = false

/-- what is behind a call, at the names of D and under root: the value x, the objects H' -/
structure After (own : Nat → Prop) (C : Nat → Prop) (w : World) (g : Gh) (D : Nm → Bool) (root : Nm) (H : Nm → Option AO) (H' : Nm → Option AO) (C' : Nat → Prop) (g' : Gh) (w' : World) : Prop where
  mono : ∀ b, C b → C' b
  new : ∀ b, C' b → C b ∨ w.heap.size ≤ b ∨ own b
  inv : Inv own C' w g' H' w'
  dom : ∀ n, H' n ≠ none → D n = true ∨ Nm.under root n = true
  same : ∀ n, D n = false → Nm.under root n = false → g'.φ n = g.φ n ∧ g'.κ n = g.κ n
  ust : ∀ k i j, H (.u k i j) ≠ none → g'.φ (.u k i j) = g.φ (.u k i j) ∧ g'.κ (.u k i j) = g.κ (.u k i j)

def ownH (g : Gh) (H : Nm → Option AO) (b : Nat) : Prop := ∃ n, H n ≠ none ∧ g.φ n = some b

/-- What a call of f does with the objects H at the names D: R of the value and the objects behind it; E of what it panics with. -/
def FnE (P : Program) (gl : Nat → Option (List AV)) (f : FuncId) (D : Nm → Bool) (as : List AV) (H : Nm → Option AO) (R E : Nm → AV → (Nm → Option AO) → Prop) : Prop :=
  Callable P f ∧ ∀ (root : Nm) (C : Nat → Prop) (w : World) (g : Gh) (args : Array Value),
    (∀ n, Nm.under root n = true → D n = false) → root.isU = false → (∀ n, H n ≠ none → D n = true) →
    Inv (ownH g H) C w g H w →
    (∀ i row, gl i = some row → RV g w (.pointer (some ⟨i, 0, none⟩)) (.el row 0) ∧ ∀ f : Nm → Option Nm, row.map (AV.tr f) = row) →
    args.size = as.length → (∀ (j : Nat) v x, args[j]? = some v → as[j]? = some x → RV g w v x) →
    Calls P f args w fun
      | .returned v, w' => ∃ C' g' H' x, After (ownH g H) C w g D root H H' C' g' w' ∧ RV g' w' v x ∧ R root x H'
      | .panicked ch, w' => ∃ C' g' H' x v, After (ownH g H) C w g D root H H' C' g' w' ∧ ch = [{ v := v, recovered := false }] ∧ RV g' w' v x ∧ E root x H'
      | .outgrown, _ => False

/-- no panic -/
def noE : Nm → AV → (Nm → Option AO) → Prop := fun _ _ _ => False
/-- no object -/
def noD : Nm → Bool := fun _ => false
def noH : Nm → Option AO := fun _ => none
/-- What a call of f returns, which changes nothing. -/
def FnOk (P : Program) (gl : Nat → Option (List AV)) (f : FuncId) (as : List AV) (R : Nm → AV → (Nm → Option AO) → Prop) : Prop := FnE P gl f noD as noH R noE

section
variable {P : Program} {own : Nat → Prop} {C : Nat → Prop} {w0 : World} {g : Gh} {st : St} {a : Act} {w : World}

/-- the general step, with memory that is settled meanwhile -/
theorem Rg.stepC (h : Rg P own C w0 g st a w) {C' : Nat → Prop} {g' : Gh} {w' : World} {f : Nm → Option Nm} {hp' : Nm → Option AO}
    (gC : g'.C = C') (hCC : ∀ b, C b → C' b) (hclt : ∀ b, C' b → b < w'.heap.size) (gf : ∀ n n', f n = some n' → g'.φ n' = g.φ n ∧ g'.κ n' = g.κ n)
    (h1 : w'.os = w.os) (h2 : w'.tape = w.tape) (h3 : w'.output = w.output) (h4 : w.heap.size ≤ w'.heap.size)
    (hw : ∀ b, C b → w'.heap[b]? = w.heap[b]?) (hkeep : ∀ b, b < w0.heap.size → ¬ own b → w'.heap[b]? = w.heap[b]?)
    (hobj : ∀ n' o', hp' n' = some o' →
      (∃ n o, f n = some n' ∧ st.hp n = some o ∧ o' = o.tr f ∧ ∀ b, g.φ n = some b → w'.heap[b]? = w.heap[b]? ∧ ¬ C' b) ∨
      (OAt g' w' n' o' ∧ ∀ b, g'.φ n' = some b → (¬ C' b ∧ (w0.heap.size ≤ b ∨ own b) ∧ b < w'.heap.size) ∧ ∀ n'' o'', hp' n'' = some o'' → g'.φ n'' = some b → n'' = n')) :
    Rg P own C' w0 g' (st.nm f hp') a w' := by
  obtain ⟨i, hd, hs, hsl, hgl⟩ := h
  have hwg : ∀ b, g.C b → w'.heap[b]? = w.heap[b]? := fun b hb => hw b (i.hC ▸ hb)
  have gCf : ∀ b, g.C b → g'.C b := fun b hb => by rw [gC]; exact hCC b (i.hC ▸ hb)
  have rv : ∀ {v : Value} {x : AV}, RV g w v x → RV g' w' v (x.tr f) := fun hv => hv.tr gCf hwg gf
  have old : ∀ n' o' b, hp' n' = some o' → g'.φ n' = some b →
      (∃ n o, f n = some n' ∧ st.hp n = some o ∧ g.φ n = some b ∧ ¬ C' b) ∨ ((¬ C' b ∧ (w0.heap.size ≤ b ∨ own b) ∧ b < w'.heap.size) ∧ ∀ n'' o'', hp' n'' = some o'' → g'.φ n'' = some b → n'' = n') := by
    intro n' o' b hn' hb
    rcases hobj n' o' hn' with ⟨n, o, e1, e2, _, e4⟩ | ⟨_, e⟩
    · have hk := (gf n n' e1).1.symm.trans hb
      exact .inl ⟨n, o, e1, e2, hk, (e4 b hk).2⟩
    · exact .inr (e b hb)
  refine ⟨⟨h1.trans i.os, h2.trans i.tape, h3.trans i.output, Nat.le_trans i.size h4, fun b hb ho => (hkeep b hb ho).trans (i.keep b hb ho), gC, hclt, ?_, ?_, ?_⟩,
    hd, hs, fun t => rv (hsl t), fun j row e => ⟨?_, (hgl j row e).2⟩⟩
  · intro n' o' hn'
    rcases hobj n' o' hn' with ⟨n, o, e1, e2, rfl, e4⟩ | ⟨e, _⟩
    · exact (i.obj n o e2).tr gCf hwg gf e1 (fun b hb => (e4 b hb).1)
    · exact e
  · intro n' o' b hn' hb
    rcases old n' o' b hn' hb with ⟨n, o, _, e2, e3, e4⟩ | ⟨e, _⟩
    · obtain ⟨x1, x2, x3⟩ := i.blk n o b e2 e3
      exact ⟨e4, x2, Nat.lt_of_lt_of_le x3 h4⟩
    · exact e
  · intro n1 n2 o1 o2 b hn1 hn2 hb1 hb2
    rcases old n1 o1 b hn1 hb1 with ⟨m1, p1, e1, e2, e3, _⟩ | ⟨_, e⟩
    · rcases old n2 o2 b hn2 hb2 with ⟨m2, p2, f1, f2, f3, _⟩ | ⟨_, e'⟩
      · have := i.inj m1 m2 p1 p2 b e2 f2 e3 f3
        subst this
        exact Option.some.inj (e1.symm.trans f1)
      · exact e' n1 o1 hn1 hb1
    · exact (e n2 o2 hn2 hb2).symm
  · have := rv (hgl j row e).1
    simpa only [AV.tr, trL_eq, (hgl j row e).2 f] using this

/-! ### What a call leaves -/
/-- which names of the caller stay -/
def cf (d : Nat) (D : Nm → Bool) (H : Nm → Option AO) (m : Nm) : Option Nm :=
  if Nm.under (.s d) m then none else if D m then (if m.isU && (H m).isSome then some m else none) else some m
def St.call (st : St) (d : Nat) (D : Nm → Bool) (H H' : Nm → Option AO) : St :=
  st.nm (cf d D H) (fun m => if D m || Nm.under (.s d) m then H' m else (st.hp m).map (AO.tr (cf d D H)))
/-- what is told of nothing that is settled -/
def hcln (H' : Nm → Option AO) : Nm → Option AO := fun m => match H' m with | some o => if o.cln then some o else none | none => none
def xcln (x : AV) : AV := if x.cln then x else .bot

theorem cf_spec {d : Nat} {D : Nm → Bool} {H : Nm → Option AO} {m m' : Nm} (h : cf d D H m = some m') : m = m' ∧ Nm.under (.s d) m = false ∧ (D m = true → m.isU = true ∧ H m ≠ none) := by
  unfold cf at h
  split at h
  · cases h
  · rename_i hu
    split at h
    · rename_i hD
      split at h
      · rename_i hc
        simp only [Bool.and_eq_true] at hc
        refine ⟨Option.some.inj h, by simpa using hu, fun _ => ⟨hc.1, fun e => ?_⟩⟩
        rw [e] at hc
        simp at hc
      · cases h
    · rename_i hD
      exact ⟨Option.some.inj h, by simpa using hu, fun e => absurd e hD⟩

theorem Rg.after (h : Rg P own C w0 g st a w) {d : Nat} {D : Nm → Bool} {H H' H'' : Nm → Option AO} {C1 C' C'' : Nat → Prop} {g' : Gh} {w' : World}
    (hH : ∀ n, D n = true → st.hp n = H n) (hHD : ∀ n, H n ≠ none → D n = true) (hf : After (ownH g H) C1 w (g.more C1) D (.s d) H H' C' g' w')
    (hCC : ∀ b, C b → C'' b) (hC'' : ∀ b, C'' b → C b ∨ C' b ∧ (w.heap.size ≤ b ∨ ownH g H b)) (hsub : ∀ n o, H'' n = some o → H' n = some o) (hob : ∀ n o, H'' n = some o → OAt (g'.more C'') w' n o) :
    Rg P own C'' w0 (g'.more C'') (st.call d D H H'') a w' ∧ ∀ k i j, D (.u k i j) = false ∨ H (.u k i j) ≠ none → (g'.more C'').φ (.u k i j) = g.φ (.u k i j) ∧ (g'.more C'').κ (.u k i j) = g.κ (.u k i j) := by
  have ownlt : ∀ b, ownH g H b → ¬ C b ∧ (w0.heap.size ≤ b ∨ own b) ∧ b < w.heap.size := by
    rintro b ⟨n, hn, hk⟩
    obtain ⟨o, ho⟩ := Option.ne_none_iff_exists'.1 hn
    exact h.inv.blk n o b (by rw [hH n (hHD n hn)]; exact ho) hk
  have frame : ∀ m o b, D m = false → st.hp m = some o → g.φ m = some b → ¬ ownH g H b := by
    rintro m o b hD hm hk ⟨n, hn, hk'⟩
    obtain ⟨o', ho'⟩ := Option.ne_none_iff_exists'.1 hn
    have := h.inv.inj m n o o' b hm (by rw [hH n (hHD n hn)]; exact ho') hk hk'
    rw [this, hHD n hn] at hD
    cases hD
  have keep : ∀ b, b < w.heap.size → ¬ ownH g H b → w'.heap[b]? = w.heap[b]? := fun b hb ho => hf.inv.keep b hb ho
  have gf : ∀ n n', cf d D H n = some n' → (g'.more C'').φ n' = g.φ n ∧ (g'.more C'').κ n' = g.κ n := by
    intro n n' e
    obtain ⟨rfl, e2, e3⟩ := cf_spec e
    cases hD : D n with
    | false => exact hf.same n hD e2
    | true =>
      obtain ⟨x1, x2⟩ := e3 hD
      cases n with
      | u k i j => exact hf.ust k i j x2
      | s _ => simp [Nm.isU] at x1
      | c _ _ _ => simp [Nm.isU] at x1
  have old1 : ∀ m o b, D m = false → Nm.under (.s d) m = false → st.hp m = some o → g.φ m = some b → w'.heap[b]? = w.heap[b]? ∧ ¬ C'' b := by
    intro m o b hD hu hm hk
    obtain ⟨x1, x2, x3⟩ := h.inv.blk m o b hm hk
    have hno := frame m o b hD hm hk
    refine ⟨keep b x3 hno, fun hc => ?_⟩
    rcases hC'' b hc with hc | ⟨_, hc | hc⟩
    · exact x1 hc
    · omega
    · exact hno hc
  have newb : ∀ n o b, H'' n = some o → g'.φ n = some b → ¬ C' b ∧ (w.heap.size ≤ b ∨ ownH g H b) ∧ b < w'.heap.size := fun n o b hn hk => hf.inv.blk n o b (hsub n o hn) hk
  have key : ∀ n' o', (st.call d D H H'').hp n' = some o' → (H'' n' = some o' ∧ (D n' = true ∨ Nm.under (.s d) n' = true)) ∨ ∃ o, D n' = false ∧ Nm.under (.s d) n' = false ∧ st.hp n' = some o ∧ o' = o.tr (cf d D H) := by
    intro n' o' e
    simp only [St.call, St.nm] at e
    split at e
    · rename_i hc
      simp only [Bool.or_eq_true] at hc
      exact .inl ⟨e, hc⟩
    · rename_i hc
      simp only [Bool.or_eq_true, not_or, Bool.not_eq_true] at hc
      obtain ⟨o, e1, e2⟩ := Option.map_eq_some_iff.1 e
      exact .inr ⟨o, hc.1, hc.2, e1, e2.symm⟩
  refine ⟨h.stepC (g' := g'.more C'') (f := cf d D H) (hp' := (st.call d D H H'').hp) rfl hCC (fun b hb => ?_) gf hf.inv.os hf.inv.tape hf.inv.output hf.inv.size ?_ ?_ ?_, ?_⟩
  · rcases hC'' b hb with hc | ⟨hc, _⟩
    · exact Nat.lt_of_lt_of_le (h.inv.clt b hc) hf.inv.size
    · exact hf.inv.clt b hc
  · intro b hb
    exact keep b (h.inv.clt b hb) (fun ho => (ownlt b ho).1 hb)
  · intro b hb hno
    refine keep b (Nat.lt_of_lt_of_le hb h.inv.size) (fun ho => ?_)
    rcases (ownlt b ho).2.1 with x | x
    · omega
    · exact hno x
  · intro n' o' e
    rcases key n' o' e with ⟨e1, e2⟩ | ⟨o, e1, e2, e3, e4⟩
    · right
      refine ⟨hob n' o' e1, fun b hb => ?_⟩
      obtain ⟨x1, x2, x3⟩ := newb n' o' b e1 hb
      refine ⟨⟨fun hc => ?_, ?_, x3⟩, fun n'' o'' e'' hb'' => ?_⟩
      · rcases hC'' b hc with hc | ⟨hc, _⟩
        · rcases x2 with x2 | x2
          · have := h.inv.clt b hc; omega
          · exact (ownlt b x2).1 hc
        · exact x1 hc
      · rcases x2 with x2 | x2
        · exact .inl (Nat.le_trans h.inv.size x2)
        · exact (ownlt b x2).2.1
      · rcases key n'' o'' e'' with ⟨f1, f2⟩ | ⟨o2, f1, f2, f3, f4⟩
        · exact hf.inv.inj n'' n' o'' o' b (hsub _ _ f1) (hsub _ _ e1) hb'' hb
        · have hk2 : g.φ n'' = some b := (hf.same n'' f1 f2).1.symm.trans hb''
          have hlt := (h.inv.blk n'' o2 b f3 hk2).2.2
          rcases x2 with x2 | x2
          · omega
          · exact absurd x2 (frame n'' o2 b f1 f3 hk2)
    · exact .inl ⟨n', o, by simp [cf, e1, e2], e3, e4, fun b hb => old1 n' o b e1 e2 e3 hb⟩
  · intro k i j hk
    have hu : Nm.under (.s d) (.u k i j) = false := by simp [Nm.under]
    cases hD : D (.u k i j) with
    | false => exact hf.same _ hD hu
    | true =>
      rcases hk with hk | hk
      · rw [hD] at hk; cases hk
      · exact hf.ust k i j hk

end
end Go.Hm
end

section
/-
  The heap machine, part 13: calls. Own work; generic in the program.
-/
namespace Go.Hm
open Go Go.RowKit

/-- an operation enters f with the values avs -/
def Ent (P : Program) (st : St) (o : Oper) (f : FuncId) (avs : List AV) : Prop :=
  ∀ (own C : Nat → Prop) (w0 : World) (g : Gh) (a : Act) (w : World), Rg P own C w0 g st a w →
    ∃ args : Array Value, (execOp a.eval o).run P w = .ok (.enter f args) w ∧ args.size = avs.length ∧ ∀ (j : Nat) v x, args[j]? = some v → avs[j]? = some x → RV g w v x
def BwL (hp : Nm → Option AO) (D : Nm → Bool) (l l' : List AV) : Prop := l.length = l'.length ∧ ∀ (j : Nat) a a', l[j]? = some a → l'[j]? = some a' → Bw hp D a a'

theorem BwL.nil {hp : Nm → Option AO} {D : Nm → Bool} : BwL hp D [] [] := ⟨rfl, by simp⟩
theorem BwL.cons {hp : Nm → Option AO} {D : Nm → Bool} {x y : AV} {l l' : List AV} (h : Bw hp D x y) (h' : BwL hp D l l') : BwL hp D (x :: l) (y :: l') := by
  refine ⟨by simp [h'.1], fun j a a' ha ha' => ?_⟩
  cases j with
  | zero => simp at ha ha'; subst ha; subst ha'; exact h
  | succ j => exact h'.2 j a a' (by simpa using ha) (by simpa using ha')

theorem run_callFunc {P : Program} {w : World} {f : FuncId} {xs : Array Value} (hc : Callable P f) : (callFunc f xs).run P w = .ok (.enter f xs) w := by
  obtain ⟨fn, h1, h2, h3⟩ := hc
  have hp : (program : Sem Program).run P w = .ok P w := rfl
  simp only [callFunc, Sem.run_bind, hp, Result.andThen_ok, h1, h2, h3, Bool.false_eq_true, if_false, Sem.run_pure]

section
variable {P : Program} {st : St} {o : Oper} {f : FuncId}

theorem ent_func {args : Array Operand} {Ts : Array TypeId} (hc : Callable P f) (ho : o.op = .call ⟨.value (.func f), args, Ts⟩) : Ent P st o f (args.toList.map (ev st)) := by
  intro own C w0 g a w h
  refine ⟨args.map a.eval, ?_, by simp, fun j v x hv hx => ?_⟩
  · simp [execOp, ho, resolve, Act.eval, Deferred.ofValue, invoke, run_callFunc hc]
  · rw [Array.getElem?_map] at hv
    obtain ⟨o', ho', rfl⟩ := Option.map_eq_some_iff.1 hv
    rw [List.getElem?_map] at hx
    obtain ⟨o2, ho2, rfl⟩ := Option.map_eq_some_iff.1 hx
    rw [Array.getElem?_toList, ho'] at ho2
    obtain rfl := Option.some.inj ho2
    exact h.ev o'

/-- a function value that is known -/
theorem ent_val {args : Array Operand} {Ts : Array TypeId} {c : Operand} {xs ys : List AV} (hc : Callable P f) (ho : o.op = .call ⟨.value c, args, Ts⟩) (hv : ev st c = .fn (.func f) xs ys) : Ent P st o f (xs ++ args.toList.map (ev st) ++ ys) := by
  intro own C w0 g a w h
  have hr := h.ev c
  rw [hv] at hr
  generalize hcv : a.eval c = cv at hr
  cases hr with
  | fn _ vs us _ _ l1 l2 r1 r2 =>
    refine ⟨vs.toArray ++ args.map a.eval ++ us.toArray, ?_, by simp [l1, l2], fun j v x hv hx => ?_⟩
    · simp [execOp, ho, resolve, hcv, Deferred.ofValue, invoke, run_callFunc hc]
    · rw [List.getElem?_append] at hx
      rw [Array.getElem?_append] at hv
      have hsz : (vs.toArray ++ args.map a.eval).size = (xs ++ args.toList.map (ev st)).length := by simp [l1]
      split at hx
      · rename_i hj
        rw [if_pos (by rw [hsz]; exact hj)] at hv
        rw [List.getElem?_append] at hx
        rw [Array.getElem?_append] at hv
        split at hx
        · rename_i hj'
          rw [if_pos (by simp; omega)] at hv
          exact r1 j v x (by simpa using hv) hx
        · rename_i hj'
          rw [if_neg (by simp; omega)] at hv
          rw [Array.getElem?_map] at hv
          obtain ⟨o', ho', rfl⟩ := Option.map_eq_some_iff.1 hv
          rw [List.getElem?_map] at hx
          obtain ⟨o2, ho2, rfl⟩ := Option.map_eq_some_iff.1 hx
          have : o' = o2 := by
            rw [Array.getElem?_toList, ← l1] at ho2
            simp only [List.size_toArray] at ho'
            rw [ho'] at ho2
            exact Option.some.inj ho2
          subst this
          exact h.ev o'
      · rename_i hj
        rw [if_neg (by rw [hsz]; exact hj)] at hv
        rw [hsz] at hv
        exact r2 _ v x (by simpa using hv) hx

/-- a method without a way to go, of a type that is no pointer -/
def mtab (P : Program) (t : TypeId) (name : String) : Option FuncId :=
  match P.info? t with
  | some i => match i.methods.find? (·.name == name) with
    | some m => match m.func, P.underlying t with
      | some (f, false), some d => match d with
        | .pointer _ => none
        | _ => if m.path.isEmpty then some f else none
      | some (f, true), some (.pointer _) => if m.path.isEmpty then some f else none
      | _, _ => none
    | none => none
  | none => none

theorem run_method {w : World} {t : TypeId} {name : String} {v : Value} (hm : mtab P t name = some f) (k : Nat) : (method (k + 1) t v name).run P w = .ok (f, v) w := by
  unfold mtab at hm
  split at hm
  · rename_i i hi
    split at hm
    · rename_i m hfind
      split at hm
      · rename_i f' d hmf hu
        split at hm
        · cases hm
        · rename_i hd
          split at hm
          · rename_i hp
            obtain rfl := Option.some.inj hm
            have hp' : m.path.toList = [] := by simpa using hp
            simp only [method, typeInfo, Sem.run_bind, run_program, Result.andThen_ok, hi, Sem.run_pure, hfind, hp', follow, hmf]
            have : (receiverAt t (.val v) false (if m.path.isEmpty then some ((name.splitOn ".").getLastD name) else none)).run P w = .ok v w := by
              unfold receiverAt
              simp only [Sem.run_bind, run_und hu, Result.andThen_ok]
              cases d <;> first | rfl | exact absurd rfl (hd _)
            simp only [this, Result.andThen_ok]
          · cases hm
      · rename_i f' e hmf hu
        split at hm
        · rename_i hp
          obtain rfl := Option.some.inj hm
          have hp' : m.path.toList = [] := by simpa using hp
          simp only [method, typeInfo, Sem.run_bind, run_program, Result.andThen_ok, hi, Sem.run_pure, hfind, hp', follow, hmf]
          have : (receiverAt t (.val v) true (if m.path.isEmpty then some ((name.splitOn ".").getLastD name) else none)).run P w = .ok v w := by
            unfold receiverAt
            simp only [Sem.run_bind, run_und hu, Result.andThen_ok]
            rfl
          simp only [this, Result.andThen_ok]
        · cases hm
      · cases hm
    · cases hm
  · cases hm

theorem ent_inv {args : Array Operand} {Ts : Array TypeId} {c : Operand} {name : String} {t : TypeId} {y : AV} (hc : Callable P f) (ho : o.op = .call ⟨.invoke c name, args, Ts⟩) (hv : ev st c = .ifc t y) (hm : mtab P t name = some f) : Ent P st o f (y :: args.toList.map (ev st)) := by
  intro own C w0 g a w h
  have hr := h.ev c
  rw [hv] at hr
  generalize hcv : a.eval c = cv at hr
  cases hr with
  | ifc _ v _ hy =>
    refine ⟨#[v] ++ args.map a.eval, ?_, by simp; omega, fun j u x hu hx => ?_⟩
    · have hmt : (method (P.types.size + Made.depth) t v name).run P w = .ok (f, v) w := by
        have hpos : 0 < Made.depth := by decide
        have hk : P.types.size + Made.depth = (P.types.size + Made.depth - 1) + 1 := by omega
        rw [hk]
        exact run_method hm _
      have hex : (#[Value.iface t v] ++ args.map a.eval).extract 1 (#[Value.iface t v] ++ args.map a.eval).size = args.map a.eval := by
        apply Array.ext'
        simp only [Array.toList_extract, Array.toList_append, List.extract_eq_take_drop]
        simp
        exact List.take_of_length_le (by simp)
      have h0 : (#[Value.iface t v] ++ args.map a.eval)[0]? = some (.iface t v) := by rw [Array.getElem?_append_left (by simp)]; rfl
      simp only [execOp, ho, resolve, hcv, Sem.run_bind, Sem.run_pure, Result.andThen_ok, invoke, h0, hex, callMethod, run_program, hmt, run_callFunc hc]
    · cases j with
      | zero =>
        rw [Array.getElem?_append_left (by simp)] at hu
        obtain rfl : v = u := by simpa using hu
        obtain rfl : y = x := by simpa using hx
        exact hy
      | succ j =>
        have hu' : (args.map a.eval)[j]? = some u := by
          rw [Array.getElem?_append_right (by simp)] at hu
          simpa using hu
        rw [Array.getElem?_map] at hu'
        obtain ⟨o', ho', rfl⟩ := Option.map_eq_some_iff.1 hu'
        simp only [List.getElem?_cons_succ, List.getElem?_map] at hx
        obtain ⟨o2, ho2, rfl⟩ := Option.map_eq_some_iff.1 hx
        rw [Array.getElem?_toList, ho'] at ho2
        obtain rfl := Option.some.inj ho2
        exact h.ev o'

end

section
variable {X : Ctx} {st : St} {K : St → Prop} {E : AV → St → Prop} {o : Oper} {f : FuncId} {D : Nm → Bool} {H : Nm → Option AO} {as avs : List AV} {R E0 : Nm → AV → (Nm → Option AO) → Prop}

theorem call_n (st : St) (d : Nat) (D : Nm → Bool) (H H' : Nm → Option AO) : (st.call d D H H').n = st.n ∧ (st.call d D H H').gl = st.gl := ⟨rfl, rfl⟩

/-- the inside of both rules -/
theorem call_sem (hF : FnE X.P X.gl f D as H R E0) (hEnt : Ent X.P st o f avs) (bor : Bool) (hB : BwL st.hp (if bor then D else fun _ => true) avs as) (hroot : ∀ n, Nm.under (.s (o.dst.getD X.n)) n = true → D n = false)
    (hH : ∀ n, D n = true → st.hp n = H n) (hHD : ∀ n, H n ≠ none → D n = true) (hext : ∀ k i j, X.ext (.u k i j) = true → D (.u k i j) = false ∨ H (.u k i j) ≠ none) (hdn : ∀ d, o.dst = some d → d < X.n)
    (hK : ∀ x H', R (.s (o.dst.getD X.n)) x H' → K ((st.call (o.dst.getD X.n) D H (if bor then hcln H' else H')).put o.dst (if bor then xcln x else x)))
    (hE : ∀ x H', E0 (.s (o.dst.getD X.n)) x H' → E (if bor then xcln x else x) (st.call (o.dst.getD X.n) D H (if bor then hcln H' else H'))) : SemOp X o K E st := by
  intro a w Q hR hQ
  obtain ⟨C, g, h1, h2, h3, h4, h5, hg⟩ := hR
  obtain ⟨args, hrun, hsz, hrel⟩ := hEnt _ _ _ _ _ _ hg
  unfold Oper.wp
  rw [hrun, Oper.upon_enter]
  let C1 : Nat → Prop := if bor then (fun b => b < w.heap.size ∧ ¬ ownH g H b) else C
  have ownlt : ∀ b, ownH g H b → ¬ C b ∧ b < w.heap.size := by
    rintro b ⟨n, hn, hk⟩
    obtain ⟨o, ho⟩ := Option.ne_none_iff_exists'.1 hn
    obtain ⟨x1, _, x3⟩ := hg.inv.blk n o b (by rw [hH n (hHD n hn)]; exact ho) hk
    exact ⟨x1, x3⟩
  have hC1 : ∀ b, C b → C1 b := by
    intro b hb
    cases bor with
    | true => exact ⟨hg.inv.clt b hb, fun ho => (ownlt b ho).1 hb⟩
    | false => exact hb
  have hC1lt : ∀ b, C1 b → b < w.heap.size := by
    intro b hb
    cases bor with
    | true => exact hb.1
    | false => exact hg.inv.clt b hb
  have hC1o : ∀ b, ownH g H b → ¬ C1 b := by
    intro b ho hb
    cases bor with
    | true => exact hb.2 ho
    | false => exact (ownlt b ho).1 hb
  have same : ∀ {v : Value} {x : AV}, RV g w v x → RV (g.more C1) w v x := fun hv => hv.more (fun b hb => hC1 b (hg.inv.hC ▸ hb))
  have hinv : Inv (ownH (g.more C1) H) C1 w (g.more C1) H w := by
    have get : ∀ n o, H n = some o → st.hp n = some o := fun n o e => by rw [hH n (hHD n (by rw [e]; simp)), e]
    refine ⟨rfl, rfl, rfl, Nat.le_refl _, fun _ _ _ => rfl, rfl, hC1lt, ?_, ?_, ?_⟩
    · intro n o e
      have := (hg.inv.obj n o (get n o e)).tr (g' := g.more C1) (w' := w) (n' := n) (f := some) (fun b hb => hC1 b (hg.inv.hC ▸ hb)) (fun _ _ => rfl) (fun k k' e => by obtain rfl := Option.some.inj e; exact ⟨rfl, rfl⟩) rfl (fun _ _ => rfl)
      rwa [AO.tr_some] at this
    · intro n o b e hk
      have ho : ownH g H b := ⟨n, by rw [e]; simp, hk⟩
      exact ⟨hC1o b ho, .inr ho, (ownlt b ho).2⟩
    · intro n n' o o' b e e' hk hk'
      exact hg.inv.inj n n' o o' b (get n o e) (get n' o' e') hk hk'
  have hargs : args.size = as.length ∧ ∀ (j : Nat) v x, args[j]? = some v → as[j]? = some x → RV (g.more C1) w v x := by
    refine ⟨hsz.trans hB.1, fun j v x hv hx => ?_⟩
    have hj : j < avs.length := by rw [hB.1]; exact (List.getElem?_eq_some_iff.1 hx).1
    have hb := hB.2 j _ x (List.getElem?_eq_getElem hj) hx
    have hr := hrel j v _ hv (List.getElem?_eq_getElem hj)
    refine RV.bw hg.inv hC1 (fun n o b hD hn hk => ?_) hb hr
    cases bor with
    | true =>
      obtain ⟨_, _, x3⟩ := hg.inv.blk n o b hn hk
      refine ⟨x3, ?_⟩
      rintro ⟨n', hn', hk'⟩
      obtain ⟨o', ho'⟩ := Option.ne_none_iff_exists'.1 hn'
      have := hg.inv.inj n n' o o' b hn (by rw [hH n' (hHD n' hn')]; exact ho') hk hk'
      simp only [if_true] at hD
      rw [this, hHD n' hn'] at hD
      cases hD
    | false => simp at hD
  have hgl : ∀ i row, X.gl i = some row → RV (g.more C1) w (.pointer (some ⟨i, 0, none⟩)) (.el row 0) ∧ ∀ f : Nm → Option Nm, row.map (AV.tr f) = row := by
    intro i row e
    obtain ⟨x1, x2⟩ := hg.glob i row (by rw [h4]; exact e)
    exact ⟨same x1, x2⟩
  -- the state behind
  have fin : ∀ {C' : Nat → Prop} {g' : Gh} {H' : Nm → Option AO} {x : AV} {v : Value} {w' : World}, After (ownH (g.more C1) H) C1 w (g.more C1) D (.s (o.dst.getD X.n)) H H' C' g' w' → RV g' w' v x →
      ∃ C'' g'', (∀ b, X.C0 b → C'' b) ∧ (∀ b, C'' b → X.C0 b ∨ X.w0.heap.size ≤ b ∨ X.own b) ∧ Ext X g'' ∧ Rg X.P X.own C'' X.w0 g'' (st.call (o.dst.getD X.n) D H (if bor then hcln H' else H')) a w' ∧ RV g'' w' v (if bor then xcln x else x) := by
    intro C' g' H' x v w' hA hv
    have ownw0 : ∀ b, ownH g H b → X.w0.heap.size ≤ b ∨ X.own b := by
      rintro b ⟨n, hn, hk⟩
      obtain ⟨o, ho⟩ := Option.ne_none_iff_exists'.1 hn
      exact (hg.inv.blk n o b (by rw [hH n (hHD n hn)]; exact ho) hk).2.1
    have ext : ∀ g'' : Gh, (∀ k i j, D (.u k i j) = false ∨ H (.u k i j) ≠ none → g''.φ (.u k i j) = g.φ (.u k i j) ∧ g''.κ (.u k i j) = g.κ (.u k i j)) → Ext X g'' := by
      intro g'' hu k i j e
      obtain ⟨x1, x2⟩ := hu k i j (hext k i j e)
      obtain ⟨y1, y2⟩ := h5 k i j e
      exact ⟨x1.trans y1, x2.trans y2⟩
    cases bor with
    | false =>
      have hA' : After (ownH g H) C1 w (g.more C1) D (.s (o.dst.getD X.n)) H H' C' g' w' := hA
      have gg : g'.more C' = g' := by
        have := hA.inv.hC
        obtain ⟨c, p, k⟩ := g'
        simp only at this
        subst this
        rfl
      obtain ⟨r1, r2⟩ := hg.after (C'' := C') (H'' := H') hH hHD hA' (fun b hb => hA.mono b hb) (fun b hb => by
        rcases hA.new b hb with x | x
        · exact .inl x
        · exact .inr ⟨hb, x⟩) (fun _ _ e => e) (fun n o' e => by rw [gg]; exact hA.inv.obj n o' e)
      rw [gg] at r1 r2
      refine ⟨C', g', fun b hb => hA.mono b (h1 b hb), fun b hb => ?_, ext g' r2, r1, hv⟩
      rcases hA.new b hb with x | x | x
      · exact h2 b x
      · exact .inr (.inl (Nat.le_trans hg.inv.size x))
      · exact .inr (ownw0 b x)
    | true =>
      have hA' : After (ownH g H) C1 w (g.more C1) D (.s (o.dst.getD X.n)) H H' C' g' w' := hA
      obtain ⟨r1, r2⟩ := hg.after (C'' := C) (H'' := hcln H') hH hHD hA' (fun b hb => hb) (fun b hb => .inl hb) (fun n o' e => by
        simp only [hcln] at e
        split at e
        · rename_i o2 e2
          split at e
          · rw [e2]; exact e
          · cases e
        · cases e) (fun n o' e => by
        simp only [hcln] at e
        split at e
        · rename_i o2 e2
          split at e
          · rename_i hcl
            obtain rfl := Option.some.inj e
            have ho := hA.inv.obj n o2 e2
            cases o2 with
            | row z rows =>
              simp only [OAt] at ho ⊢
              change match g'.φ n with | some b => RowAt (g'.more C) w' b (g'.κ n) z rows | none => rows = []
              cases hk : g'.φ n with
              | none => rw [hk] at ho; exact ho
              | some b =>
                rw [hk] at ho
                obtain ⟨cur, T, c1, c2, c3, c4, c5, c6, c7⟩ := ho
                exact ⟨cur, T, c1, c2, c3, c4, c5, c6, fun i row hrow j y hy => (c7 i row hrow j y hy).cln C (List.all_eq_true.1 (List.all_eq_true.1 hcl row (List.mem_of_getElem? hrow)) y (List.mem_of_getElem? hy))⟩
            | map es =>
              simp only [OAt] at ho ⊢
              change match g'.φ n with | some b => MapAt (g'.more C) w' b es | none => False
              cases hk : g'.φ n with
              | none => rw [hk] at ho; exact ho
              | some b =>
                rw [hk] at ho
                obtain ⟨ms, clock, c1, c2, c3⟩ := ho
                refine ⟨ms, clock, c1, c2, fun i m e' hm he' => ?_⟩
                have := List.all_eq_true.1 hcl e' (List.mem_of_getElem? he')
                simp only [Bool.and_eq_true] at this
                exact ⟨(c3 i m e' hm he').1.cln C this.1, (c3 i m e' hm he').2.cln C this.2⟩
          · cases e
        · cases e)
      refine ⟨C, g'.more C, h1, h2, ext _ r2, r1, ?_⟩
      simp only [if_true, xcln]
      split
      · rename_i hcl
        exact hv.cln C hcl
      · exact .bot v
  refine (hF.2 (.s (o.dst.getD X.n)) C1 w (g.more C1) args hroot rfl hHD hinv hgl hargs.1 hargs.2).mono ?_
  intro e w' he
  cases e with
  | returned v =>
    obtain ⟨C', g', H', x, hA, hv, hRx⟩ := he
    obtain ⟨C'', g'', x1, x2, x3, x4, x5⟩ := fin hA hv
    refine ⟨_, ⟨C'', g'', x1, x2, ?_, ?_, x3, x4.put (fun t e => ?_) x5⟩, hK x H' hRx⟩
    · rw [put_n]; exact h3
    · rw [put_gl]; exact h4
    · show t < st.n
      rw [h3]; exact hdn t e
  | panicked ch =>
    obtain ⟨C', g', H', x, v, hA, rfl, hv, hRx⟩ := he
    obtain ⟨C'', g'', x1, x2, x3, x4, x5⟩ := fin hA hv
    exact hQ v w' (st.call (o.dst.getD X.n) D H (if bor then hcln H' else H')) (if bor then xcln x else x) ⟨C'', g'', x1, x2, h3, h4, x3, x4, x5⟩ (hE x H' hRx)
  | outgrown => exact he.elim

end
end Go.Hm
end

section
/-
  The heap machine, part 14: regions and codes. Own work; generic in the program.
-/
namespace Go.Hm
open Go Go.RowKit

/-- the ways out of a code -/
inductive Ex where
  | normal
  | exit (id : Nat)
  | goto (l : Nat)
  | ret
  | pan (x : AV)

def postS (X : Ctx) (Q : Ex → St → Prop) : Exit → Act → World → Prop
  | .normal, a, w => ∃ st, Rw X st a w ∧ Q .normal st
  | .exit id, a, w => ∃ st, Rw X st a w ∧ Q (.exit id) st
  | .goto l, a, w => ∃ st, Rw X st a w ∧ Q (.goto l) st
  | .ret, a, w => ∃ st, Rw X st a w ∧ Q .ret st
  | .panic ch, a, w => ∃ st v x, RwV X st a w v x ∧ ch = [{ v := v, recovered := false }] ∧ Q (.pan x) st
  | .outgrown, _, _ => False

def SemCode (X : Ctx) (c : Code) (Q : Ex → St → Prop) (st : St) : Prop := ∀ a w, Rw X st a w → c.wp X.P (postS X Q) a w

/-- an operation with its guard, in a region of operations with the slots ds -/
def SemG (X : Ctx) (ds : List (Option Nat)) (o : Oper) (K : St → Prop) (E : AV → St → Prop) (st : St) : Prop :=
  ∀ (ops : Array Oper) (i : Nat), ops.toList.map (·.dst) = ds → ops[i]? = some o →
    ∀ (a : Act) (w : World) (Q : Exit → Act → World → Prop), Rw X st a w → (∀ v w' st' x, RwV X st' a w' v x → E x st' → Q (.panic [{ v := v, recovered := false }]) a w') →
      wpOp X.P ops Q i (fun a' w' => ∃ st', Rw X st' a' w' ∧ K st') a w
/-- operations, one after the other -/
def SemL (X : Ctx) (ds : List (Option Nat)) (K : St → Prop) (E : AV → St → Prop) : List Oper → St → Prop
  | [], st => K st
  | o :: l, st => SemG X ds o (SemL X ds K E l) E st
/-- a region in an order that is drawn -/
def SemD (X : Ctx) (ops : Array Oper) (K : St → Prop) (E : AV → St → Prop) (st : St) : Prop :=
  ∀ (a : Act) (w : World) (Q : Exit → Act → World → Prop), Rw X st a w → (∀ a' w' st', Rw X st' a' w' → K st' → Q .normal a' w') → (∀ a' v w' st' x, RwV X st' a' w' v x → E x st' → Q (.panic [{ v := v, recovered := false }]) a' w') →
    wpAny X.P .any ops Q ops.size (Array.replicate ops.size false) a w

section
variable {X : Ctx} {st : St} {a : Act} {w : World} {K : St → Prop} {E : AV → St → Prop} {ds : List (Option Nat)} {o : Oper}

theorem wanted_none {o : Oper} {y : Nat → Option Bool} (h : o.guard = none) : Region.wanted o y = true := by simp [Region.wanted, h]

theorem put_same {d : Nat} {x : AV} (h : st.tm d = x) : st.put (some d) x = st := by
  obtain ⟨tm, hp, n, gl⟩ := st
  simp only [St.put] at h ⊢
  congr 1
  funext t
  split
  · rename_i e; rw [e, h]
  · rfl

theorem Rw.slot_sc {t : Nat} {u : Value} (h : Rw X st a w) (ht : st.tm t = .sc u) : a.tmps.getD t undef = u := by
  obtain ⟨C, g, _, _, _, _, _, hr⟩ := h
  have := hr.slots t
  rw [ht] at this
  exact this.sc_eq
theorem Rw.size (h : Rw X st a w) : a.tmps.size = X.n := by
  obtain ⟨C, g, _, _, h3, _, _, hr⟩ := h
  rw [hr.size, h3]
theorem Rw.yielded {ops : Array Oper} {j d : Nat} {t : Bool} (h : Rw X st a w) (hd : (ops.toList.map (·.dst))[j]? = some (some d)) (ht : st.tm d = .sc (.bool t)) : yielded ops a.tmps j = some t := by
  have hd : (ops[j]?).bind (·.dst) = some d := by
    rw [List.getElem?_map] at hd
    obtain ⟨o', ho', e⟩ := Option.map_eq_some_iff.1 hd
    rw [Array.getElem?_toList] at ho'
    rw [ho']
    exact e
  have hv := h.slot_sc ht
  have hlt : d < a.tmps.size := by
    refine Nat.lt_of_not_le fun hge => ?_
    rw [Array.getD_eq_getD_getElem?, Array.getElem?_eq_none hge] at hv
    simp [undef] at hv
  unfold Go.yielded
  rw [hd]
  simp only [Option.bind_some]
  rw [Array.getD_eq_getD_getElem?, Array.getElem?_eq_getElem hlt] at hv
  simp only [Option.getD_some] at hv
  rw [Array.getElem?_eq_getElem hlt, hv]
theorem Rw.putU (h : Rw X st a w) (dst : Option Nat) (hn : ∀ d, dst = some d → d < X.n) : Rw X (st.put dst (.sc undef)) (a.put dst undef) w := by
  obtain ⟨C, g, h1, h2, h3, h4, h5, hr⟩ := h
  exact ⟨C, g, h1, h2, (put_n _ _ _).trans h3, (put_gl _ _ _).trans h4, h5, hr.put (fun t e => by rw [h3]; exact hn t e) (.sc _)⟩

theorem g_none (hg : o.guard = none) (h : SemOp X o K E st) : SemG X ds o K E st := by
  intro ops i hds hi a w Q hR hE
  unfold wpOp
  simp only [hi]
  rw [if_pos (wanted_none hg)]
  exact .inl (h a w Q hR hE)
theorem g_split {j d : Nat} {want t : Bool} (hg : o.guard = some (j, want)) (hd : ds[j]? = some (some d)) (ht : st.tm d = .sc (.bool t)) (h1 : t = want → SemOp X o K E st) (h2 : t = !want → (∀ e, o.dst = some e → e < X.n) ∧ K (st.put o.dst (.sc undef))) : SemG X ds o K E st := by
  intro ops i hds hi a w Q hR hE
  unfold wpOp
  simp only [hi]
  have hy := hR.yielded (ops := ops) (by rw [hds]; exact hd) ht
  by_cases htw : t = want
  · rw [if_pos (by simp [Region.wanted, hg, hy, htw])]
    exact .inl (h1 htw a w Q hR hE)
  · rw [if_neg (by simp [Region.wanted, hg, hy, htw])]
    have hnot : t = !want := by cases t <;> cases want <;> simp_all
    obtain ⟨hn, hK⟩ := h2 hnot
    exact ⟨_, hR.putU o.dst hn, hK⟩
theorem g_true {j d : Nat} {want : Bool} (hg : o.guard = some (j, want)) (hd : ds[j]? = some (some d)) (ht : st.tm d = .sc (.bool want)) (h : SemOp X o K E st) : SemG X ds o K E st :=
  g_split hg hd ht (fun _ => h) (fun e => by cases want <;> cases e)
theorem g_false {j d : Nat} {want : Bool} (hg : o.guard = some (j, want)) (hd : ds[j]? = some (some d)) (ht : st.tm d = .sc (.bool (!want))) (hn : ∀ e, o.dst = some e → e < X.n) (h : K (st.put o.dst (.sc undef))) : SemG X ds o K E st :=
  g_split hg hd ht (fun e => by cases want <;> cases e) (fun _ => ⟨hn, h⟩)

/-- the guard's own operation was not done -/
theorem g_undef {j d : Nat} {want : Bool} (hg : o.guard = some (j, want)) (hd : ds[j]? = some (some d)) (ht : st.tm d = .sc undef) (hn : ∀ e, o.dst = some e → e < X.n) (h : K (st.put o.dst (.sc undef))) : SemG X ds o K E st := by
  intro ops i hds hi a w Q hR hE
  unfold wpOp
  simp only [hi]
  have hy : yielded ops a.tmps j = none := by
    have hd : (ops[j]?).bind (·.dst) = some d := by
      rw [← hds, List.getElem?_map] at hd
      obtain ⟨o', ho', e⟩ := Option.map_eq_some_iff.1 hd
      rw [Array.getElem?_toList] at ho'
      rw [ho']
      exact e
    have hv := hR.slot_sc ht
    unfold Go.yielded
    rw [hd]
    simp only [Option.bind_some]
    rw [Array.getD_eq_getD_getElem?] at hv
    cases hx : a.tmps[d]? with
    | none => rfl
    | some v =>
      rw [hx] at hv
      simp only [Option.getD_some] at hv
      rw [hv]
      rfl
  rw [if_neg (by simp [Region.wanted, hg, hy])]
  exact ⟨_, hR.putU o.dst hn, h⟩

theorem SemL.sound {ops : Array Oper} {Q : Exit → Act → World → Prop} (hQ : ∀ a' w' st', Rw X st' a' w' → K st' → Q .normal a' w') (hE : ∀ a' v w' st' x, RwV X st' a' w' v x → E x st' → Q (.panic [{ v := v, recovered := false }]) a' w') :
    ∀ (l : List Oper) (k : Nat), ops.toList.drop k = l → ∀ st, SemL X (ops.toList.map (·.dst)) K E l st → ∀ a w, Rw X st a w → wpOps X.P ops Q (List.range' k l.length) a w
  | [], k, _, st, h, a, w, hR => hQ a w st hR h
  | o :: l, k, hl, st, h, a, w, hR => by
    have hk : ops[k]? = some o := by
      rw [← Array.getElem?_toList, ← Nat.add_zero k, ← List.getElem?_drop, hl]; rfl
    rw [List.length_cons, List.range'_succ, wpOps_cons]
    refine wpOp_mono (fun a' w' he => ?_) (h ops k rfl hk a w Q hR (fun v w' st' x h1 h2 => hE a v w' st' x h1 h2))
    obtain ⟨st', hR', hK'⟩ := he
    refine SemL.sound hQ hE l (k + 1) ?_ st' hK' a' w' hR'
    rw [← List.drop_drop, hl]
    rfl

theorem Rw.drawn (h : Rw X st a w) (k : Nat) : Rw X st a { w with drawn := k } := by
  obtain ⟨C, g, h1, h2, h3, h4, h5, hr⟩ := h
  have s1 := hr.step (g' := g) (w' := { w with drawn := k }) (f := some) (hp' := st.hp) rfl (fun n n' e => by obtain rfl := Option.some.inj e; exact ⟨rfl, rfl⟩) rfl rfl rfl (Nat.le_refl _) (fun _ _ => rfl) (fun _ _ _ => rfl)
    (fun n o e => .inl ⟨n, o, rfl, e, (AO.tr_some o).symm, fun _ _ => rfl⟩)
  have e : st.nm some st.hp = st := by simp only [St.nm, AV.tr_some]
  rw [e] at s1
  exact ⟨C, g, h1, h2, h3, h4, h5, s1⟩

/-! ### Codes -/
def thenS (K : St → Prop) (Q : Ex → St → Prop) : Ex → St → Prop
  | .normal, st => K st
  | e, st => Q e st
def inBlockS (id : Nat) (Q : Ex → St → Prop) : Ex → St → Prop
  | .exit id', st => if id' = id then Q .normal st else Q (.exit id') st
  | e, st => Q e st

theorem postS_mono {Q Q' : Ex → St → Prop} (hQ : ∀ e s, Q e s → Q' e s) : ∀ e a w, postS X Q e a w → postS X Q' e a w := by
  intro e a w h
  cases e with
  | normal => obtain ⟨s, h1, h2⟩ := h; exact ⟨s, h1, hQ _ _ h2⟩
  | exit id => obtain ⟨s, h1, h2⟩ := h; exact ⟨s, h1, hQ _ _ h2⟩
  | goto l => obtain ⟨s, h1, h2⟩ := h; exact ⟨s, h1, hQ _ _ h2⟩
  | ret => obtain ⟨s, h1, h2⟩ := h; exact ⟨s, h1, hQ _ _ h2⟩
  | panic ch => obtain ⟨s, v, x, h1, h2, h3⟩ := h; exact ⟨s, v, x, h1, h2, hQ _ _ h3⟩
  | outgrown => exact h
theorem SemCode.mono {c : Code} {Q Q' : Ex → St → Prop} (h : SemCode X c Q st) (hQ : ∀ e s, Q e s → Q' e s) : SemCode X c Q' st :=
  fun a w hR => wp_mono (h a w hR) (postS_mono hQ)

theorem w_skip {Q : Ex → St → Prop} (h : Q .normal st) : SemCode X .skip Q st := fun _ _ hR => wp_skip ⟨st, hR, h⟩
theorem w_label {l : Nat} {Q : Ex → St → Prop} (h : Q .normal st) : SemCode X (.label l) Q st := fun _ _ hR => wp_label ⟨st, hR, h⟩
theorem w_exit {id : Nat} {Q : Ex → St → Prop} (h : Q (.exit id) st) : SemCode X (.exit id) Q st := fun _ _ hR => wp_exit ⟨st, hR, h⟩
theorem w_goto {l : Nat} {Q : Ex → St → Prop} (h : Q (.goto l) st) : SemCode X (.goto l) Q st := fun _ _ hR => wp_goto ⟨st, hR, h⟩
theorem w_ret {Q : Ex → St → Prop} (h : Q .ret st) : SemCode X .ret Q st := fun _ _ hR => wp_ret ⟨st, hR, h⟩
theorem w_seq {c d : Code} {Q : Ex → St → Prop} (h : SemCode X c (thenS (SemCode X d Q) Q) st) : SemCode X (.seq c d) Q st := by
  intro a w hR
  refine wp_seq (wp_mono (h a w hR) fun e a' w' he => ?_)
  cases e with
  | normal => obtain ⟨st', hR', hQ⟩ := he; exact hQ a' w' hR'
  | exit id => exact he
  | goto l => exact he
  | ret => exact he
  | panic ch => exact he
  | outgrown => exact he
theorem w_cond {c : Operand} {x y : Code} {Q : Ex → St → Prop} {t : Bool} (ht : ev st c = .sc (.bool t)) (h1 : t = true → SemCode X x Q st) (h2 : t = false → SemCode X y Q st) : SemCode X (.cond c x y) Q st := by
  intro a w hR
  have hv : a.eval c = .bool t := by
    obtain ⟨C, g, _, _, _, _, _, hr⟩ := hR
    exact (ht ▸ hr.ev c).sc_eq
  exact wp_cond_split hv (fun e => h1 e a w hR) (fun e => h2 e a w hR)
theorem w_cond_t {c : Operand} {x y : Code} {Q : Ex → St → Prop} (h1 : SemCode X x Q st) (ht : ev st c = .sc (.bool true)) : SemCode X (.cond c x y) Q st := w_cond ht (fun _ => h1) (fun e => by cases e)
theorem w_cond_f {c : Operand} {x y : Code} {Q : Ex → St → Prop} (h1 : SemCode X y Q st) (ht : ev st c = .sc (.bool false)) : SemCode X (.cond c x y) Q st := w_cond ht (fun e => by cases e) (fun _ => h1)
theorem w_block {id : Nat} {c : Code} {Q : Ex → St → Prop} (h : SemCode X c (inBlockS id Q) st) : SemCode X (.block id c) Q st := by
  intro a w hR
  refine wp_block (wp_mono (h a w hR) fun e a' w' he => ?_)
  cases e with
  | exit id' =>
    obtain ⟨st', hR', hQ⟩ := he
    simp only [Exit.inBlock]
    simp only [inBlockS] at hQ
    split
    · rename_i e; rw [if_pos e] at hQ; exact ⟨st', hR', hQ⟩
    · rename_i e; rw [if_neg e] at hQ; exact ⟨st', hR', hQ⟩
  | normal => exact he
  | goto l => exact he
  | ret => exact he
  | panic ch => exact he
  | outgrown => exact he

theorem least {p : Nat → Prop} (h : ∃ n, p n) : ∃ n, p n ∧ ∀ m, p m → n ≤ m := by
  obtain ⟨n, hn⟩ := h
  induction n using Nat.strongRecOn with
  | _ n ih =>
    by_cases hl : ∃ m, m < n ∧ p m
    · obtain ⟨m, h1, h2⟩ := hl
      exact ih m h1 h2
    · exact ⟨n, hn, fun m hm => Nat.le_of_not_lt fun hlt => hl ⟨m, hlt, hm⟩⟩

theorem w_loop {c : Code} {Q : Ex → St → Prop} (I : Nat → St → Prop) (n0 : Nat) (h0 : I n0 st) (hround : ∀ n s, s.n = X.n → s.gl = X.gl → I n s → SemCode X c (thenS (fun s' => ∃ m, m < n ∧ I m s') Q) s) : SemCode X (.loop c) Q st := by
  intro a w hR
  let J : Nat → Act → World → Prop := fun n a w => ∃ st, Rw X st a w ∧ I n st
  let μ : Act → World → Nat := fun a w => open Classical in if h : ∃ n, J n a w then (least h).choose else 0
  have hμ : ∀ n a w, J n a w → μ a w ≤ n := by
    intro n a w hJ
    have hex : ∃ n, J n a w := ⟨n, hJ⟩
    simp only [μ, dif_pos hex]
    exact (least hex).choose_spec.2 n hJ
  refine wp_loop (fun a w => ∃ n, J n a w) μ ⟨n0, st, hR, h0⟩ fun a w hJ => ?_
  have hspec : J (μ a w) a w := by
    simp only [μ, dif_pos hJ]
    exact (least hJ).choose_spec.1
  obtain ⟨st1, hR1, hI1⟩ := hspec
  have hR1' := hR1
  obtain ⟨C, g, x1, x2, x3, x4, x5, x6⟩ := hR1
  refine wp_mono (hround _ st1 x3 x4 hI1 a w hR1') fun e a' w' he => ?_
  cases e with
  | normal =>
    obtain ⟨st', hR', m, hlt, hI⟩ := he
    exact ⟨⟨m, st', hR', hI⟩, Nat.lt_of_le_of_lt (hμ m a' w' ⟨st', hR', hI⟩) hlt⟩
  | exit id => exact he
  | goto l => exact he
  | ret => exact he
  | panic ch => exact he
  | outgrown => exact he

theorem w_region {id : Nat} {ops : Array Oper} {Q : Ex → St → Prop} (h : ∀ K : St → Prop, (∀ s, Q .normal s → K s) → SemL X (ops.toList.map (·.dst)) K (fun x => Q (.pan x)) ops.toList st) : SemCode X (.region id ops false) Q st := by
  intro a w hR
  refine wp_region ?_
  rw [List.range_eq_range']
  have := SemL.sound (ops := ops) (Q := postS X Q) (fun a' w' st' h1 h2 => ⟨st', h1, h2⟩) (fun a' v w' st' x h1 h2 => ⟨st', v, x, h1, rfl, h2⟩) ops.toList 0 rfl st (h _ (fun _ h => h)) a w hR
  simpa using this
theorem w_draw {id : Nat} {ops : Array Oper} {Q : Ex → St → Prop} (hm : X.P.follows .mixedOrders = true) (h : ∀ K : St → Prop, (∀ s, Q .normal s → K s) → SemD X ops K (fun x => Q (.pan x)) st) : SemCode X (.region id ops true) Q st := by
  intro a w hR
  exact wp_region_any hm (h _ (fun _ h => h) a _ _ (hR.drawn _) (fun a' w' st' h1 h2 => ⟨st', h1, h2⟩) (fun a' v w' st' x h1 h2 => ⟨st', v, x, h1, rfl, h2⟩))

theorem then_normal {K : St → Prop} {Q : Ex → St → Prop} (h : K st) : thenS K Q .normal st := h
theorem in_exit {Q : Ex → St → Prop} {id : Nat} (h : Q .normal st) : inBlockS id Q (.exit id) st := by simp [inBlockS, h]
theorem in_other {Q : Ex → St → Prop} {id id' : Nat} (hne : id' ≠ id) (h : Q (.exit id') st) : inBlockS id Q (.exit id') st := by simp [inBlockS, hne, h]

/-! ### Steps that run no code -/
theorem w_move {c : Code} {Q : Ex → St → Prop} (n0 n1 : Nm) (h0 : n0.isU = false ∨ X.ext n0 = false) (h1 : n1.isU = false ∨ X.ext n1 = false) (h : SemCode X c Q (st.move n0 n1)) : SemCode X c Q st :=
  fun a w hR => h a w (hR.move n0 n1 h0 h1)
theorem w_nil {c : Code} {Q : Ex → St → Prop} (t z : Nat) (ht : t < X.n) (hv : st.tm t = .sc (.slice none 0 0)) (h : SemCode X c Q (st.nilAt t z)) : SemCode X c Q st :=
  fun a w hR => h a w (hR.nilAt t z ht hv)

end
end Go.Hm
end

section
/-
  The heap machine, part 15: what a function does, from its body. Own work; generic in the program.
-/
namespace Go.Hm
open Go Go.RowKit

/-- called by a slot, or by a place in what is -/
def Nm.sroot : Nm → Bool
  | .s _ => true
  | .u _ _ _ => false
  | .c n _ _ => n.sroot

theorem Nm.under_trans {a b : Nm} (h : Nm.under a b = true) : ∀ {c : Nm}, Nm.under b c = true → Nm.under a c = true := by
  intro c
  induction c with
  | s d => intro h'; simp [Nm.under] at h'; rw [← h'] at h; exact h
  | u k i j => intro h'; simp [Nm.under] at h'; rw [← h'] at h; exact h
  | c n i j ih =>
    intro h'
    simp only [Nm.under, Bool.or_eq_true, decide_eq_true_eq] at h'
    rcases h' with h' | h'
    · rw [← h'] at h; exact h
    · simp [Nm.under, ih h']
theorem Nm.sroot_under {a b : Nm} (ha : a.sroot = true) : Nm.under a b = true → b.sroot = true := by
  induction b with
  | s d => intro _; rfl
  | u k i j => intro h; simp [Nm.under] at h; rw [← h] at ha; exact ha
  | c n i j ih =>
    intro h
    simp only [Nm.under, Bool.or_eq_true, decide_eq_true_eq] at h
    rcases h with h | h
    · rw [← h] at ha; exact ha
    · exact ih h
theorem Nm.under_not_c {n m : Nm} {i j : Nat} (h : Nm.under (.c n i j) m = true) : Nm.under n m = true ∧ m ≠ n := by
  induction m with
  | s d => simp [Nm.under] at h
  | u k i j => simp [Nm.under] at h
  | c q i' j' ih =>
    simp only [Nm.under, Bool.or_eq_true, decide_eq_true_eq] at h
    have hu : Nm.under n q = true := by
      rcases h with h | h
      · injection h with e1 e2 e3; rw [e1]; exact Nm.under_self n
      · exact (ih h).1
    refine ⟨by simp [Nm.under, hu], ?_⟩
    exact Nm.not_under_c hu
theorem Nm.c_disj {n m : Nm} {i j i' j' : Nat} (hne : ¬ (i = i' ∧ j = j')) (h : Nm.under (.c n i j) m = true) : Nm.under (.c n i' j') m = false := by
  induction m with
  | s d => simp [Nm.under]
  | u k a b => simp [Nm.under]
  | c q a b ih =>
    simp only [Nm.under, Bool.or_eq_true, decide_eq_true_eq] at h
    simp only [Nm.under, Bool.or_eq_false_iff, decide_eq_false_iff_not]
    rcases h with h | h
    · injection h with e1 e2 e3
      subst e1; subst e2; subst e3
      refine ⟨fun e => ?_, ?_⟩
      · injection e with e1 e2 e3
        exact hne ⟨e2, e3⟩
      · cases hx : Nm.under (.c q i' j') q with
        | false => rfl
        | true => exact absurd rfl (Nm.under_not_c hx).2
    · refine ⟨fun e => ?_, ih h⟩
      injection e with e1 e2 e3
      subst e1
      exact absurd rfl (Nm.under_not_c h).2

/-- the names of what is handed back -/
def finf (D : Nm → Bool) : List (Nm × Nm) → Nm → Option Nm
  | [], m => if D m then some m else none
  | p :: l, m => if Nm.under p.1 m then some (Nm.ren p.1 p.2 m) else finf D l m
/-- the name that is called so behind -/
def fing : List (Nm × Nm) → Nm → Option Nm
  | [], _ => none
  | p :: l, m => if Nm.under p.2 m then some (Nm.ren p.2 p.1 m) else fing l m
def finH (D : Nm → Bool) (sbs : List (Nm × Nm)) (hp : Nm → Option AO) : Nm → Option AO := fun m =>
  if D m then (hp m).map (AO.tr (finf D sbs)) else match fing sbs m with
    | some q => if finf D sbs q = some m then (hp q).map (AO.tr (finf D sbs)) else none
    | none => none
structure OkS (D : Nm → Bool) (root : Nm) (sbs : List (Nm × Nm)) : Prop where
  src : ∀ p ∈ sbs, p.1.sroot = true
  tgt : ∀ p ∈ sbs, Nm.under root p.2 = true
  dis : sbs.Pairwise (fun p q => ∀ m, Nm.under p.2 m = true → Nm.under q.2 m = false)

theorem OkS.nil {D : Nm → Bool} {root : Nm} : OkS D root [] := ⟨by simp, by simp, by simp⟩
theorem OkS.one {D : Nm → Bool} {root n : Nm} (h : n.sroot = true) : OkS D root [(n, root)] := ⟨by simp [h], by simp [Nm.under_self], by simp⟩

theorem finf_D {D : Nm → Bool} {m : Nm} (hD : ∀ m, D m = true → m.sroot = false) (hm : D m = true) : ∀ {sbs : List (Nm × Nm)}, (∀ p ∈ sbs, p.1.sroot = true) → finf D sbs m = some m
  | [], _ => by simp [finf, hm]
  | p :: l, h => by
    have : Nm.under p.1 m = false := by
      cases e : Nm.under p.1 m with
      | false => rfl
      | true =>
        have := Nm.sroot_under (h p (by simp)) e
        rw [hD m hm] at this
        cases this
    simp only [finf, this]
    exact finf_D hD hm (fun q hq => h q (by simp [hq]))

theorem finf_img {D : Nm → Bool} {root : Nm} : ∀ {sbs : List (Nm × Nm)} {m x : Nm}, (∀ p ∈ sbs, Nm.under root p.2 = true) → finf D sbs m = some x → (D m = true ∧ x = m) ∨ ∃ p ∈ sbs, Nm.under p.2 x = true
  | [], m, x, _, h => by
    simp only [finf] at h
    split at h
    · rename_i hD; exact .inl ⟨hD, (Option.some.inj h).symm⟩
    · cases h
  | p :: l, m, x, ht, h => by
    simp only [finf] at h
    split at h
    · rename_i hu
      obtain rfl := Option.some.inj h
      exact .inr ⟨p, by simp, Nm.under_ren m hu⟩
    · rcases finf_img (fun q hq => ht q (by simp [hq])) h with h | ⟨q, h1, h2⟩
      · exact .inl h
      · exact .inr ⟨q, by simp [h1], h2⟩

theorem finf_inj {D : Nm → Bool} {root : Nm} (hroot : ∀ m, Nm.under root m = true → D m = false) : ∀ {sbs : List (Nm × Nm)}, (∀ p ∈ sbs, Nm.under root p.2 = true) → sbs.Pairwise (fun p q => ∀ m, Nm.under p.2 m = true → Nm.under q.2 m = false) →
    ∀ k k' x, finf D sbs k = some x → finf D sbs k' = some x → k = k'
  | [], _, _, k, k', x, h, h' => by
    simp only [finf] at h h'
    split at h
    · split at h'
      · exact (Option.some.inj h).trans (Option.some.inj h').symm
      · cases h'
    · cases h
  | p :: l, ht, hd, k, k', x, h, h' => by
    have hl := List.pairwise_cons.1 hd
    have cross : ∀ k k' x, Nm.under p.1 k = true → some (Nm.ren p.1 p.2 k) = some x → finf D l k' = some x → False := by
      intro k k' x hu e e'
      obtain rfl := Option.some.inj e
      have hx := Nm.under_ren (k1 := p.2) k hu
      rcases finf_img (fun q hq => ht q (by simp [hq])) e' with ⟨hD, e2⟩ | ⟨q, hq, hq2⟩
      · have := hroot _ (Nm.under_trans (ht p (by simp)) hx)
        rw [e2, hD] at this
        cases this
      · have := hl.1 q hq _ hx
        rw [hq2] at this
        cases this
    simp only [finf] at h h'
    split at h
    · rename_i hu
      split at h'
      · rename_i hu'
        exact Nm.ren_inj _ _ hu hu' ((Option.some.inj h).trans (Option.some.inj h').symm)
      · exact (cross k k' x hu h h').elim
    · split at h'
      · rename_i hu'
        exact (cross k' k x hu' h' h).elim
      · exact finf_inj hroot (fun q hq => ht q (by simp [hq])) hl.2 k k' x h h'

/-! ### Results -/
def resL (P : Program) (st : St) : List ResultVar → Option (List AV)
  | [] => some []
  | .tmp t :: l => (resL P st l).map (st.tm t :: ·)
  | .cell t T :: l => ((cellsAt st (st.tm t)).bind (fun p => getC P T p.1 p.2)).bind fun x => (resL P st l).map (x :: ·)
def res1 : List AV → AV
  | [x] => x
  | l => .tup l
def resOne (tmps : Array Value) : ResultVar → Sem Value
  | .tmp t => pure (tmps.getD t undef)
  | .cell x t => do loadVar t (← asAddr (tmps.getD x undef))

section
variable {P : Program} {own : Nat → Prop} {C : Nat → Prop} {w0 : World} {g : Gh} {st : St} {a : Act} {w : World}

theorem resL_ok (h : Rg P own C w0 g st a w) : ∀ (l : List ResultVar) (xs : List AV), resL P st l = some xs →
    ∃ vs : List Value, (l.mapM (resOne a.tmps)).run P w = .ok vs w ∧ vs.length = xs.length ∧ ∀ (j : Nat) v x, vs[j]? = some v → xs[j]? = some x → RV g w v x
  | [], xs, hq => by
    simp only [resL] at hq
    obtain rfl := Option.some.inj hq
    exact ⟨[], by simp, rfl, by simp⟩
  | .tmp t :: l, xs, hq => by
    simp only [resL] at hq
    obtain ⟨m, hm, rfl⟩ := Option.map_eq_some_iff.1 hq
    obtain ⟨vs, e1, e2, e3⟩ := resL_ok h l m hm
    refine ⟨a.tmps.getD t undef :: vs, ?_, by simp [e2], fun j v x hv hx => ?_⟩
    · simp only [List.mapM_cons, resOne, Sem.run_bind, Sem.run_pure, Result.andThen_ok, e1]
    · cases j with
      | zero =>
        obtain rfl := Option.some.inj hv
        obtain rfl := Option.some.inj hx
        exact h.slots t
      | succ j => exact e3 j v x (by simpa using hv) (by simpa using hx)
  | .cell t T :: l, xs, hq => by
    simp only [resL] at hq
    obtain ⟨y, hy, hq⟩ := Option.bind_eq_some_iff.1 hq
    obtain ⟨m, hm, rfl⟩ := Option.map_eq_some_iff.1 hq
    obtain ⟨⟨cs, off⟩, h1, h2⟩ := Option.bind_eq_some_iff.1 hy
    obtain ⟨vs, e1, e2, e3⟩ := resL_ok h l m hm
    obtain ⟨b, o, f, e, hcell, _, hr⟩ := h.cellsAt (h.slots t) h1
    obtain ⟨v, hrun, hrv⟩ := run_getC (P := P) h2 hcell hr
    refine ⟨v :: vs, ?_, by simp [e2], fun j u x hu hx => ?_⟩
    · simp only [List.mapM_cons, resOne, Sem.run_bind, Sem.run_pure, Result.andThen_ok, e1, e, asAddr, hrun]
    · cases j with
      | zero =>
        obtain rfl := Option.some.inj hu
        obtain rfl := Option.some.inj hx
        exact hrv
      | succ j => exact e3 j u x (by simpa using hu) (by simpa using hx)

theorem run_results {fn : Func} {xs : List AV} (h : Rg P own C w0 g st a w) (hq : resL P st fn.results.toList = some xs) :
    ∃ v, (results fn a.tmps).run P w = .ok v w ∧ RV g w v (res1 xs) := by
  obtain ⟨vs, e1, e2, e3⟩ := resL_ok h fn.results.toList xs hq
  have hrun : (fn.results.mapM (resOne a.tmps)).run P w = .ok vs.toArray w := by
    rw [Array.mapM_eq_mapM_toList]
    simp [e1]
  have hres : results fn a.tmps = (do let vs ← fn.results.mapM (resOne a.tmps); pure (if h : vs.size = 1 then vs[0] else .tuple vs)) := rfl
  rw [hres]
  simp only [Sem.run_bind, hrun, Result.andThen_ok, Sem.run_pure]
  refine ⟨_, rfl, ?_⟩
  cases xs with
  | nil =>
    obtain rfl := List.eq_nil_of_length_eq_zero e2
    exact .tup [] [] rfl (by simp)
  | cons x l =>
    cases vs with
    | nil => simp at e2
    | cons v vs =>
      cases l with
      | nil =>
        obtain rfl := List.eq_nil_of_length_eq_zero (by simpa using e2)
        exact e3 0 v x rfl rfl
      | cons y l =>
        cases vs with
        | nil => simp at e2
        | cons u vs =>
          have : ¬ ((v :: u :: vs).toArray.size = 1) := by simp
          rw [dif_neg this]
          exact .tup _ _ (by simpa using e2) e3
end

/-! ### A function from its body -/
/-- how a body ends -/
def fnPost (P : Program) (D : Nm → Bool) (root : Nm) (rs : List ResultVar) (R E : Nm → AV → (Nm → Option AO) → Prop) : Ex → St → Prop
  | .normal, st => ∃ sbs xs, OkS D root sbs ∧ resL P st rs = some xs ∧ R root ((res1 xs).tr (finf D sbs)) (finH D sbs st.hp)
  | .ret, st => ∃ sbs xs, OkS D root sbs ∧ resL P st rs = some xs ∧ R root ((res1 xs).tr (finf D sbs)) (finH D sbs st.hp)
  | .pan x, st => ∃ sbs, OkS D root sbs ∧ E root (x.tr (finf D sbs)) (finH D sbs st.hp)
  | _, _ => False

def st0 (as : List AV) (H : Nm → Option AO) (n : Nat) (gl : Nat → Option (List AV)) : St := { tm := fun t => as.getD t (.sc undef), hp := H, n := n, gl := gl }
def ctx0 (P : Program) (C : Nat → Prop) (w : World) (g : Gh) (H : Nm → Option AO) (n : Nat) (gl : Nat → Option (List AV)) : Ctx :=
  { P := P, own := ownH g H, C0 := C, w0 := w, n := n, gl := gl, ext := fun m => (H m).isSome, g0 := g }

theorem FnE.of_sem {P : Program} {gl : Nat → Option (List AV)} {f : FuncId} {D : Nm → Bool} {as : List AV} {H : Nm → Option AO} {R E : Nm → AV → (Nm → Option AO) → Prop} {fn : Func} {c : Code} {rs : List ResultVar} {n : Nat}
    (hf : P.funcs[f]? = some fn) (hb : fn.body = some c) (hname : (fn.name == "runtime.NumGoroutine") = false) (hrs : fn.results.toList = rs) (hn : fn.ntmps = n) (hle : as.length ≤ n) (hD : ∀ m, D m = true → m.sroot = false)
    (h : ∀ C w g root, (∀ m, Nm.under root m = true → D m = false) → SemCode (ctx0 P C w g H n gl) c (fnPost P D root rs R E) (st0 as H n gl)) : FnE P gl f D as H R E := by
  refine ⟨⟨fn, hf, hname, by rw [hb]; rfl⟩, fun root C w g args hroot hru hHD hinv hgl hsz hargs => ?_⟩
  have hstart : Rw (ctx0 P C w g H n gl) (st0 as H n gl) { tmps := args ++ Array.replicate (fn.ntmps - args.size) undef, defers := [] } w := by
    refine ⟨C, g, fun _ h => h, fun _ h => .inl h, rfl, rfl, fun _ _ _ _ => ⟨rfl, rfl⟩, hinv, rfl, ?_, ?_, hgl⟩
    · simp [st0]
      omega
    · intro t
      simp only [st0]
      by_cases ht : t < args.size
      · have h1 : as[t]? = some (as[t]'(by omega)) := List.getElem?_eq_getElem _
        have h2 : (args ++ Array.replicate (fn.ntmps - args.size) undef).getD t undef = args[t] := by
          rw [Array.getD_eq_getD_getElem?, Array.getElem?_append_left ht, Array.getElem?_eq_getElem ht]; rfl
        rw [h2, List.getD_eq_getElem?_getD, h1]
        exact hargs t _ _ (Array.getElem?_eq_getElem ht) h1
      · have h1 : as[t]? = none := List.getElem?_eq_none (by omega)
        have h2 : (args ++ Array.replicate (fn.ntmps - args.size) undef).getD t undef = undef := by
          rw [Array.getD_eq_getD_getElem?, Array.getElem?_append_right (by omega), Array.getElem?_replicate]
          split <;> rfl
        rw [h2, List.getD_eq_getElem?_getD, h1]
        exact RV.sc _
  have key : ∀ {st : St} {a : Act} {w' : World} {C' : Nat → Prop} {g1 : Gh} (sbs : List (Nm × Nm)), OkS D root sbs → (∀ b, C b → C' b) → (∀ b, C' b → C b ∨ w.heap.size ≤ b ∨ ownH g H b) → Ext (ctx0 P C w g H n gl) g1 → Rg P (ownH g H) C' w g1 st a w' →
      ∃ g', After (ownH g H) C w g D root H (finH D sbs st.hp) C' g' w' ∧ ∀ v x, RV g1 w' v x → RV g' w' v (x.tr (finf D sbs)) := by
    intro st a w' C' g1 sbs hok hC1 hC2 hext hr
    have hinj := finf_inj (D := D) hroot hok.tgt hok.dis
    let g' : Gh := { C := g1.C, φ := fun m => if D m || Nm.under root m then (g1.tr (finf D sbs)).φ m else g.φ m, κ := fun m => if D m || Nm.under root m then (g1.tr (finf D sbs)).κ m else g.κ m }
    have img : ∀ m m', finf D sbs m = some m' → (D m' || Nm.under root m') = true := by
      intro m m' e
      rcases finf_img hok.tgt e with ⟨h1, rfl⟩ | ⟨p, hp, hp2⟩
      · simp [h1]
      · simp [Nm.under_trans (hok.tgt p hp) hp2]
    have gf : ∀ m m', finf D sbs m = some m' → g'.φ m' = g1.φ m ∧ g'.κ m' = g1.κ m := by
      intro m m' e
      simp only [g', img m m' e, if_true]
      exact Gh.tr_spec hinj e
    have old : ∀ m' o', finH D sbs st.hp m' = some o' → ∃ m o, finf D sbs m = some m' ∧ st.hp m = some o ∧ o' = o.tr (finf D sbs) := by
      intro m' o' e
      unfold finH at e
      split at e
      · rename_i hm
        obtain ⟨o, e1, rfl⟩ := Option.map_eq_some_iff.1 e
        exact ⟨m', o, finf_D hD hm hok.src, e1, rfl⟩
      · split at e
        · rename_i q hq
          split at e
          · rename_i hc
            obtain ⟨o, e1, rfl⟩ := Option.map_eq_some_iff.1 e
            exact ⟨q, o, hc, e1, rfl⟩
          · cases e
        · cases e
    have hs := hr.step (g' := g') (w' := w') (f := finf D sbs) (hp' := finH D sbs st.hp) rfl gf rfl rfl rfl (Nat.le_refl _) (fun _ _ => rfl) (fun _ _ _ => rfl) (fun m' o' e => by
      obtain ⟨m, o, e1, e2, e3⟩ := old m' o' e
      exact .inl ⟨m, o, e1, e2, e3, fun _ _ => rfl⟩)
    refine ⟨g', ⟨hC1, hC2, hs.inv, fun m hm => ?_, fun m h1 h2 => by simp [g', h1, h2], fun k i j hk => ?_⟩, fun v x hv => hr.rv (g' := g') rfl (fun _ _ => rfl) gf hv⟩
    · obtain ⟨o', ho'⟩ := Option.ne_none_iff_exists'.1 hm
      obtain ⟨m0, o, e1, _, _⟩ := old m o' ho'
      have := img m0 m e1
      simpa using this
    · have hd := hHD _ hk
      obtain ⟨x1, x2⟩ := gf _ _ (finf_D hD hd hok.src)
      have he : (ctx0 P C w g H n gl).ext (.u k i j) = true := by
        obtain ⟨o', ho'⟩ := Option.ne_none_iff_exists'.1 hk
        simp [ctx0, ho']
      obtain ⟨y1, y2⟩ := hext k i j he
      exact ⟨x1.trans y1, x2.trans y2⟩
  have done : ∀ st (a : Act) w', Rw (ctx0 P C w g H n gl) st a w' → (∃ sbs xs, OkS D root sbs ∧ resL P st rs = some xs ∧ R root ((res1 xs).tr (finf D sbs)) (finH D sbs st.hp)) →
      a.defers = [] ∧ ∃ v, (results fn a.tmps).run P w' = .ok v w' ∧ ∃ C' g' H' x, After (ownH g H) C w g D root H H' C' g' w' ∧ RV g' w' v x ∧ R root x H' := by
    intro st a w' hR hq
    obtain ⟨C', g1, h1, h2, _, _, h5, hr⟩ := hR
    obtain ⟨sbs, xs, hok, hx, hRx⟩ := hq
    obtain ⟨g', k1, k2⟩ := key sbs hok h1 h2 h5 hr
    obtain ⟨v, hrun, hv⟩ := run_results (fn := fn) hr (by rw [hrs]; exact hx)
    exact ⟨hr.defers, v, hrun, C', g', _, _, k1, k2 v _ hv, hRx⟩
  refine calls_of_wp hf hb (wp_mono (h C w g root hroot _ _ hstart) fun e a w' he => ?_)
  cases e with
  | normal => obtain ⟨st', hR, hQ⟩ := he; exact done st' a w' hR hQ
  | ret => obtain ⟨st', hR, hQ⟩ := he; exact done st' a w' hR hQ
  | panic ch =>
    obtain ⟨st', v, x, hR, rfl, hQ⟩ := he
    obtain ⟨C', g1, h1, h2, _, _, h5, hr, hv⟩ := hR
    obtain ⟨sbs, hok, hEx⟩ := hQ
    obtain ⟨g', k1, k2⟩ := key sbs hok h1 h2 h5 hr
    exact ⟨hr.defers, C', g', _, _, v, k1, rfl, k2 v _ hv, hEx⟩
  | exit id => obtain ⟨_, _, hQ⟩ := he; exact hQ.elim
  | goto l => obtain ⟨_, _, hQ⟩ := he; exact hQ.elim
  | outgrown => exact he.elim

/-- what a function does, by what it is known to do -/
theorem FnE.mono {P : Program} {gl : Nat → Option (List AV)} {f : FuncId} {D : Nm → Bool} {as : List AV} {H : Nm → Option AO} {R E R' E' : Nm → AV → (Nm → Option AO) → Prop} (h : FnE P gl f D as H R E)
    (hR : ∀ r x H', R r x H' → R' r x H') (hE : ∀ r x H', E r x H' → E' r x H') : FnE P gl f D as H R' E' := by
  refine ⟨h.1, fun root C w g args h1 h2 h3 h4 h5 h6 h7 => (h.2 root C w g args h1 h2 h3 h4 h5 h6 h7).mono fun e w' he => ?_⟩
  cases e with
  | returned v => obtain ⟨C', g', H', x, x1, x2, x3⟩ := he; exact ⟨C', g', H', x, x1, x2, hR _ _ _ x3⟩
  | panicked ch => obtain ⟨C', g', H', x, v, x1, x2, x3, x4⟩ := he; exact ⟨C', g', H', x, v, x1, x2, x3, hE _ _ _ x4⟩
  | outgrown => exact he

end Go.Hm
end

section
/-
  The heap machine, part 16: regions in an order that is drawn. Own work; generic in the program.
-/
namespace Go.Hm
open Go Go.RowKit

/-- a virtual order: quiet operations as soon as they can be, the others in each order that the edges leave -/
inductive Sch where
  | done
  | q (i : Nat) (r : Sch)
  | l (i : Nat) (ps : List Nat) (r : Sch)
  | l2 (i : Nat) (ps : List Nat) (r : Sch) (j : Nat) (qs : List Nat) (s : Sch)

def isQ : Op → Bool
  | .move _ | .pick _ _ _ | .load _ _ | .nilCheck _ | .binOp _ _ _ _ _ | .unOp _ _ _ | .convert _ _ _ | .makeInterface _ _ | .slice _ _ _ _ none | .fieldAddr _ _ _ | .field _ _ _
  | .indexAddr _ _ _ | .index _ _ _ | .extract _ _ | .build _ _ | .typeAssert _ _ _ _ | .lookup _ _ _ _ | .makeFunc _ _ _ | .call ⟨.builtin .len, _, _⟩ => true
  | _ => false
def prd (ops : Array Oper) (i : Nat) : List Nat := match ops[i]? with | some o => (o.after.toList.filter (fun e => Region.binds .any e)).map (·.on) | none => []
def dstOf (ops : Array Oper) (i : Nat) : Option Nat := (ops[i]?).bind (·.dst)
def qui (ops : Array Oper) (i : Nat) : Bool := match ops[i]? with | some o => isQ o.op && o.dst.isSome | none => false
def rdy (ops : Array Oper) (LV : List Nat) (i : Nat) : Bool := !LV.contains i && (prd ops i).all (fun j => LV.contains j)
def rdyL (ops : Array Oper) (LV : List Nat) : List Nat := (List.range ops.size).filter (rdy ops LV)
def wfD (ops : Array Oper) : Bool :=
  Region.noSelect ops &&
  (List.range ops.size).all (fun i => (List.range ops.size).all fun j => i == j || dstOf ops i == none || dstOf ops i != dstOf ops j) &&
  (List.range ops.size).all (fun i => match ops[i]? with | some o => (o.looksAt ops).all (fun t => (List.range ops.size).all fun j => !(dstOf ops j == some t) || !qui ops j || (prd ops i).contains j) | none => false)
/-- the quiet operations that may be pending still when i has run -/
def pendL (ops : Array Oper) (LV : List Nat) (i : Nat) : List Nat :=
  LV.filter fun q => qui ops q && !(i :: LV).any (fun l => !qui ops l && (prd ops l).contains q)
def okD (ops : Array Oper) : Sch → List Nat → Bool
  | .done, LV => (List.range ops.size).all (fun i => LV.contains i)
  | .q i r, LV => i < ops.size && qui ops i && rdy ops LV i && okD ops r (i :: LV)
  | .l i ps r, LV => rdyL ops LV == [i] && !qui ops i && (pendL ops LV i).all (fun q => ps.contains q) && okD ops r (i :: LV)
  | .l2 i ps r j qs s, LV => rdyL ops LV == [i, j] && !qui ops i && !qui ops j && (pendL ops LV i).all (fun q => ps.contains q) && (pendL ops LV j).all (fun q => qs.contains q) && okD ops r (i :: LV) && okD ops s (j :: LV)

/-- a pending operation yields still what it is held to yield -/
def stab1 (X : Ctx) (ds : List (Option Nat)) (o : Oper) (st : St) : Prop :=
  match o.dst with
  | some d => (match o.guard with
    | none => qev X.P st o = some (st.tm d)
    | some (j, want) => match ds[j]? with
      | some (some e) => match st.tm e with
        | .sc (.bool t) => (t = want → qev X.P st o = some (st.tm d)) ∧ (t = !want → st.tm d = .sc undef)
        | _ => False
      | _ => False)
  | none => False
def stabs (X : Ctx) (ops : List Oper) (ds : List (Option Nat)) : List Nat → St → Prop
  | [], _ => True
  | q :: l, st => (match ops[q]? with | some o => stab1 X ds o st | none => False) ∧ stabs X ops ds l st
/-- a quiet operation -/
def QOp (X : Ctx) (o : Oper) (K : St → Prop) (st : St) : Prop := ∃ d z, o.dst = some d ∧ d < X.n ∧ qev X.P st o = some z ∧ K (st.put (some d) z)
/-- a quiet operation with its guard -/
def QG (X : Ctx) (ds : List (Option Nat)) (o : Oper) (K : St → Prop) (st : St) : Prop :=
  (o.guard = none ∧ QOp X o K st) ∨
  ∃ j want d t, o.guard = some (j, want) ∧ ds[j]? = some (some d) ∧ st.tm d = .sc (.bool t) ∧ (t = want → QOp X o K st) ∧ (t = !want → (∀ e, o.dst = some e → e < X.n) ∧ K (st.put o.dst (.sc undef)))
def arun (X : Ctx) (ops : List Oper) (ds : List (Option Nat)) (K : St → Prop) : Sch → St → Prop
  | .done, st => K st
  | .q i r, st => match ops[i]? with | some o => QG X ds o (arun X ops ds K r) st | none => False
  | .l i ps r, st => match ops[i]? with | some o => SemG X ds o (fun s => stabs X ops ds ps s ∧ arun X ops ds K r s) (fun _ _ => False) st | none => False
  | .l2 i ps r j qs s, st => (match ops[i]? with | some o => SemG X ds o (fun s => stabs X ops ds ps s ∧ arun X ops ds K r s) (fun _ _ => False) st | none => False) ∧
      (match ops[j]? with | some o => SemG X ds o (fun s' => stabs X ops ds qs s' ∧ arun X ops ds K s s') (fun _ _ => False) st | none => False)

section
variable {X : Ctx} {ops : Array Oper} {st : St}

structure WfD (ops : Array Oper) : Prop where
  sel : ∀ (j : Nat) (o : Oper) (cs : Array SelectCase) (b : Bool), ops[j]? = some o → o.op ≠ .select cs b
  dist : ∀ i j d, i < ops.size → j < ops.size → dstOf ops i = some d → dstOf ops j = some d → i = j
  look : ∀ i o t j, ops[i]? = some o → t ∈ o.looksAt ops → j < ops.size → dstOf ops j = some t → qui ops j = true → j ∈ prd ops i

theorem wfD_spec (h : wfD ops = true) : WfD ops := by
  simp only [wfD, Bool.and_eq_true] at h
  obtain ⟨⟨h1, h2⟩, h3⟩ := h
  refine ⟨fun j o cs b ho => Region.noSelect_spec h1 j o cs b ho, fun i j d hi hj e1 e2 => ?_, fun i o t j ho ht hj e1 e2 => ?_⟩
  · have := List.all_eq_true.1 (List.all_eq_true.1 h2 i (List.mem_range.2 hi)) j (List.mem_range.2 hj)
    rw [e1, e2] at this
    simpa using this
  · have hi : i < ops.size := (Array.getElem?_eq_some_iff.1 ho).1
    have := List.all_eq_true.1 h3 i (List.mem_range.2 hi)
    rw [ho] at this
    have := List.all_eq_true.1 (List.all_eq_true.1 this t ht) j (List.mem_range.2 hj)
    rw [e1, e2] at this
    simpa using this

/-- acts that agree but for some slots -/
structure Agr (D : Nat → Prop) (a b : Act) : Prop where
  defers : a.defers = b.defers
  size : a.tmps.size = b.tmps.size
  tmps : ∀ t, ¬ D t → a.tmps[t]? = b.tmps[t]?

theorem Agr.exec {D : Nat → Prop} {a b : Act} {o : Oper} (h : Agr D a b) (hs : ∀ cs b, o.op ≠ .select cs b) (hl : ∀ t ∈ o.looksAt ops, ¬ D t) : execOp a.eval o = execOp b.eval o := by
  refine execOp_congr o hs fun x hx => ?_
  cases x with
  | tmp t =>
    have ht : t ∈ o.looksAt ops := List.mem_append_left _ (List.mem_filterMap.2 ⟨.tmp t, by simpa using hx, rfl⟩)
    simp only [Act.eval, Array.getD_eq_getD_getElem?, h.tmps t (hl t ht)]
  | _ => rfl

theorem Agr.wanted {D : Nat → Prop} {a b : Act} {o : Oper} (h : Agr D a b) (hl : ∀ t ∈ o.looksAt ops, ¬ D t) : Region.wanted o (yielded ops a.tmps) = Region.wanted o (yielded ops b.tmps) := by
  unfold Region.wanted
  cases hg : o.guard with
  | none => rfl
  | some gw =>
    obtain ⟨j, want⟩ := gw
    have hy : yielded ops a.tmps j = yielded ops b.tmps j := by
      unfold yielded
      cases ht : (ops[j]?).bind (·.dst) with
      | none => rfl
      | some t =>
        have hm : t ∈ o.looksAt ops := by simp [Oper.looksAt, hg, ht]
        simp only [Option.bind_some, h.tmps t (hl t hm)]
    simp only [hy]

theorem Agr.put {D D' : Nat → Prop} {a b : Act} (h : Agr D a b) (dst : Option Nat) (v : Value) (hD : ∀ t, ¬ D' t → dst = some t ∨ ¬ D t) : Agr D' (a.put dst v) (b.put dst v) := by
  cases dst with
  | none => exact ⟨h.defers, h.size, fun t ht => h.tmps t ((hD t ht).resolve_left (by simp))⟩
  | some d =>
    refine ⟨h.defers, by simp [Act.put, h.size], fun t ht => ?_⟩
    simp only [Act.put]
    by_cases e : d = t
    · subst e
      by_cases hs : d < a.tmps.size
      · rw [Array.getElem?_setIfInBounds_self_of_lt hs, Array.getElem?_setIfInBounds_self_of_lt (by rw [← h.size]; exact hs)]
      · rw [Array.getElem?_eq_none (by simp; omega), Array.getElem?_eq_none (by simp [← h.size]; omega)]
    · rw [Array.getElem?_setIfInBounds_ne e, Array.getElem?_setIfInBounds_ne e]
      exact h.tmps t ((hD t ht).resolve_left (by simpa using e))

/-- a quiet operation that has been done in the virtual order, and would do now what it did -/
def Pend (P : Program) (ops : Array Oper) (b : Act) (w : World) (q : Nat) : Prop :=
  ∃ o d, ops[q]? = some o ∧ o.dst = some d ∧ d < b.tmps.size ∧ ((Region.wanted o (yielded ops b.tmps) = true ∧ (execOp b.eval o).run P w = .ok (.value (b.tmps.getD d undef)) w) ∨ (Region.wanted o (yielded ops b.tmps) = false ∧ b.tmps.getD d undef = undef))

theorem Pend.put {P : Program} {b : Act} {w : World} {q : Nat} (h : Pend P ops b w q) (hw : WfD ops) (d : Nat) (v : Value) (hl : ∀ o, ops[q]? = some o → d ∉ o.looksAt ops) (hd : dstOf ops q ≠ some d) : Pend P ops (b.put (some d) v) w q := by
  obtain ⟨o, e, ho, he, hlt, h⟩ := h
  have hag : Agr (fun t => t = d) (b.put (some d) v) b := ⟨rfl, by simp [Act.put], fun t ht => by simp only [Act.put]; rw [Array.getElem?_setIfInBounds_ne (fun e => ht e.symm)]⟩
  have hla : ∀ t ∈ o.looksAt ops, ¬ t = d := fun t ht e => hl o ho (e ▸ ht)
  have hne : e ≠ d := fun e' => hd (by simp [dstOf, ho, he, e'])
  have hslot : (b.put (some d) v).tmps.getD e undef = b.tmps.getD e undef := by
    simp only [Act.put, Array.getD_eq_getD_getElem?]
    rw [Array.getElem?_setIfInBounds_ne (fun x => hne x.symm)]
  refine ⟨o, e, ho, he, by simpa [Act.put] using hlt, ?_⟩
  rw [hag.wanted hla, hag.exec (hw.sel q o · · ho) hla, hslot]
  exact h

/-- each comes behind what it must -/
def LVok (ops : Array Oper) : List Nat → Prop
  | [] => True
  | x :: l => x ∉ l ∧ x < ops.size ∧ (∀ j ∈ prd ops x, j ∈ l) ∧ LVok ops l
theorem LVok.prd : ∀ {l : List Nat}, LVok ops l → ∀ q ∈ l, ∀ j ∈ prd ops q, j ∈ l
  | [], _, _, h, _, _ => by cases h
  | x :: l, h, q, hq, j, hj => by
    rcases List.mem_cons.1 hq with rfl | hq
    · exact List.mem_cons_of_mem _ (h.2.2.1 j hj)
    · exact List.mem_cons_of_mem _ (LVok.prd h.2.2.2 q hq j hj)
theorem LVok.lt : ∀ {l : List Nat}, LVok ops l → ∀ q ∈ l, q < ops.size
  | [], _, _, h => by cases h
  | x :: l, h, q, hq => by
    rcases List.mem_cons.1 hq with rfl | hq
    · exact h.2.1
    · exact LVok.lt h.2.2.2 q hq

/-- what holds of a drawn order under way -/
structure DI (X : Ctx) (ops : Array Oper) (LV : List Nat) (listed : Array Bool) (st : St) (a b : Act) (w : World) : Prop where
  rw : Rw X st b w
  len : listed.size = ops.size
  sub : ∀ i, i < ops.size → listed.getD i true = true → i ∈ LV
  closed : ∀ i, i < ops.size → listed.getD i true = true → ∀ j ∈ prd ops i, listed.getD j false = true
  pend : ∀ q ∈ LV, listed.getD q true = false → qui ops q = true ∧ Pend X.P ops b w q
  agr : Agr (fun t => ∃ q ∈ LV, listed.getD q true = false ∧ dstOf ops q = some t) a b
  ord : LVok ops LV

end
end Go.Hm
end

section
/-
  The heap machine, part 17: the rule of regions in a drawn order. Own work; generic in the program.
-/
namespace Go.Hm
open Go Go.RowKit

section
variable {X : Ctx} {ops : Array Oper} {st : St} {K : St → Prop}

theorem Rw.put {a : Act} {w : World} {d : Nat} {v : Value} {z : AV} (h : Rw X st a w) (hd : d < X.n) (hv : ∀ C g, Rg X.P X.own C X.w0 g st a w → RV g w v z) : Rw X (st.put (some d) z) (a.put (some d) v) w := h.mono_put hd hv

/-- the value of a quiet operation, whatever the names -/
theorem Rw.qev {a : Act} {w : World} {o : Oper} {z : AV} (h : Rw X st a w) (hq : qev X.P st o = some z) (d : Nat) (hd : d < X.n) : ∃ v, (execOp a.eval o).run X.P w = .ok (.value v) w ∧ Rw X (st.put (some d) z) (a.put (some d) v) w := by
  obtain ⟨C, g, h1, h2, h3, h4, h5, hr⟩ := h
  obtain ⟨v, e1, e2⟩ := qev_sound hr hq
  exact ⟨v, e1, C, g, h1, h2, h3, h4, h5, hr.put (fun t e => by obtain rfl := Option.some.inj e; rw [h3]; exact hd) e2⟩

theorem put_getD {a : Act} {d : Nat} {v : Value} (h : d < a.tmps.size) : (a.put (some d) v).tmps.getD d undef = v := by
  simp [Act.put, h]

/-- one quiet operation in the virtual order -/
theorem quiet_step {o : Oper} {i : Nat} {K' : St → Prop} {b : Act} {w : World} (hw : WfD ops) (ho : ops[i]? = some o) (hq : qui ops i = true) (hi : i ∉ prd ops i) (hR : Rw X st b w)
    (h : QG X (ops.toList.map (·.dst)) o K' st) : ∃ d v st', o.dst = some d ∧ K' st' ∧ Rw X st' (b.put (some d) v) w ∧ Pend X.P ops (b.put (some d) v) w i := by
  have hlt : i < ops.size := (Array.getElem?_eq_some_iff.1 ho).1
  simp only [qui, ho, Bool.and_eq_true] at hq
  obtain ⟨hq1, hq2⟩ := hq
  obtain ⟨d, hd⟩ := Option.isSome_iff_exists.1 hq2
  have hdi : dstOf ops i = some d := by simp [dstOf, ho, hd]
  have hla : d ∉ o.looksAt ops := fun hm => hi (hw.look i o d i ho hm hlt hdi (by simp [qui, ho, hq1, hd]))
  have pend : ∀ v, d < b.tmps.size → ((Region.wanted o (yielded ops b.tmps) = true ∧ (execOp b.eval o).run X.P w = .ok (.value v) w) ∨ (Region.wanted o (yielded ops b.tmps) = false ∧ v = undef)) → Pend X.P ops (b.put (some d) v) w i := by
    intro v hlt h
    have hag : Agr (fun t => t = d) (b.put (some d) v) b := ⟨rfl, by simp [Act.put], fun t ht => by simp only [Act.put]; rw [Array.getElem?_setIfInBounds_ne (fun e => ht e.symm)]⟩
    have hl : ∀ t ∈ o.looksAt ops, ¬ t = d := fun t ht e => hla (e ▸ ht)
    refine ⟨o, d, ho, hd, by simpa [Act.put] using hlt, ?_⟩
    rw [hag.wanted hl, hag.exec (hw.sel i o · · ho) hl, put_getD hlt]
    exact h
  have hsz := hR.size
  rcases h with ⟨hg, h⟩ | ⟨j, want, e, t, hg, hde, ht, h1, h2⟩
  · obtain ⟨d', z, e1, hn, hz, hK⟩ := h
    rw [hd] at e1
    obtain rfl := Option.some.inj e1
    obtain ⟨v, hrun, hR'⟩ := hR.qev hz d hn
    exact ⟨d, v, _, hd, hK, hR', pend v (by rw [hsz]; exact hn) (.inl ⟨wanted_none hg, hrun⟩)⟩
  · have hy := hR.yielded hde ht
    by_cases htw : t = want
    · obtain ⟨d', z, e1, hn, hz, hK⟩ := h1 htw
      rw [hd] at e1
      obtain rfl := Option.some.inj e1
      obtain ⟨v, hrun, hR'⟩ := hR.qev hz d hn
      exact ⟨d, v, _, hd, hK, hR', pend v (by rw [hsz]; exact hn) (.inl ⟨by simp [Region.wanted, hg, hy, htw], hrun⟩)⟩
    · have hnot : t = !want := by cases t <;> cases want <;> simp_all
      obtain ⟨hn, hK⟩ := h2 hnot
      rw [hd] at hK
      have hn' := hn d hd
      exact ⟨d, undef, _, hd, hK, hR.put hn' (fun _ _ _ => RV.sc _), pend undef (by rw [hsz]; exact hn') (.inr ⟨by simp [Region.wanted, hg, hy, htw], rfl⟩)⟩

theorem contains_mem {l : List Nat} {x : Nat} : l.contains x = true ↔ x ∈ l := by simp

theorem advance (hw : WfD ops) : ∀ (sch : Sch) {LV : List Nat} {listed : Array Bool} {st : St} {a b : Act} {w : World}, okD ops sch LV = true → arun X ops.toList (ops.toList.map (·.dst)) K sch st → DI X ops LV listed st a b w →
    ∃ sch' LV' st' b', (∀ i r, sch' ≠ .q i r) ∧ okD ops sch' LV' = true ∧ arun X ops.toList (ops.toList.map (·.dst)) K sch' st' ∧ DI X ops LV' listed st' a b' w := by
  intro sch
  induction sch with
  | done => intro LV listed st a b w h1 h2 h3; exact ⟨_, LV, st, b, (by intros; simp), h1, h2, h3⟩
  | l i ps r _ => intro LV listed st a b w h1 h2 h3; exact ⟨_, LV, st, b, (by intros; simp), h1, h2, h3⟩
  | l2 i ps r j qs s _ _ => intro LV listed st a b w h1 h2 h3; exact ⟨_, LV, st, b, (by intros; simp), h1, h2, h3⟩
  | q i r ih =>
    intro LV listed st a b w h1 h2 h3
    simp only [okD, Bool.and_eq_true, decide_eq_true_eq] at h1
    obtain ⟨⟨⟨hlt, hq⟩, hr⟩, hok⟩ := h1
    simp only [rdy, Bool.and_eq_true, Bool.not_eq_true'] at hr
    obtain ⟨hni, hpr⟩ := hr
    have hni : i ∉ LV := fun hm => by rw [contains_mem.2 hm] at hni; cases hni
    have hpr : ∀ j ∈ prd ops i, j ∈ LV := fun j hj => contains_mem.1 (List.all_eq_true.1 hpr j hj)
    have ho : ops[i]? = some ops[i] := Array.getElem?_eq_getElem hlt
    simp only [arun, Array.getElem?_toList, ho] at h2
    obtain ⟨d, v, st', hd, hK, hR', hP⟩ := quiet_step hw ho hq (fun hm => hni (hpr i hm)) h3.rw h2
    have hdi : dstOf ops i = some d := by simp [dstOf, ho, hd]
    have hnl : listed.getD i true = false := by
      cases e : listed.getD i true with
      | false => rfl
      | true => exact absurd (h3.sub i hlt e) hni
    refine ih (LV := i :: LV) (listed := listed) (st := st') (a := a) (b := b.put (some d) v) (w := w) hok hK ⟨hR', h3.len, fun k hk e => List.mem_cons_of_mem _ (h3.sub k hk e), h3.closed, ?_, ?_, ⟨hni, hlt, hpr, h3.ord⟩⟩
    · intro q hqc e
      rcases List.mem_cons.1 hqc with rfl | hqm
      · exact ⟨hq, hP⟩
      · obtain ⟨x1, x2⟩ := h3.pend q hqm e
        have hqlt := h3.ord.lt q hqm
        refine ⟨x1, x2.put hw d v (fun o' ho' hm => ?_) (fun e' => ?_)⟩
        · have := hw.look q o' d i ho' hm hlt hdi hq
          exact hni (h3.ord.prd q hqm i this)
        · obtain rfl := hw.dist q i d hqlt hlt e' hdi
          exact hni hqm
    · refine ⟨h3.agr.defers, by simpa [Act.put] using h3.agr.size, fun t ht => ?_⟩
      have htd : t ≠ d := fun e => ht ⟨i, by simp, hnl, by rw [hdi, e]⟩
      simp only [Act.put]
      rw [Array.getElem?_setIfInBounds_ne (fun e => htd e.symm)]
      exact h3.agr.tmps t (fun ⟨q, x1, x2, x3⟩ => ht ⟨q, List.mem_cons_of_mem _ x1, x2, x3⟩)

theorem stabs_mem : ∀ {ps : List Nat}, stabs X ops.toList (ops.toList.map (·.dst)) ps st → ∀ q ∈ ps, ∃ o, ops[q]? = some o ∧ stab1 X (ops.toList.map (·.dst)) o st
  | [], _, _, h => by cases h
  | p :: ps, h, q, hq => by
    obtain ⟨h1, h2⟩ := h
    rcases List.mem_cons.1 hq with rfl | hq
    · split at h1
      · rename_i o ho
        exact ⟨o, by rw [← Array.getElem?_toList]; exact ho, h1⟩
      · exact h1.elim
    · exact stabs_mem h2 q hq

/-- what is pending is done anew in the virtual order -/
theorem reval (hw : WfD ops) {listed : Array Bool} {b : Act} {w : World} (hR : Rw X st b w) : ∀ (l : List Nat), LVok ops l →
    (∀ q ∈ l, listed.getD q true = false → qui ops q = true ∧ ∃ o, ops[q]? = some o ∧ stab1 X (ops.toList.map (·.dst)) o st ∧ ∀ d, o.dst = some d → d < X.n) →
    ∃ b', Rw X st b' w ∧ (∀ q ∈ l, listed.getD q true = false → Pend X.P ops b' w q) ∧ Agr (fun t => ∃ q ∈ l, listed.getD q true = false ∧ dstOf ops q = some t) b' b
  | [], _, _ => ⟨b, hR, by simp, ⟨rfl, rfl, fun _ _ => rfl⟩⟩
  | x :: l, hl, hs => by
    obtain ⟨b1, hR1, hp1, hag⟩ := reval hw hR l hl.2.2.2 (fun q hq => hs q (List.mem_cons_of_mem _ hq))
    cases hlx : listed.getD x true with
    | true =>
      refine ⟨b1, hR1, fun q hq e => ?_, ⟨hag.defers, hag.size, fun t ht => hag.tmps t (fun ⟨q, x1, x2, x3⟩ => ht ⟨q, List.mem_cons_of_mem _ x1, x2, x3⟩)⟩⟩
      rcases List.mem_cons.1 hq with rfl | hq
      · rw [hlx] at e; cases e
      · exact hp1 q hq e
    | false =>
      obtain ⟨hq, o, ho, hst, hdn⟩ := hs x (by simp) hlx
      have hlt := hl.2.1
      obtain ⟨hq1, hq2⟩ : isQ o.op = true ∧ o.dst.isSome = true := by simpa [qui, ho] using hq
      obtain ⟨d, hd⟩ := Option.isSome_iff_exists.1 hq2
      have hdi : dstOf ops x = some d := by simp [dstOf, ho, hd]
      have hxx : x ∉ prd ops x := fun hm => hl.1 (hl.2.2.1 x hm)
      -- the operation, as the state holds it
      have hag' : QG X (ops.toList.map (·.dst)) o (fun s => s = st) st := by
        have hdX := hdn d hd
        have quiet : qev X.P st o = some (st.tm d) → QOp X o (fun s => s = st) st := fun hz => ⟨d, _, hd, hdX, hz, put_same rfl⟩
        unfold stab1 at hst
        rw [hd] at hst
        simp only at hst
        split at hst
        · rename_i hg; exact .inl ⟨hg, quiet hst⟩
        · rename_i j want hg
          split at hst
          · rename_i e hde
            split at hst
            · rename_i t ht
              refine .inr ⟨j, want, e, t, hg, hde, ht, fun e' => quiet (hst.1 e'), fun e' => ⟨hdn, ?_⟩⟩
              rw [hd]
              exact put_same (hst.2 e')
            · exact hst.elim
          · exact hst.elim
      obtain ⟨d', v, st', hd', rfl, hR2, hP⟩ := quiet_step hw ho hq hxx hR1 hag'
      rw [hd] at hd'
      obtain rfl := Option.some.inj hd'
      refine ⟨b1.put (some d) v, hR2, fun q hqc e => ?_, ⟨hag.defers, by simpa [Act.put] using hag.size, fun t ht => ?_⟩⟩
      · rcases List.mem_cons.1 hqc with rfl | hq'
        · exact hP
        · refine (hp1 q hq' e).put hw d v (fun o' ho' hm => ?_) (fun e' => ?_)
          · exact hl.1 (hl.2.2.2.prd q hq' x (hw.look q o' d x ho' hm hlt hdi hq))
          · obtain rfl := hw.dist q x d (hl.2.2.2.lt q hq') hlt e' hdi
            exact hl.1 hq'
      · have htd : t ≠ d := fun e => ht ⟨x, by simp, hlx, by rw [hdi, e]⟩
        simp only [Act.put]
        rw [Array.getElem?_setIfInBounds_ne (fun e => htd e.symm)]
        exact hag.tmps t (fun ⟨q, x1, x2, x3⟩ => ht ⟨q, List.mem_cons_of_mem _ x1, x2, x3⟩)

end
end Go.Hm
end

section
/-
  The heap machine, part 18: the rule of regions in a drawn order, whole. Own work; generic in the program.
-/
namespace Go.Hm
open Go Go.RowKit

section
variable {X : Ctx} {ops : Array Oper} {st : St} {K : St → Prop}

theorem filter_lt {p p' : Nat → Bool} : ∀ (l : List Nat), (∀ x ∈ l, p' x = true → p x = true) → (∃ x ∈ l, p x = true ∧ p' x = false) → (l.filter p').length < (l.filter p).length
  | [], _, h => by obtain ⟨x, hx, _⟩ := h; cases hx
  | y :: l, h1, h2 => by
    have le : ∀ (l : List Nat), (∀ x ∈ l, p' x = true → p x = true) → (l.filter p').length ≤ (l.filter p).length := by
      intro l
      induction l with
      | nil => intro _; simp
      | cons z l ih =>
        intro h
        have := ih (fun x hx => h x (List.mem_cons_of_mem _ hx))
        have hz := h z (by simp)
        cases e : p' z <;> cases e' : p z <;> simp_all
        omega
    have hle := le l (fun x hx => h1 x (List.mem_cons_of_mem _ hx))
    obtain ⟨x, hx, e1, e2⟩ := h2
    rcases List.mem_cons.1 hx with rfl | hx
    · simp [e1, e2]; omega
    · have := filter_lt l (fun x hx => h1 x (List.mem_cons_of_mem _ hx)) ⟨x, hx, e1, e2⟩
      have hy := h1 y (by simp)
      cases e : p' y <;> cases e' : p y <;> simp_all
      omega

def unl (ops : Array Oper) (listed : Array Bool) : Nat := ((List.range ops.size).filter (fun i => !listed.getD i true)).length

theorem getD_set {listed : Array Bool} {i j : Nat} (hi : i < listed.size) : (listed.setIfInBounds i true).getD j true = if j = i then true else listed.getD j true := by
  simp only [Array.getD_eq_getD_getElem?]
  split
  · rename_i e
    subst e
    rw [Array.getElem?_setIfInBounds_self_of_lt hi]
    rfl
  · rename_i e
    rw [Array.getElem?_setIfInBounds_ne (fun h => e h.symm)]
theorem getD_tf {listed : Array Bool} {i : Nat} (hi : i < listed.size) : listed.getD i true = listed.getD i false := by
  simp [Array.getD_eq_getD_getElem?, hi]

theorem unl_set {listed : Array Bool} {i : Nat} (hs : listed.size = ops.size) (hi : i < ops.size) (h : listed.getD i true = false) : unl ops (listed.setIfInBounds i true) < unl ops listed := by
  unfold unl
  refine filter_lt _ (fun x _ hx => ?_) ⟨i, List.mem_range.2 hi, by simp [h], ?_⟩
  · rw [getD_set (by omega)] at hx
    split at hx
    · simp at hx
    · exact hx
  · rw [getD_set (by omega), if_pos rfl]; rfl

theorem mem_prd {i j : Nat} {o : Oper} (ho : ops[i]? = some o) : j ∈ prd ops i ↔ ∃ e ∈ o.after, Region.binds .any e = true ∧ e.on = j := by
  simp only [prd, ho, List.mem_map, List.mem_filter, Array.mem_toList_iff]
  constructor
  · rintro ⟨e, ⟨h1, h2⟩, h3⟩; exact ⟨e, h1, h2, h3⟩
  · rintro ⟨e, h1, h2, h3⟩; exact ⟨e, ⟨h1, h2⟩, h3⟩

theorem ready_iff {listed : Array Bool} {i : Nat} : i ∈ Region.ready .any ops listed ↔ listed.getD i true = false ∧ i < ops.size ∧ ∀ j ∈ prd ops i, listed.getD j false = true := by
  rw [mem_ready]
  constructor
  · rintro ⟨h0, o, ho, h⟩
    refine ⟨h0, (Array.getElem?_eq_some_iff.1 ho).1, fun j hj => ?_⟩
    obtain ⟨e, h1, h2, rfl⟩ := (mem_prd ho).1 hj
    exact h e h1 h2
  · rintro ⟨h0, hi, h⟩
    exact ⟨h0, ops[i], Array.getElem?_eq_getElem hi, fun e he hb => h _ ((mem_prd (Array.getElem?_eq_getElem hi)).2 ⟨e, he, hb, rfl⟩)⟩

/-- the deepest that is not listed -/
theorem deepest {listed : Array Bool} : ∀ (l : List Nat), LVok ops l → (∃ q ∈ l, listed.getD q true = false) → ∃ q ∈ l, listed.getD q true = false ∧ ∀ j ∈ prd ops q, listed.getD j true = true
  | [], _, h => by obtain ⟨q, hq, _⟩ := h; cases hq
  | x :: l, hl, h => by
    by_cases ht : ∃ q ∈ l, listed.getD q true = false
    · obtain ⟨q, h1, h2, h3⟩ := deepest l hl.2.2.2 ht
      exact ⟨q, List.mem_cons_of_mem _ h1, h2, h3⟩
    · obtain ⟨q, hq, e⟩ := h
      rcases List.mem_cons.1 hq with rfl | hq
      · refine ⟨q, by simp, e, fun j hj => ?_⟩
        have hj' := hl.2.2.1 j hj
        cases e' : listed.getD j true with
        | true => rfl
        | false => exact absurd ⟨j, hj', e'⟩ ht
      · exact absurd ⟨q, hq, e⟩ ht

theorem upon_agr {P : Program} {o : Oper} {a b : Act} {K1 K2 : Act → World → Prop} {Q : Exit → Act → World → Prop} {r : Result Next} (hdef : a.defers = b.defers)
    (hK : ∀ v D w', K1 (Act.put { b with defers := D } o.dst v) w' → K2 (Act.put { a with defers := D } o.dst v) w') (h : o.upon P b K1 (fun _ _ _ => False) r) : o.upon P a K2 Q r := by
  have hb : ({ b with defers := b.defers } : Act) = b := rfl
  have ha : ({ a with defers := b.defers } : Act) = a := by rw [← hdef]
  have hv : ∀ v w', K1 (b.put o.dst v) w' → K2 (a.put o.dst v) w' := fun v w' h => by
    have := hK v b.defers w' (by rw [hb]; exact h)
    rwa [ha] at this
  cases r with
  | ok n w' =>
    cases n with
    | value v => exact hv v w' h
    | skip => exact hv undef w' h
    | defer d =>
      have h : K1 (Act.put { b with defers := d :: b.defers } o.dst undef) w' := h
      show K2 (Act.put { a with defers := d :: a.defers } o.dst undef) w'
      rw [hdef]
      exact hK _ _ _ h
    | enter f args =>
      refine Calls.mono h fun e w'' he => ?_
      cases e with
      | returned v => exact hv v w'' he
      | panicked ch => exact he.elim
      | outgrown => obtain ⟨_, _, h⟩ := he; exact h.elim
    | row row args => exact Rows.mono h fun v w'' he => hv v w'' he
    | _ => exact h.elim
  | halt x w' =>
    cases x with
    | panic v => exact h.elim
    | _ => exact h.elim

theorem okD_done {LV : List Nat} (h : okD ops .done LV = true) : ∀ i, i < ops.size → i ∈ LV := by
  intro i hi
  simp only [okD] at h
  exact contains_mem.1 (List.all_eq_true.1 h i (List.mem_range.2 hi))

theorem mem_rdyL {LV : List Nat} {i : Nat} : i ∈ rdyL ops LV ↔ i < ops.size ∧ i ∉ LV ∧ ∀ j ∈ prd ops i, j ∈ LV := by
  simp only [rdyL, List.mem_filter, List.mem_range, rdy, Bool.and_eq_true, Bool.not_eq_true', List.all_eq_true]
  constructor
  · rintro ⟨h1, h2, h3⟩
    refine ⟨h1, fun hm => ?_, fun j hj => contains_mem.1 (h3 j hj)⟩
    rw [contains_mem.2 hm] at h2
    cases h2
  · rintro ⟨h1, h2, h3⟩
    refine ⟨h1, ?_, fun j hj => contains_mem.2 (h3 j hj)⟩
    cases e : LV.contains i with
    | false => rfl
    | true => exact absurd (contains_mem.1 e) h2

/-- all is done -/
theorem finish {sch : Sch} {LV : List Nat} {listed : Array Bool} {a b : Act} {w : World} {Q : Exit → Act → World → Prop} (hK : ∀ a' w' st', Rw X st' a' w' → K st' → Q .normal a' w') (hD : DI X ops LV listed st a b w)
    (hnq : ∀ i r, sch ≠ .q i r) (hok : okD ops sch LV = true) (hr : arun X ops.toList (ops.toList.map (·.dst)) K sch st) (hall : ∀ i, i < ops.size → listed.getD i true = true) : Q .normal a w := by
  have hin : ∀ i, i < ops.size → i ∈ LV := fun i hi => hD.sub i hi (hall i hi)
  have no : ∀ i, i ∉ rdyL ops LV := fun i hm => by
    obtain ⟨h1, h2, _⟩ := mem_rdyL.1 hm
    exact h2 (hin i h1)
  have hab : a = b := by
    obtain ⟨t1, d1⟩ := a
    obtain ⟨t2, d2⟩ := b
    have hd : d1 = d2 := hD.agr.defers
    have ht : t1 = t2 := by
      apply Array.ext_getElem?
      intro t
      exact hD.agr.tmps t (fun ⟨q, x1, x2, _⟩ => by rw [hall q (hD.ord.lt q x1)] at x2; cases x2)
    rw [hd, ht]
  cases sch with
  | done => exact hK a w st (hab ▸ hD.rw) hr
  | q i r => exact absurd rfl (hnq i r)
  | l i ps r =>
    simp only [okD, Bool.and_eq_true, beq_iff_eq] at hok
    exact absurd (by rw [hok.1.1.1]; simp) (no i)
  | l2 i ps r j qs s =>
    simp only [okD, Bool.and_eq_true, beq_iff_eq] at hok
    exact absurd (by rw [hok.1.1.1.1.1.1]; simp) (no i)

/-- an operation that is not quiet -/
theorem loud {fuel i : Nat} {ps LV : List Nat} {r : Sch} {listed : Array Bool} {a b : Act} {w : World} {Q : Exit → Act → World → Prop} {o : Oper} (hw : WfD ops) (ho : ops[i]? = some o) (hq : qui ops i = false) (hD : DI X ops LV listed st a b w)
    (hni : i ∉ LV) (hlist : ∀ j ∈ prd ops i, listed.getD j false = true) (hps : ∀ q ∈ pendL ops LV i, q ∈ ps) (hok : okD ops r (i :: LV) = true)
    (h : SemG X (ops.toList.map (·.dst)) o (fun s => stabs X ops.toList (ops.toList.map (·.dst)) ps s ∧ arun X ops.toList (ops.toList.map (·.dst)) K r s) (fun _ _ => False) st)
    (hun : unl ops listed ≤ fuel + 1)
    (ih : ∀ (sch : Sch) (LV : List Nat) (listed : Array Bool) (st : St) (a b : Act) (w : World), DI X ops LV listed st a b w → okD ops sch LV = true → arun X ops.toList (ops.toList.map (·.dst)) K sch st → unl ops listed ≤ fuel → wpAny X.P .any ops Q fuel listed a w) :
    wpOp X.P ops Q i (wpAny X.P .any ops Q fuel (listed.setIfInBounds i true)) a w := by
  have hlt : i < ops.size := (Array.getElem?_eq_some_iff.1 ho).1
  have hlt' : i < listed.size := by rw [hD.len]; exact hlt
  have lst : ∀ j ∈ prd ops i, j < ops.size → listed.getD j true = true := fun j hj hjlt => by
    rw [getD_tf (by rw [hD.len]; exact hjlt)]; exact hlist j hj
  have hlook : ∀ t ∈ o.looksAt ops, ¬ ∃ q ∈ LV, listed.getD q true = false ∧ dstOf ops q = some t := by
    rintro t ht ⟨q, x1, x2, x3⟩
    have hqlt := hD.ord.lt q x1
    have := hw.look i o t q ho ht hqlt x3 (hD.pend q x1 x2).1
    rw [lst q this hqlt] at x2
    cases x2
  have hex := hD.agr.exec (hw.sel i o · · ho) hlook
  have hwt := hD.agr.wanted hlook
  have hprd : ∀ j ∈ prd ops i, j ∈ LV := fun j hj => by
    have hjl := hlist j hj
    have hjlt : j < ops.size := by
      refine Nat.lt_of_not_le fun hge => ?_
      rw [Array.getD_eq_getD_getElem?, Array.getElem?_eq_none (by rw [hD.len]; exact hge)] at hjl
      cases hjl
    exact hD.sub j hjlt (lst j hj hjlt)
  have hni' : listed.getD i true = false := by
    cases e : listed.getD i true with
    | false => rfl
    | true => exact absurd (hD.sub i hlt e) hni
  -- what comes behind
  have next : ∀ (a' b' : Act) (w' : World) (s : St), Rw X s b' w' → stabs X ops.toList (ops.toList.map (·.dst)) ps s → arun X ops.toList (ops.toList.map (·.dst)) K r s →
      Agr (fun t => ∃ q ∈ LV, listed.getD q true = false ∧ dstOf ops q = some t) a' b' → wpAny X.P .any ops Q fuel (listed.setIfInBounds i true) a' w' := by
    intro a' b' w' s hR hst hrun hag
    have un' : ∀ q, (listed.setIfInBounds i true).getD q true = false → q ≠ i ∧ listed.getD q true = false := by
      intro q e
      rw [getD_set hlt'] at e
      split at e
      · cases e
      · rename_i hne; exact ⟨hne, e⟩
    have lis' : ∀ k, listed.getD k true = true → (listed.setIfInBounds i true).getD k true = true := by
      intro k e
      rw [getD_set hlt']
      split
      · rfl
      · exact e
    have hord : LVok ops (i :: LV) := ⟨hni, hlt, hprd, hD.ord⟩
    obtain ⟨b2, hR2, hP2, hag2⟩ := reval hw hR (listed := listed.setIfInBounds i true) (i :: LV) hord (fun q hqm e => by
      obtain ⟨hne, eq⟩ := un' q e
      have hqLV : q ∈ LV := (List.mem_cons.1 hqm).resolve_left hne
      obtain ⟨x1, o', d', x2, x3, x4, _⟩ := hD.pend q hqLV eq
      have hqlt := hD.ord.lt q hqLV
      refine ⟨x1, ?_⟩
      have hqp : q ∈ pendL ops LV i := by
        refine List.mem_filter.2 ⟨hqLV, ?_⟩
        simp only [x1, Bool.true_and, Bool.not_eq_true', List.any_eq_false]
        intro l hl hc
        simp only [Bool.and_eq_true, Bool.not_eq_true'] at hc
        obtain ⟨hlq, hlp⟩ := hc
        have hlp := contains_mem.1 hlp
        rcases List.mem_cons.1 hl with rfl | hl
        · rw [lst q hlp hqlt] at eq; cases eq
        · have hll : listed.getD l true = true := by
            cases e' : listed.getD l true with
            | true => rfl
            | false => rw [(hD.pend l hl e').1] at hlq; cases hlq
          have := hD.closed l (hD.ord.lt l hl) hll q hlp
          rw [← getD_tf (by rw [hD.len]; exact hqlt), eq] at this
          cases this
      obtain ⟨o2, y1, y2⟩ := stabs_mem hst q (hps q hqp)
      refine ⟨o2, y1, y2, fun d hd => ?_⟩
      rw [x2] at y1
      obtain rfl := Option.some.inj y1
      rw [x3] at hd
      obtain rfl := Option.some.inj hd
      rw [← hD.rw.size]; exact x4)
    refine ih r (i :: LV) (listed.setIfInBounds i true) s a' b2 w' ⟨hR2, by rw [Array.size_setIfInBounds]; exact hD.len, fun k hk e => ?_, fun k hk e j hj => ?_, fun q hqm e => ?_, ⟨?_, ?_, fun t ht => ?_⟩, hord⟩ hok hrun ?_
    · rw [getD_set hlt'] at e
      split at e
      · rename_i e'; rw [e']; simp
      · exact List.mem_cons_of_mem _ (hD.sub k hk e)
    · have : listed.getD j false = true := by
        rw [getD_set hlt'] at e
        split at e
        · rename_i e'; subst e'; exact hlist j hj
        · exact hD.closed k hk e j hj
      have hjlt : j < listed.size := by
        refine Nat.lt_of_not_le fun hge => ?_
        rw [Array.getD_eq_getD_getElem?, Array.getElem?_eq_none hge] at this
        cases this
      rw [← getD_tf (by rw [Array.size_setIfInBounds]; exact hjlt)]
      exact lis' j (by rw [getD_tf hjlt]; exact this)
    · obtain ⟨hne, e'⟩ := un' q e
      have hqLV : q ∈ LV := (List.mem_cons.1 hqm).resolve_left hne
      exact ⟨(hD.pend q hqLV e').1, hP2 q hqm e⟩
    · rw [hag.defers, hag2.defers]
    · rw [hag.size, hag2.size]
    · rw [hag2.tmps t ht]
      refine hag.tmps t fun ⟨q, x1, x2, x3⟩ => ht ⟨q, List.mem_cons_of_mem _ x1, ?_, x3⟩
      rw [getD_set hlt']
      split
      · rename_i e; exact absurd (e ▸ x1) hni
      · exact x2
    · have := unl_set hD.len hlt hni'
      omega
  -- the operation itself
  have hop := h ops i rfl ho b w (fun _ _ _ => False) hD.rw (fun _ _ _ _ _ h => h.elim)
  have agr' : ∀ v, Agr (fun t => ∃ q ∈ LV, listed.getD q true = false ∧ dstOf ops q = some t) (a.put o.dst v) (b.put o.dst v) := fun v => hD.agr.put o.dst v (fun t ht => .inr ht)
  unfold wpOp at hop ⊢
  simp only [ho] at hop ⊢
  rw [hwt]
  split at hop
  · rename_i hwd
    rw [if_pos hwd]
    rcases hop with hop | ⟨_, _, _, hop⟩
    · left
      unfold Oper.wp at hop ⊢
      rw [hex]
      refine upon_agr hD.agr.defers ?_ hop
      rintro v D w' ⟨s, hR, hst, hrun⟩
      refine next _ _ w' s hR hst hrun ?_
      have : Agr (fun t => ∃ q ∈ LV, listed.getD q true = false ∧ dstOf ops q = some t) { a with defers := D } { b with defers := D } := ⟨rfl, hD.agr.size, hD.agr.tmps⟩
      exact this.put o.dst v (fun t ht => .inr ht)
    · exact hop.elim
  · rename_i hwd
    rw [if_neg hwd]
    obtain ⟨s, hR, hst, hrun⟩ := hop
    exact next _ _ w s hR hst hrun (agr' _)

theorem SemD.of_sch {E : AV → St → Prop} (sch : Sch) (hwf : wfD ops = true) (hok : okD ops sch [] = true) (h : arun X ops.toList (ops.toList.map (·.dst)) K sch st) : SemD X ops K E st := by
  have hw := wfD_spec hwf
  intro a w Q hR hK _
  have main : ∀ (fuel : Nat) (sch : Sch) (LV : List Nat) (listed : Array Bool) (st : St) (a b : Act) (w : World), DI X ops LV listed st a b w → okD ops sch LV = true → arun X ops.toList (ops.toList.map (·.dst)) K sch st → unl ops listed ≤ fuel →
      wpAny X.P .any ops Q fuel listed a w := by
    intro fuel
    induction fuel with
    | zero =>
      intro sch0 LV0 listed st0 a b0 w hD0 hok0 hr0 hun
      obtain ⟨sch, LV, st, b, hnq, hok, hr, hD⟩ := advance hw sch0 hok0 hr0 hD0
      have hall : ∀ i, i < ops.size → listed.getD i true = true := by
        intro i hi
        cases e : listed.getD i true with
        | true => rfl
        | false =>
          have := unl_set hD.len hi e
          omega
      refine ⟨?_, finish hK hD hnq hok hr hall⟩
      apply List.eq_nil_iff_forall_not_mem.2
      intro i hm
      obtain ⟨h1, h2, _⟩ := ready_iff.1 hm
      rw [hall i h2] at h1
      cases h1
    | succ fuel ih =>
      intro sch0 LV0 listed st0 a b0 w hD0 hok0 hr0 hun
      obtain ⟨sch, LV, st, b, hnq, hok, hr, hD⟩ := advance hw sch0 hok0 hr0 hD0
      refine ⟨fun hnone => finish hK hD hnq hok hr ?_, fun i hi => ?_⟩
      · -- nothing is ready: all is done
        have tf : ∀ j, listed.getD j false = true ↔ (j < ops.size ∧ listed.getD j true = true) := by
          intro j
          by_cases hj : j < ops.size
          · rw [getD_tf (by rw [hD.len]; exact hj)]; simp [hj]
          · simp [Array.getD_eq_getD_getElem?, Array.getElem?_eq_none (by rw [hD.len]; omega : listed.size ≤ j), hj]
        have hLV : ∀ q ∈ LV, listed.getD q true = true := by
          intro q hq
          cases e : listed.getD q true with
          | true => rfl
          | false =>
            obtain ⟨q', h1, h2, h3⟩ := deepest LV hD.ord ⟨q, hq, e⟩
            have : q' ∈ Region.ready .any ops listed := ready_iff.2 ⟨h2, hD.ord.lt q' h1, fun j hj => (tf j).2 ⟨hD.ord.lt j (hD.ord.prd q' h1 j hj), h3 j hj⟩⟩
            rw [hnone] at this
            cases this
        have no : ∀ i, i ∉ rdyL ops LV := fun i hm => by
          obtain ⟨h1, h2, h3⟩ := mem_rdyL.1 hm
          have hnl : listed.getD i true = false := by
            cases e : listed.getD i true with
            | false => rfl
            | true => exact absurd (hD.sub i h1 e) h2
          have : i ∈ Region.ready .any ops listed := ready_iff.2 ⟨hnl, h1, fun j hj => (tf j).2 ⟨hD.ord.lt j (h3 j hj), hLV j (h3 j hj)⟩⟩
          rw [hnone] at this
          cases this
        cases sch with
        | done => exact fun i hi => hLV i (okD_done hok i hi)
        | q i r => exact absurd rfl (hnq i r)
        | l i ps r =>
          simp only [okD, Bool.and_eq_true, beq_iff_eq] at hok
          exact absurd (by rw [hok.1.1.1]; simp) (no i)
        | l2 i ps r j qs s =>
          simp only [okD, Bool.and_eq_true, beq_iff_eq] at hok
          exact absurd (by rw [hok.1.1.1.1.1.1]; simp) (no i)
      · obtain ⟨h0, hlt, hlist⟩ := ready_iff.1 hi
        have ho : ops[i]? = some ops[i] := Array.getElem?_eq_getElem hlt
        by_cases hin : i ∈ LV
        · -- a quiet one that is pending
          obtain ⟨hq, o, d, ho', hd, hdlt, hP⟩ := hD.pend i hin h0
          rw [ho] at ho'
          obtain rfl := Option.some.inj ho'
          have hdi : dstOf ops i = some d := by simp [dstOf, ho, hd]
          have hlt' : i < listed.size := by rw [hD.len]; exact hlt
          have hlook : ∀ t ∈ ops[i].looksAt ops, ¬ ∃ q ∈ LV, listed.getD q true = false ∧ dstOf ops q = some t := by
            rintro t ht ⟨q, x1, x2, x3⟩
            have hqlt := hD.ord.lt q x1
            have hqp := hw.look i _ t q ho ht hqlt x3 (hD.pend q x1 x2).1
            have := hlist q hqp
            rw [← getD_tf (by rw [hD.len]; exact hqlt), x2] at this
            cases this
          have hex := hD.agr.exec (hw.sel i _ · · ho) hlook
          have hwt := hD.agr.wanted hlook
          have nx : wpAny X.P .any ops Q fuel (listed.setIfInBounds i true) (a.put (some d) (b.tmps.getD d undef)) w := by
            refine ih sch LV _ st _ b w ⟨hD.rw, by rw [Array.size_setIfInBounds]; exact hD.len, fun k hk e => ?_, fun k hk e j hj => ?_, fun q hqm e => ?_, ⟨hD.agr.defers, by simpa [Act.put] using hD.agr.size, fun t ht => ?_⟩, hD.ord⟩ hok hr ?_
            · rw [getD_set hlt'] at e
              split at e
              · rename_i e'; rw [e']; exact hin
              · exact hD.sub k hk e
            · have hjl : listed.getD j false = true := by
                rw [getD_set hlt'] at e
                split at e
                · rename_i e'; subst e'; exact hlist j hj
                · exact hD.closed k hk e j hj
              have hjlt : j < listed.size := by
                refine Nat.lt_of_not_le fun hge => ?_
                rw [Array.getD_eq_getD_getElem?, Array.getElem?_eq_none hge] at hjl
                cases hjl
              rw [← getD_tf (by rw [Array.size_setIfInBounds]; exact hjlt), getD_set hlt']
              by_cases hji : j = i
              · rw [if_pos hji]
              · rw [if_neg hji]
                exact (getD_tf hjlt).trans hjl
            · rw [getD_set hlt'] at e
              split at e
              · cases e
              · exact hD.pend q hqm e
            · simp only [Act.put]
              by_cases htd : d = t
              · subst htd
                rw [Array.getElem?_setIfInBounds_self_of_lt (by rw [hD.agr.size]; exact hdlt), Array.getElem?_eq_getElem hdlt]
                simp [Array.getD_eq_getD_getElem?, hdlt]
              · rw [Array.getElem?_setIfInBounds_ne htd]
                refine hD.agr.tmps t fun ⟨q, x1, x2, x3⟩ => ht ⟨q, x1, ?_, x3⟩
                rw [getD_set hlt']
                split
                · rename_i e; subst e; rw [hdi] at x3; exact absurd (Option.some.inj x3) htd
                · exact x2
            · have := unl_set hD.len hlt h0
              omega
          unfold wpOp
          simp only [ho]
          rw [hwt, hd]
          rcases hP with ⟨hwd, hrun⟩ | ⟨hwd, hund⟩
          · rw [if_pos hwd]
            left
            unfold Oper.wp
            rw [hex, hrun, Oper.upon_value, hd]
            exact nx
          · rw [if_neg (by rw [hwd]; simp)]
            rw [hund] at nx
            exact nx
        · -- one that is not quiet
          have hprd : ∀ j ∈ prd ops i, j ∈ LV := fun j hj => by
            have hjl := hlist j hj
            have hjlt : j < ops.size := by
              refine Nat.lt_of_not_le fun hge => ?_
              rw [Array.getD_eq_getD_getElem?, Array.getElem?_eq_none (by rw [hD.len]; exact hge)] at hjl
              cases hjl
            exact hD.sub j hjlt (by rw [getD_tf (by rw [hD.len]; exact hjlt)]; exact hjl)
          have hrd : i ∈ rdyL ops LV := mem_rdyL.2 ⟨hlt, hin, hprd⟩
          cases sch with
          | done => exact absurd (okD_done hok i hlt) hin
          | q i r => exact absurd rfl (hnq i r)
          | l i1 ps r =>
            simp only [okD, Bool.and_eq_true, beq_iff_eq, Bool.not_eq_true'] at hok
            obtain ⟨⟨⟨k1, k2⟩, k3⟩, k4⟩ := hok
            rw [k1] at hrd
            obtain rfl := List.mem_singleton.1 hrd
            simp only [arun, Array.getElem?_toList, ho] at hr
            exact loud hw ho k2 hD hin hlist (fun q hq => contains_mem.1 (List.all_eq_true.1 k3 q hq)) k4 hr hun ih
          | l2 i1 ps r j1 qs s =>
            simp only [okD, Bool.and_eq_true, beq_iff_eq, Bool.not_eq_true'] at hok
            obtain ⟨⟨⟨⟨⟨⟨k1, k2⟩, k3⟩, k4⟩, k5⟩, k6⟩, k7⟩ := hok
            rw [k1] at hrd
            simp only [arun, Array.getElem?_toList] at hr
            rcases List.mem_cons.1 hrd with rfl | hrd
            · have hr1 := hr.1
              simp only [ho] at hr1
              exact loud hw ho k2 hD hin hlist (fun q hq => contains_mem.1 (List.all_eq_true.1 k4 q hq)) k6 hr1 hun ih
            · obtain rfl := List.mem_singleton.1 hrd
              have hr2 := hr.2
              simp only [ho] at hr2
              exact loud hw ho k3 hD hin hlist (fun q hq => contains_mem.1 (List.all_eq_true.1 k5 q hq)) k7 hr2 hun ih
  refine main ops.size sch [] (Array.replicate ops.size false) st a a w ⟨hR, by simp, ?_, ?_, by simp, ⟨rfl, rfl, fun _ _ => rfl⟩, trivial⟩ hok h ?_
  · intro i hi e
    simp [Array.getD_eq_getD_getElem?, hi] at e
  · intro i hi e
    simp [Array.getD_eq_getD_getElem?, hi] at e
  · unfold unl
    refine Nat.le_trans (List.length_filter_le _ _) ?_
    simp

end
end Go.Hm
end
