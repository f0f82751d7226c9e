/-
  Own texts, joined by merge.py: Hm1, Hm2, Hm3, Hm4, Hm5, Hm6.
-/
import Derived.WalkKit
import Derived.Laws.StructEq
import Derived.Laws.CopyRow

section
/-
  The heap machine, part 1: names, abstract values and objects, and what they say of a world. Own work; generic in the program.
-/
namespace Go.Hm
open Go Go.RowKit

/-- Names of objects: by the slot where they are made, by their place in another object, or as one likes. -/
inductive Nm where
  | s (d : Nat)
  | c (n : Nm) (i j : Nat)
  | u (k i j : Nat)
  deriving DecidableEq

def Nm.under (k0 : Nm) : Nm → Bool
  | .s d => decide (Nm.s d = k0)
  | .u k i j => decide (Nm.u k i j = k0)
  | .c q i j => decide (Nm.c q i j = k0) || Nm.under k0 q

def Nm.ren (k0 k1 : Nm) : Nm → Nm
  | .s d => if Nm.s d = k0 then k1 else .s d
  | .u k i j => if Nm.u k i j = k0 then k1 else .u k i j
  | .c q i j => if Nm.c q i j = k0 then k1 else .c (Nm.ren k0 k1 q) i j

/-- k0 and what is under it is called k1; what was called so is forgotten. -/
def mv (k0 k1 k : Nm) : Option Nm := if Nm.under k0 k then some (Nm.ren k0 k1 k) else if Nm.under k1 k then none else some k
/-- what is under k0 is forgotten -/
def kl (k0 k : Nm) : Option Nm := if Nm.under k0 k then none else some k

/-- abstract values -/
inductive AV where
  | sc (v : Value)
  | sl (z : Nat) (rows : List (List AV))
  | el (row : List AV) (off : Nat)
  | hs (n : Nm) (z lo len : Nat)
  | pt (n : Nm) (off : Nat)
  | ep (n : Nm) (z i off : Nat)
  | mp (n : Nm)
  | agg (cs : List AV)
  | tup (cs : List AV)
  | ifc (t : TypeId) (a : AV)
  | fn (f : Fn) (xs ys : List AV)
  | bot

/-- objects: rows of elements of z cells each; maps -/
inductive AO where
  | row (z : Nat) (rows : List (List AV))
  | map (es : List (AV × AV))

mutual
def AV.tr (f : Nm → Option Nm) : AV → AV
  | .sc v => .sc v
  | .sl z rows => .sl z (trLL f rows)
  | .el row off => .el (trL f row) off
  | .hs n z lo len => match f n with | some n' => .hs n' z lo len | none => .bot
  | .pt n off => match f n with | some n' => .pt n' off | none => .bot
  | .ep n z i off => match f n with | some n' => .ep n' z i off | none => .bot
  | .mp n => match f n with | some n' => .mp n' | none => .bot
  | .agg cs => .agg (trL f cs)
  | .tup cs => .tup (trL f cs)
  | .ifc t a => .ifc t (AV.tr f a)
  | .fn g xs ys => .fn g (trL f xs) (trL f ys)
  | .bot => .bot
def trL (f : Nm → Option Nm) : List AV → List AV
  | [] => []
  | a :: l => AV.tr f a :: trL f l
def trLL (f : Nm → Option Nm) : List (List AV) → List (List AV)
  | [] => []
  | r :: l => trL f r :: trLL f l
end

theorem trL_eq (f : Nm → Option Nm) (l : List AV) : trL f l = l.map (AV.tr f) := by
  induction l with
  | nil => rfl
  | cons a l ih => simp [trL, ih]
theorem trLL_eq (f : Nm → Option Nm) (l : List (List AV)) : trLL f l = l.map (fun r => r.map (AV.tr f)) := by
  induction l with
  | nil => rfl
  | cons a l ih => simp [trLL, trL_eq, ih]

def AO.tr (f : Nm → Option Nm) : AO → AO
  | .row z rows => .row z (rows.map (fun r => r.map (AV.tr f)))
  | .map es => .map (es.map (fun e => (e.1.tr f, e.2.tr f)))

/-! ### Names -/
theorem Nm.under_self (k : Nm) : Nm.under k k = true := by cases k <;> simp [Nm.under]

theorem Nm.under_ren {k0 k1 : Nm} : ∀ k, Nm.under k0 k = true → Nm.under k1 (Nm.ren k0 k1 k) = true := by
  intro k
  induction k with
  | s d => intro h; simp [Nm.under] at h; simp [Nm.ren, h, Nm.under_self]
  | u a b d => intro h; simp [Nm.under] at h; simp [Nm.ren, h, Nm.under_self]
  | c q i j ih =>
    intro h
    by_cases hq : Nm.c q i j = k0
    · simp [Nm.ren, hq, Nm.under_self]
    · simp [Nm.under, hq] at h
      simp [Nm.ren, hq, Nm.under, ih h]

theorem Nm.not_under_c {k0 q : Nm} {i j : Nat} (h : Nm.under k0 q = true) : Nm.c q i j ≠ k0 := by
  have size : ∀ k : Nm, Nm.under k0 k = true → SizeOf.sizeOf k0 ≤ SizeOf.sizeOf k := by
    intro k
    induction k with
    | s d => intro h; simp [Nm.under] at h; simp [h]
    | u a b d => intro h; simp [Nm.under] at h; simp [h]
    | c q i j ih =>
      intro h
      simp [Nm.under] at h
      rcases h with h | h
      · simp [h]
      · have := ih h; simp; omega
  intro e
  have := size q h
  rw [← e] at this
  simp at this
  omega

theorem Nm.ren_inj {k0 k1 : Nm} : ∀ k k', Nm.under k0 k = true → Nm.under k0 k' = true → Nm.ren k0 k1 k = Nm.ren k0 k1 k' → k = k' := by
  have base : ∀ k : Nm, k = k0 → Nm.ren k0 k1 k = k1 := by
    intro k e
    cases k <;> simp [Nm.ren, e]
  have leaf : ∀ k k', k = k0 → Nm.under k0 k' = true → Nm.ren k0 k1 k = Nm.ren k0 k1 k' → k = k' := by
    intro k k' h h' e
    rw [base k h] at e
    cases k' with
    | s d' => simp [Nm.under] at h'; rw [h, h']
    | u a b d => simp [Nm.under] at h'; rw [h, h']
    | c q i j =>
      by_cases hq : Nm.c q i j = k0
      · rw [h, hq]
      · simp [Nm.under, hq] at h'
        simp only [Nm.ren, hq, if_false] at e
        have := Nm.not_under_c (i := i) (j := j) (Nm.under_ren (k1 := k1) q h')
        exact absurd e.symm this
  intro k
  induction k with
  | s d => intro k' h h' e; simp [Nm.under] at h; exact leaf _ k' h h' e
  | u a b d => intro k' h h' e; simp [Nm.under] at h; exact leaf _ k' h h' e
  | c q i j ih =>
    intro k' h h' e
    by_cases hq : Nm.c q i j = k0
    · exact leaf _ k' hq h' e
    · by_cases hk' : k' = k0
      · exact (leaf k' _ hk' h e.symm).symm
      · simp [Nm.under, hq] at h
        have e0 : Nm.ren k0 k1 (.c q i j) = .c (Nm.ren k0 k1 q) i j := by simp [Nm.ren, hq]
        rw [e0] at e
        cases k' with
        | s d' => simp [Nm.under, hk'] at h'
        | u a b d => simp [Nm.under, hk'] at h'
        | c q' i' j' =>
          simp [Nm.under, hk'] at h'
          simp only [Nm.ren, hk', if_false] at e
          injection e with e1 e2 e3
          rw [ih q' h h' e1, e2, e3]

theorem mv_inj {k0 k1 k k' x : Nm} (h : mv k0 k1 k = some x) (h' : mv k0 k1 k' = some x) : k = k' := by
  unfold mv at h h'
  split at h
  · rename_i u
    split at h'
    · rename_i u'
      exact Nm.ren_inj _ _ u u' ((Option.some.inj h).trans (Option.some.inj h').symm)
    · split at h'
      · cases h'
      · rename_i u' u1
        have := Nm.under_ren (k1 := k1) k u
        rw [Option.some.inj h, ← Option.some.inj h'] at this
        exact absurd this u1
  · rename_i u
    split at h
    · cases h
    · rename_i u1
      split at h'
      · rename_i u'
        have := Nm.under_ren (k1 := k1) k' u'
        rw [Option.some.inj h', ← Option.some.inj h] at this
        exact absurd this u1
      · split at h'
        · cases h'
        · exact (Option.some.inj h).trans (Option.some.inj h').symm

theorem kl_spec {k0 k x : Nm} (h : kl k0 k = some x) : k = x ∧ Nm.under k0 x = false := by
  unfold kl at h
  split at h
  · cases h
  · rename_i u
    obtain rfl := Option.some.inj h
    exact ⟨rfl, by simpa using u⟩
theorem kl_inj {k0 k k' x : Nm} (h : kl k0 k = some x) (h' : kl k0 k' = some x) : k = k' := (kl_spec h).1.trans (kl_spec h').1.symm

/-! ### A segment of a row -/
theorem row_seg_getElem? {α : Type} {r : List α} {off : Nat} {vals : List α} (h : off + vals.length ≤ r.length) (j : Nat) :
    (r.take off ++ vals ++ r.drop (off + vals.length))[j]? = if off ≤ j ∧ j < off + vals.length then vals[j - off]? else r[j]? := by
  have ht : (r.take off).length = off := by rw [List.length_take]; omega
  rw [List.append_assoc, List.getElem?_append, ht]
  by_cases h1 : j < off
  · rw [if_pos h1, if_neg (by omega), List.getElem?_take, if_pos h1]
  · rw [if_neg h1, List.getElem?_append]
    by_cases h2 : j - off < vals.length
    · rw [if_pos h2, if_pos (by omega)]
    · rw [if_neg h2, if_neg (by omega), List.getElem?_drop]
      congr 1
      omega
theorem row_seg_length {α : Type} {r : List α} {off : Nat} {vals : List α} (h : off + vals.length ≤ r.length) : (r.take off ++ vals ++ r.drop (off + vals.length)).length = r.length := by
  simp only [List.length_append, List.length_take, List.length_drop]
  omega
theorem seg_getD (cur : List Value) (o : Nat) (nv : List Value) (h : o + nv.length ≤ cur.length) (p : Nat) :
    ((cur.take o ++ nv ++ cur.drop (o + nv.length)).toArray).getD p undef = if o ≤ p ∧ p < o + nv.length then nv.getD (p - o) undef else cur.getD p undef := by
  have e : ((cur.take o ++ nv ++ cur.drop (o + nv.length)).toArray).getD p undef = (cur.take o ++ nv ++ cur.drop (o + nv.length)).getD p undef := by simp
  rw [e, List.getD_eq_getElem?_getD, List.getD_eq_getElem?_getD, List.getD_eq_getElem?_getD, row_seg_getElem? h]
  split <;> rfl

/-! ### What abstract values say of a world -/

def tsz (P : Program) (T : TypeId) : Nat := ((P.info? T).map (·.size)).getD 0

/-- what names stand for: the settled blocks, the objects' blocks, their capacities -/
structure Gh where
  C : Nat → Prop
  φ : Nm → Option Nat
  κ : Nm → Nat

inductive RV (g : Gh) (w : World) : Value → AV → Prop
  | sc (v : Value) : RV g w v (.sc v)
  | slN (ad : Option Addr) (cap : Nat) (z : Nat) : RV g w (.slice ad 0 cap) (.sl z [])
  | slC (b off cap n z : Nat) (rows : List (List AV)) (f : Nat → Nat → Value) (hC : g.C b) (hn : rows.length = n) (hcap : n ≤ cap) (hu : ∀ r ∈ rows, r.length = z)
      (hcell : ∀ i j, i < n → j < z → w.cell? ⟨b, off + i * z + j, none⟩ = some (f i j))
      (ho : ∀ i j, i < n → j < z → (f i j).oneCell' = true)
      (hr : ∀ (i : Nat) row, rows[i]? = some row → ∀ (j : Nat) a, row[j]? = some a → RV g w (f i j) a) : RV g w (.slice (some ⟨b, off, none⟩) n cap) (.sl z rows)
  | el (b o off : Nat) (row : List AV) (f : Nat → Value) (hC : g.C b)
      (hcell : ∀ j, j < row.length → w.cell? ⟨b, o + j, none⟩ = some (f j))
      (ho : ∀ j, j < row.length → (f j).oneCell' = true)
      (hr : ∀ (j : Nat) a, row[j]? = some a → RV g w (f j) a) : RV g w (.pointer (some ⟨b, o + off, none⟩)) (.el row off)
  | hsN (n : Nm) (z : Nat) (hk : g.φ n = none) : RV g w (.slice none 0 0) (.hs n z 0 0)
  | hsB (n : Nm) (z lo len b cap : Nat) (ad : Option Addr) (hk : g.φ n = some b) (h1 : len ≤ cap) (h2 : lo + cap = g.κ n) (h3 : 0 < cap → ad = some ⟨b, lo * z, none⟩) :
      RV g w (.slice ad len cap) (.hs n z lo len)
  | pt (n : Nm) (off b : Nat) (hk : g.φ n = some b) : RV g w (.pointer (some ⟨b, off, none⟩)) (.pt n off)
  | ep (n : Nm) (z i off b : Nat) (hk : g.φ n = some b) : RV g w (.pointer (some ⟨b, i * z + off, none⟩)) (.ep n z i off)
  | mp (n : Nm) (b : Nat) (hk : g.φ n = some b) : RV g w (.map (some b)) (.mp n)
  | agg (vs : List Value) (cs : List AV) (hl : vs.length = cs.length) (hr : ∀ (j : Nat) v a, vs[j]? = some v → cs[j]? = some a → RV g w v a) : RV g w (.agg vs.toArray) (.agg cs)
  | tup (vs : List Value) (cs : List AV) (hl : vs.length = cs.length) (hr : ∀ (j : Nat) v a, vs[j]? = some v → cs[j]? = some a → RV g w v a) : RV g w (.tuple vs.toArray) (.tup cs)
  | ifc (t : TypeId) (v : Value) (a : AV) (h : RV g w v a) : RV g w (.iface t v) (.ifc t a)
  | fn (f : Fn) (vs us : List Value) (xs ys : List AV) (hl : vs.length = xs.length) (hl2 : us.length = ys.length) (hr : ∀ (j : Nat) v a, vs[j]? = some v → xs[j]? = some a → RV g w v a)
      (hr2 : ∀ (j : Nat) v a, us[j]? = some v → ys[j]? = some a → RV g w v a) : RV g w (.func f vs.toArray us.toArray) (.fn f xs ys)
  | bot (v : Value) : RV g w v .bot

/-- Names are changed, and memory that is settled is as it was. -/
theorem RV.tr {g g' : Gh} {w w' : World} {v : Value} {a : AV} {f : Nm → Option Nm} (h : RV g w v a) (hC : ∀ b, g.C b → g'.C b) (hw : ∀ b, g.C b → w'.heap[b]? = w.heap[b]?)
    (hf : ∀ n n', f n = some n' → g'.φ n' = g.φ n ∧ g'.κ n' = g.κ n) : RV g' w' v (a.tr f) := by
  have cell : ∀ (b o : Nat), g.C b → w'.cell? ⟨b, o, none⟩ = w.cell? ⟨b, o, none⟩ := by
    intro b o hb
    simp only [World.cell?, hw b hb]
  induction h with
  | sc v => exact .sc v
  | slN ad cap z => exact .slN ad cap z
  | slC b off cap n z rows fv hCb hn hcap hu hcell ho _ ih =>
    simp only [AV.tr, trLL_eq]
    refine .slC b off cap n z _ fv (hC b hCb) (by rw [List.length_map]; exact hn) hcap ?_ (fun i j hi hj => by rw [cell _ _ hCb]; exact hcell i j hi hj) ho ?_
    · intro r hr
      obtain ⟨r0, h0, rfl⟩ := List.mem_map.1 hr
      rw [List.length_map]
      exact hu r0 h0
    · intro i row hrow j a ha
      rw [List.getElem?_map] at hrow
      obtain ⟨r0, h0, rfl⟩ := Option.map_eq_some_iff.1 hrow
      rw [List.getElem?_map] at ha
      obtain ⟨a0, ha0, rfl⟩ := Option.map_eq_some_iff.1 ha
      exact ih i r0 h0 j a0 ha0
  | el b o off row fv hCb hcell ho _ ih =>
    simp only [AV.tr, trL_eq]
    refine .el b o off _ fv (hC b hCb) (fun j hj => by rw [cell _ _ hCb]; exact hcell j (by simpa using hj)) (fun j hj => ho j (by simpa using hj)) ?_
    intro j a ha
    rw [List.getElem?_map] at ha
    obtain ⟨a0, ha0, rfl⟩ := Option.map_eq_some_iff.1 ha
    exact ih j a0 ha0
  | hsN n z hk =>
    simp only [AV.tr]
    cases e : f n with
    | none => exact .bot _
    | some n' => exact .hsN n' z ((hf n n' e).1.trans hk)
  | hsB n z lo len b cap ad hk h1 h2 h3 =>
    simp only [AV.tr]
    cases e : f n with
    | none => exact .bot _
    | some n' => exact .hsB n' z lo len b cap ad ((hf n n' e).1.trans hk) h1 (h2.trans (hf n n' e).2.symm) h3
  | pt n off b hk =>
    simp only [AV.tr]
    cases e : f n with
    | none => exact .bot _
    | some n' => exact .pt n' off b ((hf n n' e).1.trans hk)
  | ep n z i off b hk =>
    simp only [AV.tr]
    cases e : f n with
    | none => exact .bot _
    | some n' => exact .ep n' z i off b ((hf n n' e).1.trans hk)
  | mp n b hk =>
    simp only [AV.tr]
    cases e : f n with
    | none => exact .bot _
    | some n' => exact .mp n' b ((hf n n' e).1.trans hk)
  | agg vs cs hl _ ih =>
    simp only [AV.tr, trL_eq]
    refine .agg vs _ (by rw [List.length_map]; exact hl) fun j v a hv ha => ?_
    rw [List.getElem?_map] at ha
    obtain ⟨a0, ha0, rfl⟩ := Option.map_eq_some_iff.1 ha
    exact ih j v a0 hv ha0
  | tup vs cs hl _ ih =>
    simp only [AV.tr, trL_eq]
    refine .tup vs _ (by rw [List.length_map]; exact hl) fun j v a hv ha => ?_
    rw [List.getElem?_map] at ha
    obtain ⟨a0, ha0, rfl⟩ := Option.map_eq_some_iff.1 ha
    exact ih j v a0 hv ha0
  | ifc t v a _ ih => exact .ifc t v _ ih
  | fn fv vs us xs ys hl hl2 _ _ ih ih2 =>
    simp only [AV.tr, trL_eq]
    refine .fn fv vs us _ _ (by rw [List.length_map]; exact hl) (by rw [List.length_map]; exact hl2) (fun j v a hv ha => ?_) (fun j v a hv ha => ?_)
    · rw [List.getElem?_map] at ha
      obtain ⟨a0, ha0, rfl⟩ := Option.map_eq_some_iff.1 ha
      exact ih j v a0 hv ha0
    · rw [List.getElem?_map] at ha
      obtain ⟨a0, ha0, rfl⟩ := Option.map_eq_some_iff.1 ha
      exact ih2 j v a0 hv ha0
  | bot v => exact .bot v

theorem AV.tr_some (a : AV) : a.tr some = a := by
  refine AV.rec (motive_1 := fun a => a.tr some = a) (motive_2 := fun l => trLL some l = l) (motive_3 := fun l => trL some l = l) ?_ ?_ ?_ ?_ ?_ ?_ ?_ ?_ ?_ ?_ ?_ ?_ ?_ ?_ ?_ ?_ a
  all_goals (intros; simp_all [AV.tr, trL, trLL])
theorem AO.tr_some (o : AO) : o.tr some = o := by
  cases o with
  | row z rows =>
    have : (fun r : List AV => r.map (AV.tr some)) = id := by
      funext r
      have e : AV.tr some = id := by funext a; exact AV.tr_some a
      rw [e]; simp
    simp only [AO.tr, this, List.map_id]
  | map es => simp [AO.tr, AV.tr_some]

theorem RV.same {g g' : Gh} {w w' : World} {v : Value} {a : AV} (h : RV g w v a) (hC : ∀ b, g.C b → g'.C b) (hw : ∀ b, g.C b → w'.heap[b]? = w.heap[b]?)
    (hf : ∀ n, g'.φ n = g.φ n ∧ g'.κ n = g.κ n) : RV g' w' v a := by
  have := h.tr (f := some) hC hw (fun n n' e => by obtain rfl := Option.some.inj e; exact hf n)
  rwa [AV.tr_some] at this

/-! ### Objects -/
/-- block b of capacity cap bears the rows -/
def RowAt (g : Gh) (w : World) (b cap z : Nat) (rows : List (List AV)) : Prop :=
  ∃ (cur : Array Value) (T : TypeId), w.heap[b]? = some (.cells cur T (0, 0)) ∧ cur.size = cap * z ∧ cap ≤ maxLen ∧ rows.length ≤ cap ∧ (∀ r ∈ rows, r.length = z) ∧
    (∀ j, j < rows.length * z → (cur.getD j undef).oneCell' = true) ∧ ∀ (i : Nat) row, rows[i]? = some row → ∀ (j : Nat) a, row[j]? = some a → RV g w (cur.getD (i * z + j) undef) a

def MapAt (g : Gh) (w : World) (b : Nat) (es : List (AV × AV)) : Prop :=
  ∃ (ms : List MapEntry) (clock : Nat), w.heap[b]? = some (.map ms.toArray clock) ∧ ms.length = es.length ∧ ∀ (i : Nat) m e, ms[i]? = some m → es[i]? = some e → RV g w m.key e.1 ∧ RV g w m.val e.2

def OAt (g : Gh) (w : World) (n : Nm) : AO → Prop
  | .row z rows => match g.φ n with | some b => RowAt g w b (g.κ n) z rows | none => rows = []
  | .map es => match g.φ n with | some b => MapAt g w b es | none => False

theorem OAt.tr {g g' : Gh} {w w' : World} {n n' : Nm} {o : AO} {f : Nm → Option Nm} (h : OAt g w n o) (hC : ∀ b, g.C b → g'.C b) (hw : ∀ b, g.C b → w'.heap[b]? = w.heap[b]?)
    (hf : ∀ n n', f n = some n' → g'.φ n' = g.φ n ∧ g'.κ n' = g.κ n) (hn : f n = some n') (hb : ∀ b, g.φ n = some b → w'.heap[b]? = w.heap[b]?) : OAt g' w' n' (o.tr f) := by
  obtain ⟨e1, e2⟩ := hf n n' hn
  cases o with
  | row z rows =>
    simp only [OAt, AO.tr, e1, e2] at h ⊢
    cases e : g.φ n with
    | none => rw [e] at h; simp only at h; subst h; rfl
    | some b =>
      rw [e] at h
      obtain ⟨cur, T, h1, h2, h3, h4, h5, h6, h7⟩ := h
      refine ⟨cur, T, (hb b e).trans h1, h2, h3, by rw [List.length_map]; exact h4, ?_, by rw [List.length_map]; exact h6, ?_⟩
      · intro r hr
        obtain ⟨r0, h0, rfl⟩ := List.mem_map.1 hr
        rw [List.length_map]
        exact h5 r0 h0
      · intro i row hrow j a ha
        rw [List.getElem?_map] at hrow
        obtain ⟨r0, h0, rfl⟩ := Option.map_eq_some_iff.1 hrow
        rw [List.getElem?_map] at ha
        obtain ⟨a0, ha0, rfl⟩ := Option.map_eq_some_iff.1 ha
        exact (h7 i r0 h0 j a0 ha0).tr hC hw hf
  | map es =>
    simp only [OAt, AO.tr, e1] at h ⊢
    cases e : g.φ n with
    | none => rw [e] at h; exact h.elim
    | some b =>
      rw [e] at h
      obtain ⟨ms, clock, h1, h2, h3⟩ := h
      refine ⟨ms, clock, (hb b e).trans h1, by rw [List.length_map]; exact h2, fun i m en hm he => ?_⟩
      rw [List.getElem?_map] at he
      obtain ⟨e0, he0, rfl⟩ := Option.map_eq_some_iff.1 he
      obtain ⟨r1, r2⟩ := h3 i m e0 hm he0
      exact ⟨r1.tr hC hw hf, r2.tr hC hw hf⟩

end Go.Hm
end

section
/-
  The heap machine, part 2: states, what they say of a world, and how they change. Own work; generic in the program.
-/
namespace Go.Hm
open Go Go.RowKit

def AO.fits : AO → Nm → Gh → World → Prop := fun o n g w => OAt g w n o

structure Inv (own : Nat → Prop) (C : Nat → Prop) (w0 : World) (g : Gh) (hp : Nm → Option AO) (w : World) : Prop where
  os : w.os = w0.os
  tape : w.tape = w0.tape
  output : w.output = w0.output
  size : w0.heap.size ≤ w.heap.size
  keep : ∀ b, b < w0.heap.size → ¬ own b → w.heap[b]? = w0.heap[b]?
  hC : g.C = C
  clt : ∀ b, C b → b < w.heap.size
  obj : ∀ n o, hp n = some o → OAt g w n o
  blk : ∀ n o b, hp n = some o → g.φ n = some b → ¬ C b ∧ (w0.heap.size ≤ b ∨ own b) ∧ b < w.heap.size
  inj : ∀ n n' o o' b, hp n = some o → hp n' = some o' → g.φ n = some b → g.φ n' = some b → n = n'

structure St where
  tm : Nat → AV
  hp : Nm → Option AO
  n : Nat
  gl : Nat → Option (List AV)

structure Rg (P : Program) (own : Nat → Prop) (C : Nat → Prop) (w0 : World) (g : Gh) (st : St) (a : Act) (w : World) : Prop where
  inv : Inv own C w0 g st.hp w
  defers : a.defers = []
  size : a.tmps.size = st.n
  slots : ∀ t, RV g w (a.tmps.getD t undef) (st.tm t)
  glob : ∀ i row, st.gl i = some row → RV g w (.pointer (some ⟨i, 0, none⟩)) (.el row 0) ∧ ∀ f : Nm → Option Nm, row.map (AV.tr f) = row

/-- what has a name of one's own choice keeps its memory -/
def Ust (g g' : Gh) : Prop := ∀ k i j, g'.φ (.u k i j) = g.φ (.u k i j) ∧ g'.κ (.u k i j) = g.κ (.u k i j)
theorem Ust.refl (g : Gh) : Ust g g := fun _ _ _ => ⟨rfl, rfl⟩
theorem Ust.trans {g g' g'' : Gh} (h : Ust g g') (h' : Ust g' g'') : Ust g g'' := fun k i j => ⟨(h' k i j).1.trans (h k i j).1, (h' k i j).2.trans (h k i j).2⟩
def Nm.isU : Nm → Bool
  | .u _ _ _ => true
  | _ => false
theorem under_u {n : Nm} {k i j : Nat} (h : n.isU = false) : Nm.under n (.u k i j) = false := by
  cases n <;> simp [Nm.isU, Nm.under] at *

def Rel (P : Program) (own : Nat → Prop) (C : Nat → Prop) (w0 : World) (g0 : Gh) (st : St) (a : Act) (w : World) : Prop := ∃ g, Ust g0 g ∧ Rg P own C w0 g st a w

/-- names are changed by f; the objects are hp -/
def St.nm (f : Nm → Option Nm) (hp : Nm → Option AO) (st : St) : St := { tm := fun t => (st.tm t).tr f, hp := hp, n := st.n, gl := st.gl }
/-- what is under n is forgotten -/
def hkl (n : Nm) (hp : Nm → Option AO) : Nm → Option AO := fun m => if Nm.under n m then none else (hp m).map (AO.tr (kl n))
/-- what is under n0 is called n1 -/
def hmv (n0 n1 : Nm) (hp : Nm → Option AO) : Nm → Option AO := fun m =>
  if Nm.under n1 m then (if mv n0 n1 (Nm.ren n1 n0 m) = some m then (hp (Nm.ren n1 n0 m)).map (AO.tr (mv n0 n1)) else none) else if Nm.under n0 m then none else (hp m).map (AO.tr (mv n0 n1))
def St.kill (n : Nm) (st : St) : St := st.nm (kl n) (hkl n st.hp)
def St.move (n0 n1 : Nm) (st : St) : St := st.nm (mv n0 n1) (hmv n0 n1 st.hp)
def St.put (st : St) (d : Option Nat) (a : AV) : St :=
  match d with
  | some d => { tm := fun t => if t = d then a else st.tm t, hp := st.hp, n := st.n, gl := st.gl }
  | none => st
def St.setO (st : St) (n : Nm) (o : AO) : St := { tm := st.tm, hp := fun m => if m = n then some o else st.hp m, n := st.n, gl := st.gl }
def St.drop (st : St) (n : Nm) : St := { tm := st.tm, hp := fun m => if m = n then none else st.hp m, n := st.n, gl := st.gl }

section
variable {P : Program} {own : Nat → Prop} {C : Nat → Prop} {w0 : World} {g : Gh} {st : St} {a : Act} {w : World}

theorem Rg.rv (h : Rg P own C w0 g st a w) {g' : Gh} {w' : World} {f : Nm → Option Nm} (gC : g'.C = g.C) (hw : ∀ b, C b → w'.heap[b]? = w.heap[b]?)
    (gf : ∀ n n', f n = some n' → g'.φ n' = g.φ n ∧ g'.κ n' = g.κ n) {v : Value} {x : AV} (hv : RV g w v x) : RV g' w' v (x.tr f) :=
  hv.tr (fun b hb => by rw [gC]; exact hb) (fun b hb => hw b (h.inv.hC ▸ hb)) gf

/-- The general step: names change by f, the world where nothing that stays is named, and there are new objects. -/
theorem Rg.step (h : Rg P own C w0 g st a w) {g' : Gh} {w' : World} {f : Nm → Option Nm} {hp' : Nm → Option AO}
    (gC : g'.C = g.C) (gf : ∀ n n', f n = some n' → g'.φ n' = g.φ n ∧ g'.κ n' = g.κ n)
    (h1 : w'.os = w.os) (h2 : w'.tape = w.tape) (h3 : w'.output = w.output) (h4 : w.heap.size ≤ w'.heap.size)
    (hw : ∀ b, C b → w'.heap[b]? = w.heap[b]?) (hkeep : ∀ b, b < w0.heap.size → ¬ own b → w'.heap[b]? = w.heap[b]?)
    (hobj : ∀ n' o', hp' n' = some o' →
      (∃ n o, f n = some n' ∧ st.hp n = some o ∧ o' = o.tr f ∧ ∀ b, g.φ n = some b → w'.heap[b]? = w.heap[b]?) ∨
      (OAt g' w' n' o' ∧ ∀ b, g'.φ n' = some b → (¬ C b ∧ (w0.heap.size ≤ b ∨ own b) ∧ b < w'.heap.size) ∧ ∀ n'' o'', hp' n'' = some o'' → g'.φ n'' = some b → n'' = n')) :
    Rg P own C w0 g' (st.nm f hp') a w' := by
  obtain ⟨i, hd, hs, hsl, hgl⟩ := h
  have h0 : Rg P own C w0 g st a w := ⟨i, hd, hs, hsl, hgl⟩
  have hwg : ∀ b, g.C b → w'.heap[b]? = w.heap[b]? := fun b hb => hw b (i.hC ▸ hb)
  have gCf : ∀ b, g.C b → g'.C b := fun b hb => by rw [gC]; exact hb
  have old : ∀ n' o' b, hp' n' = some o' → g'.φ n' = some b →
      (∃ n o, f n = some n' ∧ st.hp n = some o ∧ g.φ n = some b) ∨ ((¬ C b ∧ (w0.heap.size ≤ b ∨ own b) ∧ b < w'.heap.size) ∧ ∀ n'' o'', hp' n'' = some o'' → g'.φ n'' = some b → n'' = n') := by
    intro n' o' b hn' hb
    rcases hobj n' o' hn' with ⟨n, o, e1, e2, _, _⟩ | ⟨_, e⟩
    · exact .inl ⟨n, o, e1, e2, (gf n n' e1).1.symm.trans hb⟩
    · exact .inr (e b hb)
  refine ⟨⟨h1.trans i.os, h2.trans i.tape, h3.trans i.output, Nat.le_trans i.size h4, fun b hb ho => (hkeep b hb ho).trans (i.keep b hb ho), gC.trans i.hC, fun b hb => Nat.lt_of_lt_of_le (i.clt b hb) h4, ?_, ?_, ?_⟩,
    hd, hs, fun t => h0.rv gC hw gf (hsl t), fun j row e => ⟨?_, (hgl j row e).2⟩⟩
  · intro n' o' hn'
    rcases hobj n' o' hn' with ⟨n, o, e1, e2, rfl, e4⟩ | ⟨e, _⟩
    · exact (i.obj n o e2).tr gCf hwg gf e1 e4
    · exact e
  · intro n' o' b hn' hb
    rcases old n' o' b hn' hb with ⟨n, o, _, e2, e3⟩ | ⟨e, _⟩
    · obtain ⟨x1, x2, x3⟩ := i.blk n o b e2 e3
      exact ⟨x1, x2, Nat.lt_of_lt_of_le x3 h4⟩
    · exact e
  · intro n1 n2 o1 o2 b hn1 hn2 hb1 hb2
    rcases old n1 o1 b hn1 hb1 with ⟨m1, p1, e1, e2, e3⟩ | ⟨_, e⟩
    · rcases old n2 o2 b hn2 hb2 with ⟨m2, p2, f1, f2, f3⟩ | ⟨_, e'⟩
      · have := i.inj m1 m2 p1 p2 b e2 f2 e3 f3
        subst this
        exact Option.some.inj (e1.symm.trans f1)
      · exact e' n1 o1 hn1 hb1
    · exact (e n2 o2 hn2 hb2).symm
  · have := h0.rv gC hw gf (hgl j row e).1
    simpa only [AV.tr, trL_eq, (hgl j row e).2 f] using this

/-- the names after a change -/
noncomputable def Gh.tr (f : Nm → Option Nm) (g : Gh) : Gh :=
  { C := g.C, φ := fun x => open Classical in if h : ∃ k, f k = some x then g.φ h.choose else none, κ := fun x => open Classical in if h : ∃ k, f k = some x then g.κ h.choose else 0 }

theorem Gh.tr_spec {f : Nm → Option Nm} (hf : ∀ k k' x, f k = some x → f k' = some x → k = k') {k k' : Nm} (h : f k = some k') : (g.tr f).φ k' = g.φ k ∧ (g.tr f).κ k' = g.κ k := by
  have he : ∃ k, f k = some k' := ⟨k, h⟩
  simp only [Gh.tr, dif_pos he]
  rw [hf _ _ _ he.choose_spec h]
  exact ⟨rfl, rfl⟩

theorem Ust.kl {n : Nm} (h : n.isU = false) : Ust g (g.tr (kl n)) := fun k i j => by
  have e : Hm.kl n (.u k i j) = some (.u k i j) := by simp [Hm.kl, under_u h]
  exact Gh.tr_spec (fun _ _ _ => kl_inj) e
theorem Ust.mv {n0 n1 : Nm} (h : n0.isU = false) (h' : n1.isU = false) : Ust g (g.tr (mv n0 n1)) := fun k i j => by
  have e : Hm.mv n0 n1 (.u k i j) = some (.u k i j) := by simp [Hm.mv, under_u h, under_u h']
  exact Gh.tr_spec (fun _ _ _ => mv_inj) e

/-- a change of names alone -/
theorem Rg.rename (h : Rg P own C w0 g st a w) {f : Nm → Option Nm} {hp' : Nm → Option AO} (hf : ∀ k k' x, f k = some x → f k' = some x → k = k')
    (hobj : ∀ n' o', hp' n' = some o' → ∃ n o, f n = some n' ∧ st.hp n = some o ∧ o' = o.tr f) : Rg P own C w0 (g.tr f) (st.nm f hp') a w :=
  h.step rfl (fun _ _ e => Gh.tr_spec hf e) rfl rfl rfl (Nat.le_refl _) (fun _ _ => rfl) (fun _ _ _ => rfl) (fun n' o' e => by
    obtain ⟨n, o, e1, e2, e3⟩ := hobj n' o' e
    exact .inl ⟨n, o, e1, e2, e3, fun _ _ => rfl⟩)

theorem hkl_old {n : Nm} {hp : Nm → Option AO} {n' : Nm} {o' : AO} (e : hkl n hp n' = some o') : ∃ o, kl n n' = some n' ∧ hp n' = some o ∧ o' = o.tr (kl n) := by
  unfold hkl at e
  split at e
  · cases e
  · rename_i hu
    obtain ⟨o, e1, rfl⟩ := Option.map_eq_some_iff.1 e
    exact ⟨o, by simp [kl, hu], e1, rfl⟩
theorem Rg.kill (h : Rg P own C w0 g st a w) (n : Nm) : Rg P own C w0 (g.tr (kl n)) (st.kill n) a w :=
  h.rename (fun _ _ _ => kl_inj) (fun n' o' e => by
    obtain ⟨o, e1, e2, e3⟩ := hkl_old e
    exact ⟨n', o, e1, e2, e3⟩)
theorem Rg.move (h : Rg P own C w0 g st a w) (n0 n1 : Nm) : Rg P own C w0 (g.tr (mv n0 n1)) (st.move n0 n1) a w :=
  h.rename (fun _ _ _ => mv_inj) (fun n' o' e => by
    unfold hmv at e
    split at e
    · split at e
      · rename_i hm
        obtain ⟨o, e1, rfl⟩ := Option.map_eq_some_iff.1 e
        exact ⟨_, o, hm, e1, rfl⟩
      · cases e
    · split at e
      · cases e
      · rename_i h1 h0
        obtain ⟨o, e1, rfl⟩ := Option.map_eq_some_iff.1 e
        exact ⟨n', o, by simp [mv, h0, h1], e1, rfl⟩)

theorem kill_free {n m : Nm} (h : Nm.under n m = true) : (st.kill n).hp m = none := by
  simp [St.kill, St.nm, hkl, h]
theorem kill_gfree {n m : Nm} (h : Nm.under n m = true) : (g.tr (kl n)).φ m = none := by
  have : ¬ ∃ k, kl n k = some m := by
    rintro ⟨k, e⟩
    rw [(kl_spec e).2] at h
    cases h
  simp only [Gh.tr, dif_neg this]

/-- a slot is written -/
theorem Rg.put {d : Option Nat} {v : Value} {x : AV} (h : Rg P own C w0 g st a w) (hd : ∀ t, d = some t → t < st.n) (hv : RV g w v x) : Rg P own C w0 g (st.put d x) (a.put d v) w := by
  cases d with
  | none => exact h
  | some d =>
    obtain ⟨i, hdf, hs, hsl, hgl⟩ := h
    refine ⟨i, hdf, by simpa [Act.put, St.put] using hs, fun t => ?_, hgl⟩
    simp only [Act.put, St.put]
    have hdn : d < a.tmps.size := by rw [hs]; exact hd d rfl
    by_cases ht : t = d
    · subst ht
      simp [hdn, hv]
    · have : (a.tmps.setIfInBounds d v).getD t undef = a.tmps.getD t undef := by
        simp [Array.getElem?_setIfInBounds_ne (Ne.symm ht)]
      rw [this, if_neg ht]
      exact hsl t

/-- an object is forgotten -/
theorem Rg.drop (h : Rg P own C w0 g st a w) (n : Nm) : Rg P own C w0 g (st.drop n) a w := by
  obtain ⟨i, hd, hs, hsl, hgl⟩ := h
  have sub : ∀ m o, (st.drop n).hp m = some o → st.hp m = some o := by
    intro m o e
    simp only [St.drop] at e
    split at e
    · cases e
    · exact e
  exact ⟨⟨i.os, i.tape, i.output, i.size, i.keep, i.hC, i.clt, fun m o e => i.obj m o (sub m o e), fun m o b e => i.blk m o b (sub m o e), fun m m' o o' b e e' => i.inj m m' o o' b (sub m o e) (sub m' o' e')⟩, hd, hs, hsl, hgl⟩

/-- objects are forgotten -/
theorem Rg.weaken (h : Rg P own C w0 g st a w) (hp' : Nm → Option AO) (sub : ∀ m o, hp' m = some o → st.hp m = some o) : Rg P own C w0 g { tm := st.tm, hp := hp', n := st.n, gl := st.gl } a w := by
  obtain ⟨i, hd, hs, hsl, hgl⟩ := h
  exact ⟨⟨i.os, i.tape, i.output, i.size, i.keep, i.hC, i.clt, fun m o e => i.obj m o (sub m o e), fun m o b e => i.blk m o b (sub m o e), fun m m' o o' b e e' => i.inj m m' o o' b (sub m o e) (sub m' o' e')⟩, hd, hs, hsl, hgl⟩

/-- a name that is free gets no memory: a nil slice -/
theorem Rg.nilO (h : Rg P own C w0 g st a w) (n : Nm) (z : Nat) : ∃ g', Rg P own C w0 g' ((st.kill n).setO n (.row z [])) a w ∧ RV g' w (.slice none 0 0) (.hs n z 0 0) ∧ (n.isU = false → Ust g g') ∧ ∀ v x, RV g w v x → RV g' w v (x.tr (kl n)) := by
  have gf : ∀ k k', kl n k = some k' → (g.tr (kl n)).φ k' = g.φ k ∧ (g.tr (kl n)).κ k' = g.κ k := fun _ _ e => Gh.tr_spec (fun _ _ _ => kl_inj) e
  have hs := h.step (g' := g.tr (kl n)) (w' := w) (f := kl n) (hp' := ((st.kill n).setO n (.row z [])).hp) rfl gf rfl rfl rfl (Nat.le_refl _) (fun _ _ => rfl) (fun _ _ _ => rfl) (fun n' o' e => by
    simp only [St.setO] at e
    split at e
    · rename_i e'
      subst e'
      obtain rfl := Option.some.inj e
      refine .inr ⟨?_, fun b hb => ?_⟩
      · simp only [OAt, kill_gfree (Nm.under_self n')]
      · rw [kill_gfree (Nm.under_self n')] at hb; cases hb
    · obtain ⟨o, e1, e2, e3⟩ := hkl_old e
      exact .inl ⟨n', o, e1, e2, e3, fun _ _ => rfl⟩)
  exact ⟨_, hs, .hsN n z (kill_gfree (Nm.under_self n)), fun hu => .kl hu, fun v x hx => h.rv (g' := g.tr (kl n)) rfl (fun _ _ => rfl) gf hx⟩

end
end Go.Hm
end

section
/-
  The heap machine, part 3: what the table of types says; reading at addresses. Own work; generic in the program.
-/
namespace Go.Hm
open Go Go.RowKit

/-! ### What the table of types says -/
def aggO (P : Program) (T : TypeId) : Option Bool :=
  if (P.info? T).isSome then
    match P.underlying T with
    | some (.struct _) => some true
    | some (.array _ _) => some true
    | some _ => some false
    | none => none
  else none
def tel (P : Program) (T : TypeId) : Option TypeId :=
  match P.underlying T with
  | some (.slice e) => if (P.info? e).isSome then some e else none
  | _ => none
def tarr (P : Program) (T : TypeId) : Option (Nat × TypeId) :=
  match P.underlying T with
  | some (.array n e) => if (P.info? e).isSome then some (n, e) else none
  | _ => none
def tfo (P : Program) (T : TypeId) (f : Nat) : Option (Nat × TypeId) :=
  match P.underlying T with
  | some (.struct fs) => match fs[f]? with
    | some fd => if tsz P fd.type = 0 then none else some (fd.offset, fd.type)
    | none => none
  | _ => none
/-- the cells of the zero value -/
def tzero (P : Program) (T : TypeId) : Option (List Value) := ((P.info? T).bind (·.zero)).map (fun z => z.cells.toList)

theorem run_sz {P : Program} {w : World} {T : TypeId} (h : (P.info? T).isSome) : (sizeOf T).run P w = .ok (tsz P T) w := by
  obtain ⟨i, hi⟩ := Option.isSome_iff_exists.1 h
  simp [sizeOf, typeInfo, hi, tsz]
theorem run_und {P : Program} {w : World} {T : TypeId} {d : TypeDesc} (h : P.underlying T = some d) : (underlying T).run P w = .ok d w := by
  simp [underlying, h]
theorem isSome_of_tsz {P : Program} {T : TypeId} (h : tsz P T ≠ 0) : (P.info? T).isSome := by
  unfold tsz at h
  cases hi : P.info? T with
  | none => simp [hi] at h
  | some i => rfl
theorem run_isAgg' {P : Program} {w : World} {T : TypeId} {t : Bool} (h : aggO P T = some t) : (isAgg T).run P w = .ok t w := by
  unfold aggO at h
  split at h
  · cases hu : P.underlying T with
    | none => simp [hu] at h
    | some d => cases d <;> simp [hu] at h <;> simp [isAgg, underlying, hu, h]
  · cases h
theorem info_of_aggO {P : Program} {T : TypeId} {t : Bool} (h : aggO P T = some t) : (P.info? T).isSome := by
  unfold aggO at h
  split at h
  · assumption
  · cases h

/-! ### Parts of abstract values -/
def AV.one : AV → Bool
  | .sc v => v.oneCell'
  | .agg _ => false
  | .tup _ => false
  | .bot => false
  | _ => true

/-- the cells of a value -/
def AV.cells : AV → Option (List AV)
  | .agg cs => if cs.all AV.one then some cs else none
  | a => if a.one then some [a] else none

/-- a part of a row of cells, by its type -/
def getC (P : Program) (T : TypeId) (cs : List AV) (off : Nat) : Option AV :=
  match aggO P T with
  | some true => if off + tsz P T ≤ cs.length then some (.agg ((cs.drop off).take (tsz P T))) else none
  | some false => cs[off]?
  | none => none

theorem cells_of_one {v : Value} (h : v.oneCell' = true) : v.cells = #[v] := by
  cases v <;> first | rfl | simp [Value.oneCell'] at h

section
variable {P : Program} {own : Nat → Prop} {C : Nat → Prop} {w0 : World} {g : Gh} {st : St} {a : Act} {w : World}

theorem RV.sc_eq {v u : Value} (h : RV g w v (.sc u)) : v = u := by
  cases h; rfl

theorem agg_cells {v : Value} {cs : List AV} (h : RV g w v (.agg cs)) : ∃ vs : List Value, v = .agg vs.toArray ∧ vs.length = cs.length ∧ ∀ (j : Nat) y, cs[j]? = some y → ∃ u, vs[j]? = some u ∧ RV g w u y := by
  cases h with
  | agg vs cs hl hr =>
    refine ⟨vs, rfl, hl, fun j y hy => ?_⟩
    have hlt : j < vs.length := by rw [hl]; exact (List.getElem?_eq_some_iff.1 hy).1
    exact ⟨_, List.getElem?_eq_getElem hlt, hr j _ y (List.getElem?_eq_getElem hlt) hy⟩
theorem tup_cells {v : Value} {cs : List AV} (h : RV g w v (.tup cs)) : ∃ vs : List Value, v = .tuple vs.toArray ∧ vs.length = cs.length ∧ ∀ (j : Nat) y, cs[j]? = some y → ∃ u, vs[j]? = some u ∧ RV g w u y := by
  cases h with
  | tup vs cs hl hr =>
    refine ⟨vs, rfl, hl, fun j y hy => ?_⟩
    have hlt : j < vs.length := by rw [hl]; exact (List.getElem?_eq_some_iff.1 hy).1
    exact ⟨_, List.getElem?_eq_getElem hlt, hr j _ y (List.getElem?_eq_getElem hlt) hy⟩

theorem RV.oneCell {v : Value} {x : AV} (h : RV g w v x) (ho : x.one = true) : v.oneCell' = true := by
  cases h <;> first | rfl | exact ho | (simp [AV.one] at ho; done)

theorem RV.cells {v : Value} {x : AV} {cs : List AV} (h : RV g w v x) (hc : x.cells = some cs) :
    v.cells.toList.length = cs.length ∧ (∀ u ∈ v.cells.toList, u.oneCell' = true) ∧ ∀ (j : Nat) u y, v.cells.toList[j]? = some u → cs[j]? = some y → RV g w u y := by
  by_cases hx : ∃ ds, x = .agg ds
  · obtain ⟨ds, rfl⟩ := hx
    simp only [AV.cells] at hc
    split at hc
    · rename_i hall
      obtain rfl := Option.some.inj hc
      have hone : ∀ y ∈ ds, y.one = true := fun y hy => List.all_eq_true.1 hall y hy
      cases h with
      | agg vs cs hl hr =>
        refine ⟨by simpa [Value.cells] using hl, ?_, fun j u y hu hy => hr j u y (by simpa [Value.cells] using hu) hy⟩
        intro u hu
        simp only [Value.cells] at hu
        obtain ⟨j, hj⟩ := List.getElem?_of_mem hu
        have hlt : j < ds.length := by rw [← hl]; exact (List.getElem?_eq_some_iff.1 hj).1
        exact (hr j u _ hj (List.getElem?_eq_getElem hlt)).oneCell (hone _ (List.getElem_mem hlt))
    · cases hc
  · have hc' : (if x.one then some [x] else none) = some cs := by
      cases x <;> first | exact hc | exact absurd ⟨_, rfl⟩ hx
    split at hc'
    · rename_i ho
      obtain rfl := Option.some.inj hc'
      have h1 := h.oneCell ho
      rw [cells_of_one h1]
      refine ⟨rfl, ?_, ?_⟩
      · intro u hu
        simp at hu
        subst hu
        exact h1
      · intro j u y hu hy
        match j, hu, hy with
        | 0, hu, hy =>
          simp at hu hy
          subst hu
          subst hy
          exact h
    · cases hc'

/-- What is read at an address of known cells. -/
theorem run_getC {T : TypeId} {cs : List AV} {off : Nat} {x : AV} {b o : Nat} {f : Nat → Value} (hq : getC P T cs off = some x)
    (hcell : ∀ j, j < cs.length → w.cell? ⟨b, o + j, none⟩ = some (f j)) (hr : ∀ (j : Nat) y, cs[j]? = some y → RV g w (f j) y) :
    ∃ v, (loadVar T ⟨b, o + off, none⟩).run P w = .ok v w ∧ RV g w v x := by
  unfold getC at hq
  split at hq
  · rename_i hagg
    split at hq
    · rename_i hle
      obtain rfl := Option.some.inj hq
      have hl := run_loadCells (P := P) (w := w) ⟨b, o + off, none⟩ (tsz P T) (fun j => f (off + j)) (fun j hj => by rw [Addr.add_lit, Nat.add_assoc]; exact hcell (off + j) (by omega))
      refine ⟨.agg ((List.range (tsz P T)).map (fun j => f (off + j))).toArray, ?_, ?_⟩
      · simp only [loadVar, Sem.run_bind, run_isAgg' hagg, Result.andThen_ok, if_true, run_sz (info_of_aggO hagg), hl, Sem.run_pure]
      · refine .agg _ _ (by simp; omega) fun j v y hv hy => ?_
        rw [List.getElem?_map] at hv
        obtain ⟨j', hj', rfl⟩ := Option.map_eq_some_iff.1 hv
        obtain ⟨hj1, hj2⟩ := List.getElem?_eq_some_iff.1 hj'
        simp at hj2 hj1
        subst hj2
        rw [List.getElem?_take, if_pos hj1, List.getElem?_drop] at hy
        exact hr (off + j) y hy
    · cases hq
  · rename_i hagg
    have hlt : off < cs.length := (List.getElem?_eq_some_iff.1 hq).1
    refine ⟨f off, ?_, hr off x hq⟩
    simp only [loadVar, Sem.run_bind, run_isAgg' hagg, Result.andThen_ok, Bool.false_eq_true, if_false, run_load, hcell off hlt]
  · cases hq

/-! ### Operands -/
def ev (st : St) : Operand → AV
  | .tmp t => st.tm t
  | .const v => .sc v
  | .global i => match st.gl i with | some row => .el row 0 | none => .bot
  | .func f => .sc (.func (.func f) #[] #[])

theorem Rg.ev (h : Rg P own C w0 g st a w) (x : Operand) : RV g w (a.eval x) (ev st x) := by
  cases x with
  | tmp t => exact h.slots t
  | const v => exact .sc v
  | global i =>
    simp only [Hm.ev, Act.eval]
    split
    · rename_i row hrow
      exact (h.glob i row hrow).1
    · exact .bot _
  | func f => exact .sc _

/-! ### Reading through pointers -/
/-- the cells at a pointer, and where in them it points -/
def cellsAt (st : St) : AV → Option (List AV × Nat)
  | .pt n off => match st.hp n with
    | some (.row _ (r :: _)) => some (r, off)
    | _ => none
  | .el row off => some (row, off)
  | .ep n z i off => match st.hp n with
    | some (.row z' rows) => if z' = z then (rows[i]?).map (fun r => (r, off)) else none
    | _ => none
  | _ => none

theorem getD_of_getElem? {α : Type} {l : List α} {j : Nat} {x d : α} (h : l[j]? = some x) : l.getD j d = x := by
  rw [List.getD_eq_getElem?_getD, h]; rfl

/-- the cells of a row of an object -/
theorem Inv.rowAt {own : Nat → Prop} {C : Nat → Prop} {w0 : World} {g : Gh} {hp : Nm → Option AO} {w : World} (h : Inv own C w0 g hp w) {n : Nm} {b z i : Nat} {rows : List (List AV)} {row : List AV} (hn : hp n = some (.row z rows)) (hk : g.φ n = some b) (hi : rows[i]? = some row) :
    ∃ f : Nat → Value, (∀ j, j < row.length → w.cell? ⟨b, i * z + j, none⟩ = some (f j)) ∧ (∀ j, j < row.length → (f j).oneCell' = true) ∧ ∀ (j : Nat) y, row[j]? = some y → RV g w (f j) y := by
  have ho := h.obj n _ hn
  simp only [OAt, hk] at ho
  obtain ⟨cur, T, h1, h2, h3, h4, h5, h6, h7⟩ := ho
  have hlen : row.length = z := h5 row (List.mem_of_getElem? hi)
  have hlt : i < rows.length := (List.getElem?_eq_some_iff.1 hi).1
  have hin : ∀ j, j < row.length → i * z + j < rows.length * z := by
    intro j hj
    have : (i + 1) * z ≤ rows.length * z := Nat.mul_le_mul_right _ hlt
    rw [Nat.add_mul] at this
    omega
  have hcur : ∀ j, j < row.length → i * z + j < cur.size := by
    intro j hj
    have h8 := hin j hj
    have : rows.length * z ≤ g.κ n * z := Nat.mul_le_mul_right _ h4
    rw [h2]
    omega
  refine ⟨fun j => cur.getD (i * z + j) undef, ?_, fun j hj => h6 _ (hin j hj), fun j y hy => h7 i row hi j y hy⟩
  intro j hj
  rw [cell_of_row w _ _ _ T _ h1]
  simp [hcur j hj]

theorem Rg.cellsAt (h : Rg P own C w0 g st a w) {v : Value} {x : AV} {cs : List AV} {off : Nat} (hv : RV g w v x) (hq : cellsAt st x = some (cs, off)) :
    ∃ (b o : Nat) (f : Nat → Value), v = .pointer (some ⟨b, o + off, none⟩) ∧ (∀ j, j < cs.length → w.cell? ⟨b, o + j, none⟩ = some (f j)) ∧ (∀ j, j < cs.length → (f j).oneCell' = true) ∧ ∀ (j : Nat) y, cs[j]? = some y → RV g w (f j) y := by
  cases x with
  | pt n o =>
    simp only [Hm.cellsAt] at hq
    split at hq
    · rename_i z r rest hn
      obtain ⟨rfl, rfl⟩ := Prod.mk.inj (Option.some.inj hq)
      cases hv with
      | pt _ _ b hk =>
        obtain ⟨f, f1, f2, f3⟩ := h.inv.rowAt hn hk (i := 0) rfl
        exact ⟨b, 0, f, by rw [Nat.zero_add], fun j hj => by simpa using f1 j hj, f2, f3⟩
    · cases hq
  | el row o =>
    simp only [Hm.cellsAt] at hq
    obtain ⟨rfl, rfl⟩ := Prod.mk.inj (Option.some.inj hq)
    cases hv with
    | el b o' off row f hC hcell ho hr => exact ⟨b, o', f, rfl, hcell, ho, fun j y hy => hr j y hy⟩
  | ep n z i o =>
    simp only [Hm.cellsAt] at hq
    split at hq
    · rename_i z' rows hn
      split at hq
      · rename_i hz
        subst hz
        obtain ⟨r, hr0, e⟩ := Option.map_eq_some_iff.1 hq
        obtain ⟨rfl, rfl⟩ := Prod.mk.inj e
        cases hv with
        | ep _ _ _ _ b hk =>
          obtain ⟨f, f1, f2, f3⟩ := h.inv.rowAt hn hk hr0
          exact ⟨b, i * z' , f, rfl, f1, f2, f3⟩
      · cases hq
    · cases hq
  | _ => simp [Hm.cellsAt] at hq

/-! ### Loads and addresses -/
theorem run_load_op {T : TypeId} {x : Operand} {y z : AV} {cs : List AV} {off : Nat} (h : Rg P own C w0 g st a w) (hy : ev st x = y) (h1 : cellsAt st y = some (cs, off)) (h2 : getC P T cs off = some z) :
    ∃ v, (Instr.loadAt T (a.eval x)).run P w = .ok v w ∧ RV g w v z := by
  have hv := h.ev x
  rw [hy] at hv
  obtain ⟨b, o, f, e, hcell, _, hr⟩ := h.cellsAt hv h1
  obtain ⟨v, hrun, hrv⟩ := run_getC h2 hcell hr
  refine ⟨v, ?_, hrv⟩
  rw [e]
  simp only [Instr.loadAt, Instr.sureAddr, Sem.run_bind, Sem.run_pure, Result.andThen_ok, hrun]

def fieldAV (P : Program) (T : TypeId) (f : Nat) : AV → Option AV
  | .pt n off => (tfo P T f).map (fun p => .pt n (off + p.1))
  | .el row off => (tfo P T f).map (fun p => .el row (off + p.1))
  | .ep n z i off => (tfo P T f).map (fun p => .ep n z i (off + p.1))
  | _ => none

theorem run_fieldAt_addr {T : TypeId} {f : Nat} {o : Nat} {e : TypeId} {b p : Nat} (ht : tfo P T f = some (o, e)) : (Instr.fieldAt T (.pointer (some ⟨b, p, none⟩)) f).run P w = .ok (.pointer (some ⟨b, p + o, none⟩)) w := by
  unfold tfo at ht
  split at ht
  · rename_i fs hu
    split at ht
    · rename_i fd hfd
      split at ht
      · cases ht
      · rename_i hz
        obtain ⟨rfl, rfl⟩ := Prod.mk.inj (Option.some.inj ht)
        simp only [Instr.fieldAt, Sem.run_bind, run_und hu, Result.andThen_ok, hfd, Instr.sureAddr, Sem.run_pure, fieldPlace, run_sz (isSome_of_tsz hz), hz, if_false, Addr.add_lit]
    · cases ht
  · cases ht

theorem run_field_op {T : TypeId} {f : Nat} {v : Value} {y z : AV} (hv : RV g w v y) (h1 : fieldAV P T f y = some z) : ∃ v', (Instr.fieldAt T v f).run P w = .ok v' w ∧ RV g w v' z := by
  cases y with
  | pt n off =>
    obtain ⟨⟨o, e⟩, ht, rfl⟩ := Option.map_eq_some_iff.1 h1
    cases hv with
    | pt _ _ b hk => exact ⟨_, run_fieldAt_addr ht, .pt n (off + o) b hk⟩
  | el row off =>
    obtain ⟨⟨o, e⟩, ht, rfl⟩ := Option.map_eq_some_iff.1 h1
    cases hv with
    | el b o' off row f hC hcell ho hr => exact ⟨_, run_fieldAt_addr ht, by rw [Nat.add_assoc]; exact .el b o' (off + o) row f hC hcell ho hr⟩
  | ep n z i off =>
    obtain ⟨⟨o, e⟩, ht, rfl⟩ := Option.map_eq_some_iff.1 h1
    cases hv with
    | ep _ _ _ _ b hk => exact ⟨_, run_fieldAt_addr ht, by rw [Nat.add_assoc]; exact .ep n z i (off + o) b hk⟩
  | _ => simp [fieldAV] at h1

def indexAV (P : Program) (T : TypeId) (x : AV) (n : Int) : Option AV :=
  match tel P T with
  | some e => match x with
    | .sl z rows => if z = tsz P e ∧ 0 ≤ n then (rows[n.toNat]?).map (fun r => .el r 0) else none
    | .hs m z lo len => if z = tsz P e ∧ 0 ≤ n ∧ n < len then some (.ep m z (lo + n.toNat) 0) else none
    | _ => none
  | none => match tarr P T with
    | some (len, e) => if 0 ≤ n ∧ n < len then (match x with
      | .pt m off => some (.pt m (off + n.toNat * tsz P e))
      | .el row off => some (.el row (off + n.toNat * tsz P e))
      | .ep m z i off => some (.ep m z i (off + n.toNat * tsz P e))
      | _ => none) else none
    | none => none

theorem tel_spec {T e : TypeId} (h : tel P T = some e) : P.underlying T = some (.slice e) ∧ (P.info? e).isSome := by
  unfold tel at h
  split at h
  · rename_i e' hu
    split at h
    · rename_i hi
      obtain rfl := Option.some.inj h
      exact ⟨hu, hi⟩
    · cases h
  · cases h
theorem tarr_spec {T e : TypeId} {n : Nat} (h : tarr P T = some (n, e)) : P.underlying T = some (.array n e) ∧ (P.info? e).isSome := by
  unfold tarr at h
  split at h
  · rename_i n' e' hu
    split at h
    · rename_i hi
      obtain ⟨rfl, rfl⟩ := Prod.mk.inj (Option.some.inj h)
      exact ⟨hu, hi⟩
    · cases h
  · cases h

theorem run_index_slice {T e : TypeId} {b p len cap : Nat} {k : IntKind} {n : Int} (ht : tel P T = some e) (h0 : 0 ≤ n) (h1 : n < len) :
    (Instr.indexAt T (.slice (some ⟨b, p, none⟩) len cap) (.int k n)).run P w = .ok (.pointer (some ⟨b, p + n.toNat * tsz P e, none⟩)) w := by
  obtain ⟨hu, hi⟩ := tel_spec ht
  simp only [Instr.indexAt, asIntOf, Sem.run_bind, Sem.run_pure, Result.andThen_ok, run_und hu, h0, h1, and_self, if_true, run_sz hi, Addr.add_lit]

theorem run_index_arr {T e : TypeId} {b p len : Nat} {k : IntKind} {n : Int} (ht : tarr P T = some (len, e)) (h0 : 0 ≤ n) (h1 : n < len) :
    (Instr.indexAt T (.pointer (some ⟨b, p, none⟩)) (.int k n)).run P w = .ok (.pointer (some ⟨b, p + n.toNat * tsz P e, none⟩)) w := by
  obtain ⟨hu, hi⟩ := tarr_spec ht
  simp only [Instr.indexAt, asIntOf, Sem.run_bind, Sem.run_pure, Result.andThen_ok, run_und hu, Instr.sureAddr, h0, h1, and_self, if_true, run_sz hi, Addr.add_lit]

theorem run_index_op {T : TypeId} {v : Value} {y z : AV} {k : IntKind} {n : Int} (hv : RV g w v y) (h1 : indexAV P T y n = some z) : ∃ v', (Instr.indexAt T v (.int k n)).run P w = .ok v' w ∧ RV g w v' z := by
  unfold indexAV at h1
  split at h1
  · rename_i e ht
    cases y with
    | sl E rows =>
      simp only at h1
      split at h1
      · rename_i hc
        obtain ⟨rfl, h0⟩ := hc
        obtain ⟨r, hr0, rfl⟩ := Option.map_eq_some_iff.1 h1
        cases hv with
        | slN => simp at hr0
        | slC b off cap len E rows f hC hn hcap hu hcell ho hr =>
          have hlt : n.toNat < len := by rw [← hn]; exact (List.getElem?_eq_some_iff.1 hr0).1
          have hlen : r.length = tsz P e := hu r (List.mem_of_getElem? hr0)
          refine ⟨_, run_index_slice ht h0 (by omega), ?_⟩
          exact .el b (off + n.toNat * tsz P e) 0 r (f n.toNat) hC (fun j hj => hcell n.toNat j hlt (by rw [← hlen]; exact hj)) (fun j hj => ho n.toNat j hlt (by rw [← hlen]; exact hj)) (fun j y hy => hr n.toNat r hr0 j y hy)
      · cases h1
    | hs m z' lo len =>
      simp only at h1
      split at h1
      · rename_i hc
        obtain ⟨rfl, h0, hlt⟩ := hc
        obtain rfl := Option.some.inj h1
        cases hv with
        | hsN => simp at hlt; omega
        | hsB _ _ _ _ b cap ad hk g1 g2 g3 =>
          rw [g3 (by omega)]
          refine ⟨_, run_index_slice ht h0 (by omega), ?_⟩
          have := RV.ep (g := g) (w := w) m (tsz P e) (lo + n.toNat) 0 b hk
          rw [Nat.add_mul, Nat.add_zero] at this
          exact this
      · cases h1
    | _ => simp at h1
  · split at h1
    · rename_i len e ht
      split at h1
      · rename_i hc
        obtain ⟨h0, hlt⟩ := hc
        cases y with
        | pt m off =>
          obtain rfl := Option.some.inj h1
          cases hv with
          | pt _ _ b hk => exact ⟨_, run_index_arr ht h0 hlt, .pt m _ b hk⟩
        | el row off =>
          obtain rfl := Option.some.inj h1
          cases hv with
          | el b o' off row f hC hcell ho hr => exact ⟨_, run_index_arr ht h0 hlt, by rw [Nat.add_assoc]; exact .el b o' _ row f hC hcell ho hr⟩
        | ep m z' i off =>
          obtain rfl := Option.some.inj h1
          cases hv with
          | ep _ _ _ _ b hk => exact ⟨_, run_index_arr ht h0 hlt, by rw [Nat.add_assoc]; exact .ep m z' i _ b hk⟩
        | _ => simp at h1
      · cases h1
    · cases h1

end
end Go.Hm
end

section
/-
  The heap machine, part 4: arithmetic, comparisons, lengths, parts, interfaces, aggregates. Own work; generic in the program.
-/
namespace Go.Hm
open Go Go.RowKit

section
variable {P : Program} {own : Nat → Prop} {C : Nat → Prop} {w0 : World} {g : Gh} {st : St} {a : Act} {w : World}

/-! ### Binary operations -/
def intAV (k : IntKind) (op : BinOp) (x y : Int) : Option AV :=
  match op with
  | .add => some (.sc (.int k (k.wrap (x + y))))
  | .sub => some (.sc (.int k (k.wrap (x - y))))
  | .mul => some (.sc (.int k (k.wrap (x * y))))
  | .quo => if y = 0 then none else some (.sc (.int k (k.wrap (x.tdiv y))))
  | .rem => if y = 0 then none else some (.sc (.int k (x.tmod y)))
  | .xor => some (.sc (.int k (k.wrap (BitVec.ofInt k.bits x ^^^ BitVec.ofInt k.bits y).toNat)))
  | .eql => some (.sc (.bool (x == y)))
  | .neq => some (.sc (.bool (x != y)))
  | .lss => some (.sc (.bool (decide (x < y))))
  | .leq => some (.sc (.bool (decide (x ≤ y))))
  | .gtr => some (.sc (.bool (decide (x > y))))
  | .geq => some (.sc (.bool (decide (x ≥ y))))
  | _ => none

def strAV (op : BinOp) (x y : ByteArray) : Option AV :=
  match op with
  | .add => if x.size + y.size ≤ 9223372036854775807 then some (.sc (.string (x ++ y))) else none
  | .eql => some (.sc (.bool (x.toList == y.toList)))
  | .neq => some (.sc (.bool (!(x.toList == y.toList))))
  | _ => none

/-- structs of whole numbers, field by field -/
def eqL : List AV → List AV → Option Bool
  | [], [] => some true
  | .sc (.int .i64 x) :: xs, .sc (.int .i64 y) :: ys => (eqL xs ys).map (fun r => (x == y) && r)
  | _, _ => none

/-- a struct of whole numbers -/
def tints (P : Program) (T : TypeId) : Option Nat :=
  match P.underlying T with
  | some (.struct fs) => if (fs.toList.zipIdx.all fun (f, j) => f.name != "_" && f.offset == j && (match P.underlying f.type with | some (.int .i64) => true | _ => false) && (match aggO P f.type with | some false => true | _ => false)) && !P.stoodInHeld T && !P.eqGuardType P.depth T then some fs.size else none
  | _ => none

def tbool (P : Program) (T : TypeId) : Bool := match P.underlying T with | some .bool => true | _ => false
def isIf (P : Program) (T : TypeId) : Bool := match P.underlying T with | some (.interface _) => true | _ => false
def isPtr (P : Program) (T : TypeId) : Bool := match P.underlying T with | some (.pointer _) => true | _ => false

def ptrAV (op : BinOp) (r : Bool) : Option AV := match op with | .eql => some (.sc (.bool r)) | .neq => some (.sc (.bool (!r))) | _ => none
def binAV (P : Program) (T : TypeId) (op : BinOp) (cy : Bool) (x y : AV) : Option AV :=
  match x, y with
  | .sc (.int k m), .sc (.int k' n) => if k = k' then intAV k op m n else none
  | .sc (.string s), .sc (.string t) => strAV op s t
  | .sc (.bool s), .sc (.bool t) => if tbool P T then ptrAV op (s == t) else none
  | .agg xs, .agg ys => match tints P T with
    | some n => if xs.length = n then (eqL xs ys).bind (ptrAV op) else none
    | none => none
  | .pt _ _, .sc (.pointer none) => if isPtr P T then ptrAV op false else none
  | .el _ _, .sc (.pointer none) => if isPtr P T then ptrAV op false else none
  | .ep _ _ _ _, .sc (.pointer none) => if isPtr P T then ptrAV op false else none
  | .sc (.pointer none), .sc (.pointer none) => if isPtr P T then ptrAV op true else none
  | .ifc _ _, .sc .nilIface => if isIf P T then ptrAV op false else none
  | .sc .nilIface, .sc .nilIface => if isIf P T && cy then ptrAV op true else none
  | _, _ => none

theorem run_int {k : IntKind} {op : BinOp} {T : TypeId} {x y : Int} {z : AV} (h : intAV k op x y = some z) : ∃ v, (binOp op T (.int k x) (.int k y)).run P w = .ok v w ∧ RV g w v z := by
  cases op <;> simp only [intAV] at h <;> first
    | (cases h; done)
    | (obtain rfl := Option.some.inj h; exact ⟨_, by simp [binOp, Op.intArith, Op.intCmp, Op.intBits]; try rfl, .sc _⟩)
    | (split at h
       · cases h
       · rename_i hy
         obtain rfl := Option.some.inj h
         exact ⟨_, by simp [binOp, Op.intDiv, hy]; try rfl, .sc _⟩)

theorem run_str {op : BinOp} {T : TypeId} {x y : ByteArray} {z : AV} (h : strAV op x y = some z) : ∃ v, (binOp op T (.string x) (.string y)).run P w = .ok v w ∧ RV g w v z := by
  cases op <;> simp only [strAV] at h <;> first
    | (cases h; done)
    | (obtain rfl := Option.some.inj h; exact ⟨_, by simp [binOp, Op.stringOp]; try rfl, .sc _⟩)
    | (split at h
       · rename_i hs
         obtain rfl := Option.some.inj h
         refine ⟨.string (x ++ y), ?_, .sc _⟩
         have hm : ¬ (((x.size + y.size : Nat) : Int) > IntKind.i64.max) := by
           have : IntKind.i64.max = 9223372036854775807 := by decide
           rw [this]; omega
         simp only [binOp, Op.stringOp, hm, if_false, Sem.run_pure]
       · cases h)

theorem eqL_cons {x : AV} {xs ys : List AV} {r : Bool} (h : eqL (x :: xs) ys = some r) : ∃ m n ys' r', x = .sc (.int .i64 m) ∧ ys = .sc (.int .i64 n) :: ys' ∧ eqL xs ys' = some r' ∧ r = ((m == n) && r') := by
  generalize hz : x :: xs = zs at h
  unfold eqL at h
  split at h
  · cases hz
  · obtain ⟨rfl, rfl⟩ := List.cons.inj hz
    obtain ⟨r', hr', rfl⟩ := Option.map_eq_some_iff.1 h
    exact ⟨_, _, _, r', rfl, rfl, hr', rfl⟩
  · cases h

theorem eqL_run (d : Nat) : ∀ (fs : List Field) (o : Nat) (xs ys : List AV) (vx vy : Array Value) (r : Bool),
    (∀ (j : Nat) f, fs[j]? = some f → f.name ≠ "_" ∧ f.offset = o + j ∧ P.underlying f.type = some (.int .i64) ∧ aggO P f.type = some false) →
    (∀ (j : Nat) y, xs[j]? = some y → ∃ v, vx[o + j]? = some v ∧ RV g w v y) → (∀ (j : Nat) y, ys[j]? = some y → ∃ v, vy[o + j]? = some v ∧ RV g w v y) → fs.length = xs.length →
    eqL xs ys = some r → (Op.eqFields (d + 1) vx vy fs).run P w = .ok r w := by
  intro fs
  induction fs with
  | nil =>
    intro o xs ys vx vy r hf hx hy hl h
    have : xs = [] := List.eq_nil_of_length_eq_zero hl.symm
    subst this
    cases ys with
    | nil => simp [eqL] at h; subst h; simp [Op.eqFields]
    | cons y ys => simp [eqL] at h
  | cons f fs ih =>
    intro o xs ys vx vy r hf hx hy hl h
    cases xs with
    | nil => simp at hl
    | cons x xs =>
      obtain ⟨m, n, ys', r', rfl, rfl, hr', rfl⟩ := eqL_cons h
      · obtain ⟨f1, f2, f3, f4⟩ := hf 0 f rfl
        obtain ⟨v1, hv1, hr1⟩ := hx 0 _ rfl
        obtain ⟨v2, hv2, hr2⟩ := hy 0 _ rfl
        rw [hr1.sc_eq] at hv1
        rw [hr2.sc_eq] at hv2
        have hp1 : (part f.type vx f.offset).run P w = .ok (.int .i64 m) w := by
          simp only [part, Sem.run_bind, run_isAgg' f4, Result.andThen_ok, Bool.false_eq_true, if_false, f2, hv1, Sem.run_pure]
        have hp2 : (part f.type vy f.offset).run P w = .ok (.int .i64 n) w := by
          simp only [part, Sem.run_bind, run_isAgg' f4, Result.andThen_ok, Bool.false_eq_true, if_false, f2, hv2, Sem.run_pure]
        have hih := ih (o + 1) xs ys' vx vy r' (fun j f' hj => by
            have := hf (j + 1) f' (by simpa using hj)
            refine ⟨this.1, by rw [this.2.1]; omega, this.2.2⟩)
          (fun j y hj => by have := hx (j + 1) y (by simpa using hj); rwa [show o + (j + 1) = o + 1 + j from by omega] at this)
          (fun j y hj => by have := hy (j + 1) y (by simpa using hj); rwa [show o + (j + 1) = o + 1 + j from by omega] at this)
          (by simpa using hl) hr'
        simp only [Op.eqFields, ne_eq, f1, not_false_eq_true, if_true, Sem.run_bind, hp1, Result.andThen_ok, hp2, run_equalIn_int w d f.type .i64 .i64 m n f3]
        by_cases hmn : m = n
        · subst hmn; simpa using hih
        · have hb : (m == n) = false := by simpa using hmn
          simp [hb]

theorem tints_spec {T : TypeId} {n : Nat} (h : tints P T = some n) : ∃ fs, P.underlying T = some (.struct fs) ∧ fs.size = n ∧ P.stoodInHeld T = false ∧ P.eqGuardType P.depth T = false ∧
    ∀ (j : Nat) f, fs.toList[j]? = some f → f.name ≠ "_" ∧ f.offset = j ∧ P.underlying f.type = some (.int .i64) ∧ aggO P f.type = some false := by
  unfold tints at h
  split at h
  · rename_i fs hu
    split at h
    · rename_i hc
      simp only [Bool.and_eq_true, Bool.not_eq_true'] at hc
      obtain ⟨⟨hall, h1⟩, h2⟩ := hc
      refine ⟨fs, hu, Option.some.inj h, h1, h2, fun j f hj => ?_⟩
      have hm : (f, j) ∈ fs.toList.zipIdx := by
        rw [List.mem_zipIdx_iff_getElem?]
        exact hj
      have := List.all_eq_true.1 hall _ hm
      simp only [Bool.and_eq_true, bne_iff_ne, ne_eq, beq_iff_eq] at this
      obtain ⟨⟨⟨x1, x2⟩, x3⟩, x4⟩ := this
      refine ⟨x1, x2, ?_, ?_⟩
      · split at x3
        · assumption
        · cases x3
      · split at x4
        · assumption
        · cases x4
    · cases h
  · cases h

theorem run_eq_struct {T : TypeId} {n : Nat} {xs ys : List AV} {v1 v2 : Value} {r : Bool} (ht : tints P T = some n) (h1 : RV g w v1 (.agg xs)) (h2 : RV g w v2 (.agg ys)) (hn : xs.length = n) (hr : eqL xs ys = some r) :
    (Op.equal T v1 v2).run P w = .ok r w := by
  obtain ⟨fs, hu, hs, hp, _, hf⟩ := tints_spec ht
  obtain ⟨vx, rfl, hl1, hx⟩ := agg_cells h1
  obtain ⟨vy, rfl, hl2, hy⟩ := agg_cells h2
  have hfo : P.fieldsOf T = fs := by simp [Program.fieldsOf, hu]
  have := run_equalIn_struct (P := P) w 9999 T vx.toArray vy.toArray (by rw [hfo]; exact hu) hp
  rw [hfo] at this
  unfold Op.equal Op.maxDepth
  rw [this]
  refine eqL_run (g := g) 9998 fs.toList 0 xs ys _ _ r (fun j f hj => ?_) (fun j y hj => ?_) (fun j y hj => ?_) (by simp [hs, hn]) hr
  · have := hf j f hj
    rwa [Nat.zero_add]
  · obtain ⟨u, hu, hru⟩ := hx j y hj
    exact ⟨u, by simpa using hu, hru⟩
  · obtain ⟨u, hu, hru⟩ := hy j y hj
    exact ⟨u, by simpa using hu, hru⟩

theorem run_eql_ptr {T : TypeId} {p q : Option Addr} (h : isPtr P T = true) (hq : q = none) : (Op.equal T (.pointer p) (.pointer q)).run P w = .ok p.isNone w := by
  subst hq
  unfold isPtr at h
  split at h
  · rename_i e hu
    have : ∀ d, (Op.equalIn (d + 1) T (.pointer p) (.pointer none)).run P w = .ok p.isNone w := by
      intro d
      cases p <;> simp [Op.equalIn, underlying, hu]
    exact this 9999
  · cases h

theorem run_guard_int {op : BinOp} {T : TypeId} {xo yo : Operand} {k k' : IntKind} {m n : Int} : (eqGuard op T xo yo (.int k m) (.int k' n)).run P w = .ok () w := by
  unfold eqGuard; split <;> rfl
theorem run_guard_str {op : BinOp} {T : TypeId} {xo yo : Operand} {m n : ByteArray} : (eqGuard op T xo yo (.string m) (.string n)).run P w = .ok () w := by
  unfold eqGuard; split <;> rfl
theorem run_guard_ptr {op : BinOp} {T : TypeId} {xo yo : Operand} {m n : Option Addr} : (eqGuard op T xo yo (.pointer m) (.pointer n)).run P w = .ok () w := by
  unfold eqGuard; split <;> rfl

theorem RV.ptr_some {v : Value} {x : AV} (h : RV g w v x) (hx : (∃ id o, x = .pt id o) ∨ (∃ r o, x = .el r o) ∨ ∃ n z i o, x = .ep n z i o) : ∃ ad, v = .pointer (some ad) := by
  rcases hx with ⟨id, o, rfl⟩ | ⟨r, o, rfl⟩ | ⟨n, z, i, o, rfl⟩
  · cases h; exact ⟨_, rfl⟩
  · cases h; exact ⟨_, rfl⟩
  · cases h; exact ⟨_, rfl⟩

theorem run_eql_bool {T : TypeId} {x y : Bool} (h : tbool P T = true) : (Op.equal T (.bool x) (.bool y)).run P w = .ok (x == y) w := by
  unfold tbool at h
  split at h
  · rename_i hu
    have : ∀ d, (Op.equalIn (d + 1) T (.bool x) (.bool y)).run P w = .ok (x == y) w := by
      intro d
      simp [Op.equalIn, underlying, hu]
    exact this 9999
  · cases h
theorem run_guard_bool {op : BinOp} {T : TypeId} {xo yo : Operand} {m n : Bool} : (eqGuard op T xo yo (.bool m) (.bool n)).run P w = .ok () w := by
  unfold eqGuard; split <;> rfl
theorem run_eql_ifc {T t : TypeId} {v : Value} (h : isIf P T = true) : (Op.equal T (.iface t v) .nilIface).run P w = .ok false w := by
  unfold isIf at h
  split at h
  · rename_i ms hu
    have : ∀ d, (Op.equalIn (d + 1) T (.iface t v) .nilIface).run P w = .ok false w := by
      intro d
      simp [Op.equalIn, underlying, hu]
    exact this 9999
  · cases h
theorem run_eql_nilif {T : TypeId} (h : isIf P T = true) : (Op.equal T .nilIface .nilIface).run P w = .ok true w := by
  unfold isIf at h
  split at h
  · rename_i ms hu
    have : ∀ d, (Op.equalIn (d + 1) T .nilIface .nilIface).run P w = .ok true w := by
      intro d
      simp [Op.equalIn, underlying, hu]
    exact this 9999
  · cases h
theorem run_guard_ifc {op : BinOp} {T t : TypeId} {xo yo : Operand} {v : Value} : (eqGuard op T xo yo (.iface t v) .nilIface).run P w = .ok () w := by
  unfold eqGuard; split <;> rfl
theorem run_guard_nilif {op : BinOp} {T : TypeId} {xo : Operand} {c : Value} : (eqGuard op T xo (.const c) .nilIface .nilIface).run P w = .ok () w := by
  unfold eqGuard; cases xo <;> split <;> rfl

theorem ptr_run {T : TypeId} {op : BinOp} {v1 v2 : Value} {r : Bool} {z : AV} (hi : ∀ op, op = .eql ∨ op = .neq → (binOp op T v1 v2).run P w = .ok (.bool (match op with | .eql => r | _ => !r)) w) (h : ptrAV op r = some z) :
    ∃ v', (binOp op T v1 v2).run P w = .ok v' w ∧ RV g w v' z := by
  cases op <;> simp only [ptrAV] at h <;> first | (cases h; done) | skip
  · obtain rfl := Option.some.inj h; exact ⟨_, hi .eql (.inl rfl), .sc _⟩
  · obtain rfl := Option.some.inj h; exact ⟨_, hi .neq (.inr rfl), .sc _⟩

theorem run_bin_op {T : TypeId} {op : BinOp} {xo yo : Operand} {v1 v2 : Value} {x y z : AV} {cy : Bool} (hcy : cy = true → ∃ c, yo = .const c) (h1 : RV g w v1 x) (h2 : RV g w v2 y) (h : binAV P T op cy x y = some z) :
    ∃ v', (do eqGuard op T xo yo v1 v2; binOp op T v1 v2).run P w = .ok v' w ∧ RV g w v' z := by
  have ptr : ∀ (p : Option Addr) (r : Bool), p.isNone = r → isPtr P T = true → ptrAV op r = some z → ∃ v', (do eqGuard op T xo yo (.pointer p) (.pointer none); binOp op T (.pointer p) (.pointer none)).run P w = .ok v' w ∧ RV g w v' z := by
    intro p r hp ht hz
    have he := run_eql_ptr (P := P) (w := w) (T := T) (p := p) ht rfl
    obtain ⟨v', e1, e2⟩ := ptr_run (P := P) (w := w) (g := g) (T := T) (v1 := .pointer p) (v2 := .pointer none) (r := r) (fun op ho => by
      rcases ho with rfl | rfl <;> simp [binOp, he, hp]) hz
    exact ⟨v', by rw [Sem.run_bind, run_guard_ptr, Result.andThen_ok, e1], e2⟩
  unfold binAV at h
  split at h
  · obtain rfl := h1.sc_eq
    obtain rfl := h2.sc_eq
    split at h
    · rename_i hk
      subst hk
      obtain ⟨v', hr, hv⟩ := run_int (P := P) (g := g) (w := w) (T := T) h
      refine ⟨v', ?_, hv⟩
      rw [Sem.run_bind]
      rw [run_guard_int, Result.andThen_ok, hr]
    · cases h
  · obtain rfl := h1.sc_eq
    obtain rfl := h2.sc_eq
    obtain ⟨v', hr, hv⟩ := run_str (P := P) (g := g) (w := w) (T := T) h
    refine ⟨v', ?_, hv⟩
    rw [Sem.run_bind]
    rw [run_guard_str, Result.andThen_ok, hr]
  · obtain rfl := h1.sc_eq
    obtain rfl := h2.sc_eq
    split at h
    · rename_i s t ht
      have he := run_eql_bool (P := P) (w := w) (T := T) (x := s) (y := t) ht
      obtain ⟨v', e1, e2⟩ := ptr_run (P := P) (w := w) (g := g) (T := T) (v1 := .bool s) (v2 := .bool t) (r := s == t) (fun op ho => by
        rcases ho with rfl | rfl <;> simp [binOp, he]) h
      exact ⟨v', by rw [Sem.run_bind, run_guard_bool, Result.andThen_ok, e1], e2⟩
    · cases h
  · rename_i xs ys
    obtain ⟨vs1, rfl, _⟩ := agg_cells h1
    obtain ⟨vs2, rfl, _⟩ := agg_cells h2
    split at h
    · rename_i n ht
      split at h
      · rename_i hn
        obtain ⟨r, hr, h⟩ := Option.bind_eq_some_iff.1 h
        have he := run_eq_struct ht h1 h2 hn hr
        obtain ⟨fs, hu, hs, hp, hgd, hf⟩ := tints_spec ht
        obtain ⟨v', e1, e2⟩ := ptr_run (P := P) (w := w) (g := g) (T := T) (v1 := .agg vs1.toArray) (v2 := .agg vs2.toArray) (r := r) (fun op ho => by
          rcases ho with rfl | rfl <;> simp [binOp, he]) h
        refine ⟨v', ?_, e2⟩
        have hg : (eqGuard op T xo yo (.agg vs1.toArray) (.agg vs2.toArray)).run P w = .ok () w := by
          unfold eqGuard
          split <;> simp [hgd]
        rw [Sem.run_bind, hg, Result.andThen_ok, e1]
      · cases h
    · cases h
  · obtain rfl := h2.sc_eq
    split at h
    · rename_i hp
      obtain ⟨ad, rfl⟩ := h1.ptr_some (.inl ⟨_, _, rfl⟩)
      exact ptr _ _ rfl hp h
    · cases h
  · obtain rfl := h2.sc_eq
    split at h
    · rename_i hp
      obtain ⟨ad, rfl⟩ := h1.ptr_some (.inr (.inl ⟨_, _, rfl⟩))
      exact ptr _ _ rfl hp h
    · cases h
  · obtain rfl := h2.sc_eq
    split at h
    · rename_i hp
      obtain ⟨ad, rfl⟩ := h1.ptr_some (.inr (.inr ⟨_, _, _, _, rfl⟩))
      exact ptr _ _ rfl hp h
    · cases h
  · obtain rfl := h1.sc_eq
    obtain rfl := h2.sc_eq
    split at h
    · rename_i hp
      exact ptr _ _ rfl hp h
    · cases h
  · obtain rfl := h2.sc_eq
    split at h
    · rename_i hp
      have hv1 : ∃ t v, v1 = .iface t v := by cases h1; exact ⟨_, _, rfl⟩
      obtain ⟨t, v, rfl⟩ := hv1
      · have he := run_eql_ifc (P := P) (w := w) (T := T) (t := t) (v := v) hp
        obtain ⟨v', e1, e2⟩ := ptr_run (P := P) (w := w) (g := g) (T := T) (v1 := .iface t v) (v2 := .nilIface) (r := false) (fun op ho => by
          rcases ho with rfl | rfl <;> simp [binOp, he]) h
        exact ⟨v', by rw [Sem.run_bind, run_guard_ifc, Result.andThen_ok, e1], e2⟩
    · cases h
  · obtain rfl := h1.sc_eq
    obtain rfl := h2.sc_eq
    split at h
    · rename_i hp
      simp only [Bool.and_eq_true] at hp
      obtain ⟨hp, hc⟩ := hp
      obtain ⟨c, rfl⟩ := hcy hc
      have he := run_eql_nilif (P := P) (w := w) (T := T) hp
      obtain ⟨v', e1, e2⟩ := ptr_run (P := P) (w := w) (g := g) (T := T) (v1 := .nilIface) (v2 := .nilIface) (r := true) (fun op ho => by
        rcases ho with rfl | rfl <;> simp [binOp, he]) h
      exact ⟨v', by rw [Sem.run_bind, run_guard_nilif, Result.andThen_ok, e1], e2⟩
    · cases h
  · cases h

end
end Go.Hm
end

section
/-
  The heap machine, part 5: the remaining quiet operations, and all of them under one name. Own work; generic in the program.
-/
namespace Go.Hm
open Go Go.RowKit

section
variable {P : Program} {own : Nat → Prop} {C : Nat → Prop} {w0 : World} {g : Gh} {st : St} {a : Act} {w : World}


/-! ### Unary -/
def unAV (op : UnOp) : AV → Option AV
  | .sc (.bool b) => match op with | .not => some (.sc (.bool (!b))) | _ => none
  | .sc (.int k n) => match op with | .neg => some (.sc (.int k (k.wrap (-n)))) | _ => none
  | _ => none
theorem run_un_op {op : UnOp} {v : Value} {x z : AV} (hv : RV g w v x) (h : unAV op x = some z) : ∃ v', (Op.unary op v).run P w = .ok v' w ∧ RV g w v' z := by
  unfold unAV at h
  split at h
  · obtain rfl := hv.sc_eq
    cases op <;> simp at h
    subst h
    exact ⟨_, rfl, .sc _⟩
  · obtain rfl := hv.sc_eq
    cases op <;> simp at h
    subst h
    exact ⟨.int _ (IntKind.wrap _ (-_)), by simp [Op.unary, Op.intArith], .sc _⟩
  · cases h

/-! ### A choice -/
def pickAV (c x y : AV) : Option AV :=
  match c with
  | .sc (.bool t) => match x, y with
    | .sc (.bool p), .sc (.bool q) => some (.sc (.bool (bif t then p else q)))
    | x, y => some (bif t then x else y)
  | _ => none
theorem run_pick_op {vc vx vy : Value} {c x y z : AV} (hc : RV g w vc c) (hx : RV g w vx x) (hy : RV g w vy y) (h : pickAV c x y = some z) :
    ∃ v', (do pure (if ← asBool vc then vx else vy) : Sem Value).run P w = .ok v' w ∧ RV g w v' z := by
  unfold pickAV at h
  split at h
  · rename_i t
    obtain rfl := hc.sc_eq
    split at h
    · obtain rfl := hx.sc_eq
      obtain rfl := hy.sc_eq
      obtain rfl := Option.some.inj h
      cases t <;> exact ⟨_, rfl, .sc _⟩
    · obtain rfl := Option.some.inj h
      cases t
      · exact ⟨_, rfl, hy⟩
      · exact ⟨_, rfl, hx⟩
  · cases h

/-! ### Lengths -/
def tstr (P : Program) (T : TypeId) : Bool := match P.underlying T with | some .string => true | _ => false
def tslice (P : Program) (T : TypeId) : Bool := match P.underlying T with | some (.slice _) => true | _ => false
def tmap (P : Program) (T : TypeId) : Bool := match P.underlying T with | some (.map _ _) => true | _ => false
def lenAV (P : Program) (T : TypeId) (hp : Nm → Option AO) : AV → Option AV
  | .sl _ rows => if tslice P T then some (.sc (.int .i64 rows.length)) else none
  | .hs _ _ _ len => if tslice P T then some (.sc (.int .i64 len)) else none
  | .sc (.slice none 0 0) => if tslice P T then some (.sc (.int .i64 0)) else none
  | .sc (.string s) => if tstr P T then some (.sc (.int .i64 s.size)) else none
  | .mp n => if tmap P T then (match hp n with | some (.map es) => some (.sc (.int .i64 es.length)) | _ => none) else none
  | _ => none
theorem run_len_slice {T ty : TypeId} {ad : Option Addr} {n c : Nat} (h : tslice P T = true) : (Builtin.len_ #[T] ty #[.slice ad n c]).run P w = .ok (.int .i64 n) w := by
  unfold tslice at h
  split at h
  · rename_i e hu
    simp [Builtin.len_, run_und hu, goInt]
  · cases h
theorem run_len_op {T ty : TypeId} {v : Value} {x z : AV} (hi : Inv own C w0 g st.hp w) (hv : RV g w v x) (h : lenAV P T st.hp x = some z) : ∃ v', (Builtin.len_ #[T] ty #[v]).run P w = .ok v' w ∧ RV g w v' z := by
  unfold lenAV at h
  split at h
  · split at h
    · rename_i ht
      obtain rfl := Option.some.inj h
      cases hv with
      | slN => exact ⟨_, run_len_slice ht, .sc _⟩
      | slC b off cap n E rows f hC hn => subst hn; exact ⟨_, run_len_slice ht, .sc _⟩
    · cases h
  · split at h
    · rename_i ht
      obtain rfl := Option.some.inj h
      cases hv with
      | hsN => exact ⟨_, run_len_slice ht, .sc _⟩
      | hsB => exact ⟨_, run_len_slice ht, .sc _⟩
    · cases h
  · split at h
    · rename_i ht
      obtain rfl := Option.some.inj h
      obtain rfl := hv.sc_eq
      exact ⟨_, run_len_slice ht, .sc _⟩
    · cases h
  · split at h
    · rename_i ht
      obtain rfl := Option.some.inj h
      obtain rfl := hv.sc_eq
      unfold tstr at ht
      split at ht
      · rename_i hu
        exact ⟨_, by simp [Builtin.len_, run_und hu, goInt], .sc _⟩
      · cases ht
    · cases h
  · split at h
    · rename_i ht
      split at h
      · rename_i n es hes
        obtain rfl := Option.some.inj h
        cases hv with
        | mp _ b hk =>
          have ho := hi.obj _ _ hes
          simp only [OAt, hk] at ho
          obtain ⟨ms, clock, h1, h2, _⟩ := ho
          unfold tmap at ht
          split at ht
          · rename_i k e hu
            have hg : (getObj b).run P w = .ok (.map ms.toArray clock) w := by simp [getObj, Sem.run, h1]
            exact ⟨.int .i64 es.length, by simp [Builtin.len_, run_und hu, hg, goInt, h2], .sc _⟩
          · cases ht
      · cases h
    · cases h
  · cases h

/-! ### A component of a tuple -/
def extAV (i : Nat) : AV → Option AV
  | .tup l => l[i]?
  | _ => none
theorem run_ext_op {i : Nat} {v : Value} {x z : AV} (hv : RV g w v x) (h : extAV i x = some z) : ∃ v', (Instr.extract v i).run P w = .ok v' w ∧ RV g w v' z := by
  cases x with
  | tup l =>
    obtain ⟨vs, rfl, _, hr⟩ := tup_cells hv
    obtain ⟨u, hu, hru⟩ := hr i z h
    exact ⟨u, by simp [Instr.extract, hu], hru⟩
  | _ => simp [extAV] at h

/-! ### A field of a struct value; an element of an array value or a string -/
theorem run_part {T : TypeId} {vs : List Value} {cs : List AV} {off : Nat} {z : AV} (hl : vs.length = cs.length) (hr : ∀ (j : Nat) y, cs[j]? = some y → ∃ u, vs[j]? = some u ∧ RV g w u y) (h : getC P T cs off = some z) :
    ∃ v', (part T vs.toArray off).run P w = .ok v' w ∧ RV g w v' z := by
  unfold getC at h
  split at h
  · rename_i hagg
    split at h
    · rename_i hle
      obtain rfl := Option.some.inj h
      refine ⟨.agg ((vs.drop off).take (tsz P T)).toArray, ?_, ?_⟩
      · simp only [part, Sem.run_bind, run_isAgg' hagg, Result.andThen_ok, if_true, run_sz (info_of_aggO hagg), Sem.run_pure]
        congr 2
        rw [List.extract_toArray]
        congr 1
        rw [List.extract_eq_take_drop]
        congr 1
        omega
      · refine .agg _ _ (by simp; omega) fun j v y hv hy => ?_
        rw [List.getElem?_take] at hv hy
        split at hy
        · rename_i hj
          rw [if_pos hj, List.getElem?_drop] at hv
          rw [List.getElem?_drop] at hy
          obtain ⟨u, hu, hru⟩ := hr _ y hy
          rw [hv] at hu
          obtain rfl := Option.some.inj hu
          exact hru
        · cases hy
    · cases h
  · rename_i hagg
    obtain ⟨u, hu, hru⟩ := hr off z h
    exact ⟨u, by simp [part, run_isAgg' hagg, hu], hru⟩
  · cases h

def fldAV (P : Program) (T : TypeId) (f : Nat) : AV → Option AV
  | .agg cs => match tfo P T f with
    | some (o, e) => getC P e cs o
    | none => none
  | _ => none
theorem tfo_spec {T : TypeId} {f o : Nat} {e : TypeId} (h : tfo P T f = some (o, e)) : ∃ fs fd, P.underlying T = some (.struct fs) ∧ fs[f]? = some fd ∧ fd.offset = o ∧ fd.type = e := by
  unfold tfo at h
  split at h
  · rename_i fs hu
    split at h
    · rename_i fd hfd
      split at h
      · cases h
      · obtain ⟨rfl, rfl⟩ := Prod.mk.inj (Option.some.inj h)
        exact ⟨fs, fd, hu, hfd, rfl, rfl⟩
    · cases h
  · cases h
theorem run_fld_op {T : TypeId} {f : Nat} {v : Value} {x z : AV} (hv : RV g w v x) (h : fldAV P T f x = some z) : ∃ v', (Instr.field T v f).run P w = .ok v' w ∧ RV g w v' z := by
  cases x with
  | agg cs =>
    simp only [fldAV] at h
    split at h
    · rename_i o e ht
      obtain ⟨fs, fd, hu, hfd, rfl, rfl⟩ := tfo_spec ht
      obtain ⟨vs, rfl, hl, hr⟩ := agg_cells hv
      obtain ⟨v', h1, h2⟩ := run_part hl hr h
      exact ⟨v', by simp only [Instr.field, Sem.run_bind, run_und hu, Result.andThen_ok, hfd, asAgg, Sem.run_pure, h1], h2⟩
    · cases h
  | _ => simp [fldAV] at h

def idxAV (P : Program) (T : TypeId) (x : AV) (n : Int) : Option AV :=
  match x with
  | .sc (.string s) => if tstr P T ∧ 0 ≤ n then (s.data.toList[n.toNat]?).map (fun b => .sc (.int .u8 b.toNat)) else none
  | .agg cs => match tarr P T with
    | some (len, e) => if 0 ≤ n ∧ n < len then getC P e cs (n.toNat * tsz P e) else none
    | none => none
  | _ => none
theorem run_idx_op {T : TypeId} {k : IntKind} {n : Int} {v : Value} {x z : AV} (hv : RV g w v x) (h : idxAV P T x n = some z) : ∃ v', (Instr.index T v (.int k n)).run P w = .ok v' w ∧ RV g w v' z := by
  unfold idxAV at h
  split at h
  · rename_i s
    obtain rfl := hv.sc_eq
    split at h
    · rename_i hc
      obtain ⟨ht, h0⟩ := hc
      obtain ⟨b, hb, rfl⟩ := Option.map_eq_some_iff.1 h
      unfold tstr at ht
      split at ht
      · rename_i hu
        have hs : s[n.toNat]? = some b := by
          have hlt : n.toNat < s.size := by have := (List.getElem?_eq_some_iff.1 hb).1; simpa using this
          have : s[n.toNat]? = some (s[n.toNat]'hlt) := getElem?_pos s n.toNat hlt
          rw [this]
          have h2 := (List.getElem?_eq_some_iff.1 hb).2
          rw [← h2]
          rfl
        exact ⟨_, by simp only [Instr.index, asIntOf, Sem.run_bind, Sem.run_pure, Result.andThen_ok, run_und hu, h0, if_true, hs], .sc _⟩
      · cases ht
    · cases h
  · rename_i cs
    split at h
    · rename_i len e ht
      split at h
      · rename_i hc
        obtain ⟨h0, h1⟩ := hc
        obtain ⟨hu, hi⟩ := tarr_spec ht
        obtain ⟨vs, rfl, hl, hr⟩ := agg_cells hv
        obtain ⟨v', h2, h3⟩ := run_part hl hr h
        exact ⟨v', by simp only [Instr.index, asIntOf, Sem.run_bind, Sem.run_pure, Result.andThen_ok, run_und hu, h0, h1, and_self, if_true, run_sz hi, h2], h3⟩
      · cases h
    · cases h
  · cases h

/-! ### Interfaces -/
def isIface (P : Program) (T : TypeId) : Option Bool := match P.underlying T with | some (.interface _) => some true | some _ => some false | none => none
def mkiAV (P : Program) (T : TypeId) (x : AV) : Option AV := if isIface P T = some false then some (.ifc T x) else none
theorem run_mki_op {T : TypeId} {v : Value} {x z : AV} (hv : RV g w v x) (h : mkiAV P T x = some z) : ∃ v', (Instr.makeInterface T v).run P w = .ok v' w ∧ RV g w v' z := by
  unfold mkiAV at h
  split at h
  · rename_i h1
    obtain rfl := Option.some.inj h
    refine ⟨.iface T v, ?_, .ifc T v x hv⟩
    unfold isIface at h1
    cases hu : P.underlying T with
    | none => simp [hu] at h1
    | some d => cases d <;> simp [hu] at h1 <;> simp [Instr.makeInterface, run_und hu]
  · cases h

/-- the zero value as an abstract value, where it is without memory -/
def zflat (P : Program) (T : TypeId) : Option AV :=
  match (P.info? T).bind (·.zero) with
  | some (.agg cs) => some (.agg (cs.toList.map .sc))
  | some v => some (.sc v)
  | none => none
theorem run_zflat {T : TypeId} {z : AV} (h : zflat P T = some z) : ∃ v, (zeroValue T).run P w = .ok v w ∧ RV g w v z := by
  unfold zflat at h
  split at h
  · rename_i cs hz
    obtain rfl := Option.some.inj h
    obtain ⟨i, hi, hiz⟩ := Option.bind_eq_some_iff.1 hz
    refine ⟨.agg cs, by simp [zeroValue, typeInfo, hi, hiz], ?_⟩
    have := RV.agg (g := g) (w := w) cs.toList (cs.toList.map .sc) (by simp) fun j v y hv hy => by
      rw [List.getElem?_map, hv] at hy
      obtain rfl := Option.some.inj hy
      exact .sc _
    simpa using this
  · rename_i v hn hz
    obtain rfl := Option.some.inj h
    obtain ⟨i, hi, hiz⟩ := Option.bind_eq_some_iff.1 hz
    exact ⟨v, by simp [zeroValue, typeInfo, hi, hiz], .sc _⟩
  · cases h

def tasAV (P : Program) (A : TypeId) (x : AV) : Option AV :=
  if isIface P A = some false then
    match x with
    | .ifc t y => if t = A then some (.tup [y, .sc (.bool true)]) else (zflat P A).map (fun z => .tup [z, .sc (.bool false)])
    | .sc .nilIface => (zflat P A).map (fun z => .tup [z, .sc (.bool false)])
    | _ => none
  else none
theorem RV.tup2 {u v : Value} {x y : AV} (h1 : RV g w u x) (h2 : RV g w v y) : RV g w (.tuple #[u, v]) (.tup [x, y]) := by
  refine .tup [u, v] [x, y] rfl fun j a b ha hb => ?_
  match j, ha, hb with
  | 0, ha, hb => simp at ha hb; subst ha; subst hb; exact h1
  | 1, ha, hb => simp at ha hb; subst ha; subst hb; exact h2
theorem run_tas_op {T A : TypeId} {v : Value} {x z : AV} (hv : RV g w v x) (h : tasAV P A x = some z) : ∃ v', (Instr.typeAssert v T A true).run P w = .ok v' w ∧ RV g w v' z := by
  unfold tasAV at h
  split at h
  · rename_i h1
    obtain ⟨d, hu, hd⟩ : ∃ d, P.underlying A = some d ∧ ∀ ms, d ≠ .interface ms := by
      unfold isIface at h1
      cases hu : P.underlying A with
      | none => simp [hu] at h1
      | some d => exact ⟨d, rfl, fun ms e => by subst e; simp [hu] at h1⟩
    split at h
    · rename_i t y
      have hv' : ∃ u, v = .iface t u ∧ RV g w u y := by
        cases hv with
        | ifc t v a h => exact ⟨v, rfl, h⟩
      obtain ⟨u, rfl, hy⟩ := hv'
      split at h
      · rename_i ht
        subst ht
        obtain rfl := Option.some.inj h
        refine ⟨.tuple #[u, .bool true], ?_, .tup2 hy (.sc _)⟩
        cases d <;> first
          | (simp [Instr.typeAssert, run_und hu]; done)
          | exact absurd rfl (hd _)
      · rename_i ht
        obtain ⟨z0, hz0, rfl⟩ := Option.map_eq_some_iff.1 h
        obtain ⟨v0, hr0, hv0⟩ := run_zflat (g := g) (w := w) hz0
        refine ⟨.tuple #[v0, .bool false], ?_, .tup2 hv0 (.sc _)⟩
        cases d <;> first
          | (simp [Instr.typeAssert, run_und hu, ht, hr0]; done)
          | exact absurd rfl (hd _)
    · obtain rfl := hv.sc_eq
      obtain ⟨z0, hz0, rfl⟩ := Option.map_eq_some_iff.1 h
      obtain ⟨v0, hr0, hv0⟩ := run_zflat (g := g) (w := w) hz0
      refine ⟨.tuple #[v0, .bool false], ?_, .tup2 hv0 (.sc _)⟩
      cases d <;> first
        | (simp [Instr.typeAssert, run_und hu, hr0]; done)
        | exact absurd rfl (hd _)
    · cases h
  · cases h

/-! ### Conversions of whole numbers -/
def tint (P : Program) (T : TypeId) : Option IntKind := match P.underlying T with | some (.int k) => some k | _ => none
def cnvAV (P : Program) (S D : TypeId) : AV → Option AV
  | .sc (.int _ n) => match tint P D, P.underlying S with | some k, some (.int _) => some (.sc (.int k (k.wrap n))) | _, _ => none
  | _ => none
theorem run_cnv_op {S D : TypeId} {v : Value} {x z : AV} (hv : RV g w v x) (h : cnvAV P S D x = some z) : ∃ v', (convert S D v).run P w = .ok v' w ∧ RV g w v' z := by
  unfold cnvAV at h
  split at h
  · obtain rfl := hv.sc_eq
    split at h
    · rename_i k _ hk hs
      obtain rfl := Option.some.inj h
      unfold tint at hk
      split at hk
      · rename_i k' hd
        obtain rfl := Option.some.inj hk
        exact ⟨_, by simp [convert, run_und hs, run_und hd, Conv.intToInt], .sc _⟩
      · cases hk
    · cases h
  · cases h


/-! ### Struct literals -/
def fillC (P : Program) (T : TypeId) (cs : List AV) : List (Nat × AV) → Option (List AV)
  | [] => some cs
  | (i, x) :: rest => match tfo P T i, x.cells with
    | some (o, e), some ds => if ds.length = tsz P e ∧ o + ds.length ≤ cs.length then fillC P T (cs.take o ++ ds ++ cs.drop (o + ds.length)) rest else none
    | _, _ => none
/-- every field's type is in the table -/
def tflds (P : Program) (T : TypeId) : Bool := match P.underlying T with | some (.struct fs) => fs.toList.all (fun f => (P.info? f.type).isSome) | _ => false
def bldAV (P : Program) (T : TypeId) (parts : List (Nat × AV)) : Option AV :=
  if tflds P T then
    match tzero P T with
    | some z => (fillC P T (z.map .sc) parts).map .agg
    | none => none
  else none

theorem run_mapM_list {α β : Type} {f : α → Sem β} {h : α → β} : ∀ (l : List α), (∀ x ∈ l, (f x).run P w = .ok (h x) w) → (l.mapM f).run P w = .ok (l.map h) w
  | [], _ => by simp
  | x :: l, hl => by
    have h1 := hl x (List.mem_cons_self ..)
    have h2 := run_mapM_list (h := h) l (fun y hy => hl y (List.mem_cons_of_mem _ hy))
    simp [h1, h2]
theorem run_mapM_arr {α β : Type} {f : α → Sem β} {h : α → β} (l : Array α) (hl : ∀ x ∈ l, (f x).run P w = .ok (h x) w) : (l.mapM f).run P w = .ok (l.map h) w := by
  have := run_mapM_list (P := P) (w := w) (f := f) (h := h) l.toList (fun x hx => hl x (by simpa using hx))
  have e : l.mapM f = Functor.map List.toArray (l.toList.mapM f) := by
    rw [Array.mapM_eq_mapM_toList]
  rw [e]
  simp only [Sem.run_map, this, Result.andThen_ok]
  congr 1
  apply Array.ext'
  simp

theorem foldl_set (o : Nat) : ∀ (us : List Value) (i : Nat) (cs : Array Value), o + i + us.length ≤ cs.size →
    (us.zipIdx i).foldl (fun cs (x : Value × Nat) => cs.setIfInBounds (o + x.2) x.1) cs = (cs.toList.take (o + i) ++ us ++ cs.toList.drop (o + i + us.length)).toArray := by
  intro us
  induction us with
  | nil => intro i cs _; simp
  | cons v us ih =>
    intro i cs hle
    simp only [List.length_cons] at hle
    rw [List.zipIdx_cons, List.foldl_cons, ih (i + 1) _ (by simp; omega)]
    congr 1
    have := list_seg_step cs.toList (o + i) v us (by simp; omega)
    simp only [Array.toList_setIfInBounds, List.length_cons]
    rw [show o + (i + 1) = o + i + 1 from by omega]
    exact this

theorem fillC_run {T : TypeId} {fs : Array Field} (hu : P.underlying T = some (.struct fs)) : ∀ (parts : List (Nat × AV)) (vp : List (Nat × Value)) (cs : List AV) (vc : Array Value) (zs : List AV),
    vp.length = parts.length → (∀ (j : Nat) p q, vp[j]? = some p → parts[j]? = some q → p.1 = q.1 ∧ RV g w p.2 q.2) →
    vc.size = cs.length → (∀ (j : Nat) y, cs[j]? = some y → ∃ u, vc[j]? = some u ∧ RV g w u y) → fillC P T cs parts = some zs →
    ∃ vz, Instr.fill ((fs.map (fun f => (f.offset, tsz P f.type)))[·]?) vc vp = some vz ∧ vz.size = zs.length ∧ ∀ (j : Nat) y, zs[j]? = some y → ∃ u, vz[j]? = some u ∧ RV g w u y := by
  intro parts
  induction parts with
  | nil =>
    intro vp cs vc zs hl _ hs hr h
    have : vp = [] := List.eq_nil_of_length_eq_zero (by simpa using hl)
    subst this
    obtain rfl := Option.some.inj h
    exact ⟨vc, rfl, hs, hr⟩
  | cons q parts ih =>
    intro vp cs vc zs hl hp hs hr h
    obtain ⟨i, x⟩ := q
    cases vp with
    | nil => simp at hl
    | cons p vp =>
      obtain ⟨i', v⟩ := p
      obtain ⟨e1, hv⟩ := hp 0 _ _ rfl rfl
      simp only at e1 hv
      subst e1
      simp only [fillC] at h
      split at h
      · rename_i o e ds ht hc
        split at h
        · rename_i hcond
          obtain ⟨h1, h2⟩ := hcond
          obtain ⟨fs', fd, hu', hfd, rfl, rfl⟩ := tfo_spec ht
          rw [hu] at hu'
          injection hu' with hu'
          injection hu' with hu'
          subst hu'
          obtain ⟨c1, c2, c3⟩ := hv.cells hc
          have hlen : v.cells.size = ds.length := by rw [← Array.length_toList]; exact c1
          have hplace : (fs.map (fun f => (f.offset, tsz P f.type)))[i']? = some (fd.offset, tsz P fd.type) := by simp [hfd]
          have hfold : (v.cells.zipIdx.foldl (fun cs (x : Value × Nat) => cs.setIfInBounds (fd.offset + x.2) x.1) vc) = (vc.toList.take fd.offset ++ v.cells.toList ++ vc.toList.drop (fd.offset + v.cells.toList.length)).toArray := by
            have := foldl_set fd.offset v.cells.toList 0 vc (by simp; omega)
            rw [Nat.add_zero] at this
            rw [← this, ← Array.foldl_toList, Array.toList_zipIdx]
          obtain ⟨vz, hz1, hz2, hz3⟩ := ih vp (cs.take fd.offset ++ ds ++ cs.drop (fd.offset + ds.length)) (vc.toList.take fd.offset ++ v.cells.toList ++ vc.toList.drop (fd.offset + v.cells.toList.length)).toArray zs (by simpa using hl)
            (fun j p q hj hq => hp (j + 1) p q (by simpa using hj) (by simpa using hq))
            (by simp; omega)
            (fun j y hy => by
              rw [row_seg_getElem? h2] at hy
              have hsz : fd.offset + v.cells.toList.length ≤ vc.toList.length := by simp; omega
              have hget : ((vc.toList.take fd.offset ++ v.cells.toList ++ vc.toList.drop (fd.offset + v.cells.toList.length)).toArray)[j]? = if fd.offset ≤ j ∧ j < fd.offset + v.cells.toList.length then v.cells.toList[j - fd.offset]? else vc.toList[j]? := by
                rw [List.getElem?_toArray]
                have ht0 : (vc.toList.take fd.offset).length = fd.offset := by rw [List.length_take]; omega
                rw [List.append_assoc, List.getElem?_append, ht0]
                by_cases g1 : j < fd.offset
                · rw [if_pos g1, if_neg (by omega), List.getElem?_take, if_pos g1]
                · rw [if_neg g1, List.getElem?_append]
                  by_cases g2 : j - fd.offset < v.cells.toList.length
                  · rw [if_pos g2, if_pos (by omega)]
                  · rw [if_neg g2, if_neg (by omega), List.getElem?_drop]
                    congr 1
                    omega
              rw [hget]
              split at hy
              · rename_i hin
                rw [if_pos (by rw [c1]; exact hin)]
                have hlt : j - fd.offset < v.cells.toList.length := by rw [c1]; omega
                exact ⟨_, List.getElem?_eq_getElem hlt, c3 _ _ y (List.getElem?_eq_getElem hlt) hy⟩
              · rename_i hin
                rw [if_neg (by rw [c1]; exact hin)]
                obtain ⟨u, hu1, hu2⟩ := hr j y hy
                exact ⟨u, by simpa using hu1, hu2⟩) h
          refine ⟨vz, ?_, hz2, hz3⟩
          unfold Instr.fill
          simp only [hplace]
          rw [if_neg (by rw [hlen, h1]; simp; omega), hfold]
          exact hz1
        · cases h
      · cases h

theorem run_bld_op {T : TypeId} {parts : List (Nat × AV)} {vp : Array (Nat × Value)} {z : AV} (hl : vp.size = parts.length) (hp : ∀ (j : Nat) p q, vp[j]? = some p → parts[j]? = some q → p.1 = q.1 ∧ RV g w p.2 q.2)
    (h : bldAV P T parts = some z) : ∃ v', (Instr.build T vp).run P w = .ok v' w ∧ RV g w v' z := by
  unfold bldAV at h
  split at h
  · rename_i hf
    split at h
    · rename_i zc hz
      obtain ⟨zs, hzs, rfl⟩ := Option.map_eq_some_iff.1 h
      unfold tflds at hf
      split at hf
      · rename_i fs hu
        unfold tzero at hz
        obtain ⟨zv, hzv, rfl⟩ := Option.map_eq_some_iff.1 hz
        obtain ⟨i, hi, hiz⟩ := Option.bind_eq_some_iff.1 hzv
        obtain ⟨vz, h1, h2, h3⟩ := fillC_run (g := g) (w := w) hu parts vp.toList _ zv.cells zs (by simpa using hl) (fun j p q hj hq => hp j p q (by simpa using hj) hq) (by simp)
          (fun j y hy => by
            rw [List.getElem?_map] at hy
            obtain ⟨u, hu, rfl⟩ := Option.map_eq_some_iff.1 hy
            exact ⟨u, by simpa using hu, .sc _⟩) hzs
        have hm := run_mapM_arr (P := P) (w := w) (f := fun f : Field => (do pure (f.offset, ← sizeOf f.type) : Sem (Nat × Nat))) (h := fun f => (f.offset, tsz P f.type)) fs (fun f hfm => by
          have := List.all_eq_true.1 hf f (by simpa using hfm)
          simp [run_sz this])
        refine ⟨.agg vz, ?_, ?_⟩
        · simp only [Instr.build, Sem.run_bind, zeroValue, typeInfo, run_program, hi, Result.andThen_ok, Sem.run_pure, hiz, run_und hu, hm, h1]
        · have := RV.agg (g := g) (w := w) vz.toList zs (by simpa using h2) fun j v y hv hy => by
            obtain ⟨u, hu1, hu2⟩ := h3 j y hy
            have hv' : vz[j]? = some v := by simpa using hv
            rw [hv'] at hu1
            obtain rfl := Option.some.inj hu1
            exact hu2
          simpa using this
      · cases hf
    · cases h
  · cases h

end
end Go.Hm
end

section
/-
  The heap machine, part 6: slices of slices and strings; the quiet operations under one name. Own work; generic in the program.
-/
namespace Go.Hm
open Go Go.RowKit

section
variable {P : Program} {own : Nat → Prop} {C : Nat → Prop} {w0 : World} {g : Gh} {st : St} {a : Act} {w : World}

/-- an optional whole number -/
def optInt : Option AV → Option (Option (IntKind × Int))
  | none => some none
  | some (.sc (.int k n)) => some (some (k, n))
  | _ => none

/-- how many elements are known of an object -/
def rowsIn (hp : Nm → Option AO) (n : Nm) (z : Nat) : Nat := match hp n with | some (.row z' rows) => if z' = z then rows.length else 0 | _ => 0
theorem rowsIn_spec {hp : Nm → Option AO} {n : Nm} {z k : Nat} (h : k < rowsIn hp n z) : ∃ rows, hp n = some (.row z rows) ∧ k < rows.length := by
  unfold rowsIn at h
  split at h
  · rename_i z' rows e
    split at h
    · rename_i hz; subst hz; exact ⟨rows, e, h⟩
    · cases h
  · cases h
def slcAV (P : Program) (T : TypeId) (hp : Nm → Option AO) (x : AV) (lo hi : Option Int) : Option AV :=
  match x with
  | .sc (.string s) => if tstr P T ∧ 0 ≤ lo.getD 0 ∧ lo.getD 0 ≤ hi.getD s.size ∧ hi.getD s.size ≤ s.size then some (.sc (.string (s.extract (lo.getD 0).toNat (hi.getD s.size).toNat))) else none
  | .sl z rows => match tel P T with
    | some e => if z = tsz P e ∧ 0 ≤ lo.getD 0 ∧ lo.getD 0 ≤ hi.getD rows.length ∧ hi.getD rows.length ≤ rows.length then some (.sl z ((rows.drop (lo.getD 0).toNat).take ((hi.getD rows.length).toNat - (lo.getD 0).toNat))) else none
    | none => none
  | .hs n z p len => match tel P T with
    | some e => if z = tsz P e ∧ 0 ≤ lo.getD 0 ∧ lo.getD 0 ≤ hi.getD len ∧ (hi.getD len ≤ len ∨ p + (hi.getD len).toNat ≤ rowsIn hp n z) then some (.hs n z (p + (lo.getD 0).toNat) ((hi.getD len).toNat - (lo.getD 0).toNat)) else none
    | none => none
  | _ => none

theorem run_bounds {b : Bool} {len cap : Nat} {lo hi : Option (IntKind × Int)} (h0 : 0 ≤ (lo.map (fun p : IntKind × Int => p.2)).getD (0 : Int)) (h1 : (lo.map (fun p : IntKind × Int => p.2)).getD (0 : Int) ≤ (hi.map (fun p : IntKind × Int => p.2)).getD (len : Int)) (h2 : (hi.map (fun p : IntKind × Int => p.2)).getD (len : Int) ≤ cap) :
    (Instr.sliceBounds b len cap (lo.map fun p => .int p.1 p.2) (hi.map fun p => .int p.1 p.2) none).run P w = .ok (((lo.map (fun p : IntKind × Int => p.2)).getD (0 : Int)).toNat, ((hi.map (fun p : IntKind × Int => p.2)).getD (len : Int)).toNat, cap) w := by
  have hb : ∀ (k : IntKind) (i : Int) (y : Nat) (c : BoundsCode), 0 ≤ i → i ≤ y → (Instr.sliceBound (.int k i) y c).run P w = .ok i.toNat w := by
    intro k i y c g0 g1
    simp only [Instr.sliceBound, asIntOf, Sem.run_bind, Sem.run_pure, Result.andThen_ok, g0, g1, and_self, if_true]
  cases lo with
  | none =>
    cases hi with
    | none => simp [Instr.sliceBounds]
    | some q =>
      simp only [Option.map_some, Option.getD_some, Option.map_none, Option.getD_none] at *
      simp only [Instr.sliceBounds, Sem.run_bind, Sem.run_pure, Result.andThen_ok]
      rw [hb _ _ _ _ (by omega) (by omega)]
      simp
  | some p =>
    cases hi with
    | none =>
      simp only [Option.map_some, Option.getD_some, Option.map_none, Option.getD_none] at *
      simp only [Instr.sliceBounds, Sem.run_bind, Sem.run_pure, Result.andThen_ok]
      rw [hb _ _ _ _ (by omega) (by omega)]
      simp
    | some q =>
      simp only [Option.map_some, Option.getD_some] at *
      simp only [Instr.sliceBounds, Sem.run_bind, Sem.run_pure, Result.andThen_ok]
      rw [hb _ _ _ _ (by omega) (by omega)]
      simp only [Result.andThen_ok]
      rw [hb _ _ _ _ (by omega) (by omega)]
      simp

theorem run_slice_hdr {T E : TypeId} {ad : Option Addr} {len cap : Nat} {lo hi : Option (IntKind × Int)} (ht : tel P T = some E) (h0 : 0 ≤ (lo.map (fun p : IntKind × Int => p.2)).getD (0 : Int)) (h1 : (lo.map (fun p : IntKind × Int => p.2)).getD (0 : Int) ≤ (hi.map (fun p : IntKind × Int => p.2)).getD (len : Int)) (h2 : (hi.map (fun p : IntKind × Int => p.2)).getD (len : Int) ≤ cap) :
    (Instr.sliceAt T (.slice ad len cap) (lo.map fun p => .int p.1 p.2) (hi.map fun p => .int p.1 p.2) none).run P w =
      .ok (.slice (if cap = ((lo.map (fun p : IntKind × Int => p.2)).getD (0 : Int)).toNat then ad else ad.map (·.add (((lo.map (fun p : IntKind × Int => p.2)).getD (0 : Int)).toNat * tsz P E))) (((hi.map (fun p : IntKind × Int => p.2)).getD (len : Int)).toNat - ((lo.map (fun p : IntKind × Int => p.2)).getD (0 : Int)).toNat) (cap - ((lo.map (fun p : IntKind × Int => p.2)).getD (0 : Int)).toNat)) w := by
  obtain ⟨hu, hi'⟩ := tel_spec ht
  simp only [Instr.sliceAt, Sem.run_bind, run_und hu, Result.andThen_ok, Instr.slice, run_bounds h0 h1 h2, run_sz hi', Sem.run_pure]

theorem run_slc_op {T : TypeId} {v : Value} {x z : AV} {lo hi : Option (IntKind × Int)} (hi0 : Inv own C w0 g st.hp w) (hv : RV g w v x) (h : slcAV P T st.hp x (lo.map (·.2)) (hi.map (fun p : IntKind × Int => p.2)) = some z) :
    ∃ v', (Instr.sliceAt T v (lo.map fun p => .int p.1 p.2) (hi.map fun p => .int p.1 p.2) none).run P w = .ok v' w ∧ RV g w v' z := by
  unfold slcAV at h
  split at h
  · rename_i s
    obtain rfl := hv.sc_eq
    split at h
    · rename_i hc
      obtain ⟨ht, h0, h1, h2⟩ := hc
      obtain rfl := Option.some.inj h
      unfold tstr at ht
      split at ht
      · rename_i hu
        refine ⟨_, ?_, .sc _⟩
        simp only [Instr.sliceAt, Sem.run_bind, run_und hu, Result.andThen_ok, Instr.slice, Option.isSome_none, Bool.false_eq_true, if_false, Sem.run_pure, run_bounds h0 h1 h2]
      · cases ht
    · cases h
  · rename_i z0 rows
    split at h
    · rename_i e ht
      split at h
      · rename_i hc
        obtain ⟨hz, h0, h1, h2⟩ := hc
        obtain rfl := Option.some.inj h
        cases hv with
        | slN ad cap _ =>
          simp only [List.length_nil] at h0 h1 h2 ⊢
          have h2' : (hi.map (fun p : IntKind × Int => p.2)).getD ((0 : Nat) : Int) ≤ (cap : Int) := Int.le_trans h2 (by omega)
          refine ⟨_, run_slice_hdr ht h0 h1 h2', ?_⟩
          have e : ((hi.map (fun p : IntKind × Int => p.2)).getD ((0 : Nat) : Int)).toNat - ((lo.map (fun p : IntKind × Int => p.2)).getD (0 : Int)).toNat = 0 := by omega
          rw [e]
          simp only [List.drop_nil, List.take_nil]
          exact .slN _ _ _
        | slC b off cap n _ rows f hC hn hcap hu hcell ho hr =>
          rw [hn] at h1 h2 ⊢
          refine ⟨_, run_slice_hdr ht h0 h1 (by omega), ?_⟩
          generalize hL : ((lo.map (fun p : IntKind × Int => p.2)).getD (0 : Int)).toNat = L at *
          generalize hH : ((hi.map (fun p : IntKind × Int => p.2)).getD (n : Int)).toNat = H at *
          have hLH : L ≤ H := by omega
          have hHn : H ≤ n := by omega
          by_cases he : H = L
          · subst he
            rw [Nat.sub_self, List.take_zero]
            exact .slN _ _ _
          · rw [if_neg (by omega)]
            simp only [Option.map_some, Addr.add_lit, ← hz]
            refine .slC b (off + L * z0) (cap - L) (H - L) z0 _ (fun i j => f (L + i) j) hC ?_ (by omega) ?_ ?_ ?_ ?_
            · rw [List.length_take, List.length_drop, hn]; omega
            · intro r hr'
              exact hu r (List.mem_of_mem_drop (List.mem_of_mem_take hr'))
            · intro i j hi' hj
              have := hcell (L + i) j (by omega) hj
              rw [Nat.add_mul] at this
              rw [show off + L * z0 + i * z0 + j = off + (L * z0 + i * z0) + j from by omega]
              exact this
            · intro i j hi' hj
              exact ho (L + i) j (by omega) hj
            · intro i row hrow j y hy
              rw [List.getElem?_take] at hrow
              split at hrow
              · rw [List.getElem?_drop] at hrow
                exact hr (L + i) row hrow j y hy
              · cases hrow
      · cases h
    · cases h
  · rename_i n z0 p len
    split at h
    · rename_i e ht
      split at h
      · rename_i hc
        obtain ⟨hz, h0, h1, h2⟩ := hc
        obtain rfl := Option.some.inj h
        cases hv with
        | hsN _ _ hk =>
          have h3 : (hi.map (fun p : IntKind × Int => p.2)).getD ((0 : Nat) : Int) ≤ ((0 : Nat) : Int) := by
            rcases h2 with h2 | h2
            · exact h2
            · refine Int.not_lt.1 fun hlt => ?_
              have h5 : 0 < rowsIn st.hp n z0 := by omega
              obtain ⟨rows, hr, h2⟩ := rowsIn_spec h5
              have ho := hi0.obj _ _ hr
              simp only [OAt, hk] at ho
              subst ho
              simp only [List.length_nil] at h2
              omega
          refine ⟨_, run_slice_hdr ht h0 h1 h3, ?_⟩
          have e1 : ((hi.map (fun p : IntKind × Int => p.2)).getD ((0 : Nat) : Int)).toNat = 0 := by omega
          have e2 : ((lo.map (fun p : IntKind × Int => p.2)).getD (0 : Int)).toNat = 0 := by omega
          rw [e1, e2]
          exact .hsN n z0 hk
        | hsB _ _ _ _ b cap ad hk g1 g2 g3 =>
          have h3 : (hi.map (fun p : IntKind × Int => p.2)).getD (len : Int) ≤ (cap : Int) := by
            rcases h2 with h2 | h2
            · omega
            · refine Int.not_lt.1 fun hlt => ?_
              obtain ⟨rows, hr, h2⟩ := rowsIn_spec (Nat.lt_of_lt_of_le (by omega : p + ((hi.map (fun p : IntKind × Int => p.2)).getD (len : Int)).toNat - 1 < p + ((hi.map (fun p : IntKind × Int => p.2)).getD (len : Int)).toNat) h2)
              have ho := hi0.obj _ _ hr
              simp only [OAt, hk] at ho
              obtain ⟨cur, T', x1, x2, x3, x4, _⟩ := ho
              omega
          refine ⟨_, run_slice_hdr ht h0 h1 h3, ?_⟩
          generalize hL : ((lo.map (fun p : IntKind × Int => p.2)).getD (0 : Int)).toNat = L at *
          generalize hH : ((hi.map (fun p : IntKind × Int => p.2)).getD (len : Int)).toNat = H at *
          refine .hsB n z0 (p + L) (H - L) b (cap - L) _ hk (by omega) (by omega) (fun hlt => ?_)
          rw [if_neg (by omega), g3 (by omega)]
          simp only [Option.map_some, Addr.add_lit, ← hz, Nat.add_mul]
      · cases h
    · cases h
  · cases h

/-! ### Maps with whole numbers as keys -/
def mget (k : IntKind) (n : Int) : List (AV × AV) → Option AV
  | [] => none
  | (.sc (.int k' m), x) :: l => if k' = k then (if m = n then some x else mget k n l) else none
  | _ :: _ => none
/-- all keys are whole numbers of the kind -/
def mkeys (k : IntKind) : List (AV × AV) → Bool
  | [] => true
  | (.sc (.int k' _), _) :: l => (k' == k) && mkeys k l
  | _ :: _ => false
def tmapI (P : Program) (T : TypeId) : Option (IntKind × TypeId) :=
  match P.underlying T with
  | some (.map key e) => match P.underlying key with
    | some (.int k) => some (k, e)
    | _ => none
  | _ => none
def lokAV (P : Program) (T : TypeId) (hp : Nm → Option AO) (x i : AV) (ok : Bool) : Option AV :=
  match tmapI P T, i with
  | some (k, e), .sc (.int k' n) => if k' = k then (match x with
    | .mp m => match hp m with
      | some (.map es) => if mkeys k es then (match mget k n es with
        | some y => some (if ok then .tup [y, .sc (.bool true)] else y)
        | none => (zflat P e).map (fun z => if ok then .tup [z, .sc (.bool false)] else z)) else none
      | _ => none
    | _ => none) else none
  | _, _ => none

theorem findNow_int {k : IntKind} {n : Int} : ∀ (ms : List MapEntry) (es : List (AV × AV)) (p : Nat), ms.length = es.length → (∀ (i : Nat) m e, ms[i]? = some m → es[i]? = some e → RV g w m.key e.1 ∧ RV g w m.val e.2) → mkeys k es = true →
    ∃ r, Instr.findNow (.int k) (.int k n) ms p = some r ∧ match mget k n es with
      | some y => ∃ i v, r = some (p + i, v) ∧ RV g w v y ∧ (∃ m, ms[i]? = some m ∧ m.val = v ∧ m.key = .int k n) ∧ i < ms.length
      | none => r = none
  | [], es, p, hl, _, _ => by
    obtain rfl := List.eq_nil_of_length_eq_zero (by simpa using hl.symm)
    exact ⟨none, rfl, rfl⟩
  | m :: ms, [], p, hl, _, _ => by simp at hl
  | m :: ms, (ek, ev) :: es, p, hl, hr, hm => by
    unfold mkeys at hm
    split at hm
    · cases ‹_ :: _ = []›
    · rename_i k' m' x l he
      obtain ⟨e1, rfl⟩ := List.cons.inj he
      obtain ⟨rfl, rfl⟩ := Prod.mk.inj e1
      simp only [Bool.and_eq_true, beq_iff_eq] at hm
      obtain ⟨rfl, hm⟩ := hm
      obtain ⟨h1, h2⟩ := hr 0 m _ rfl rfl
      have hk := h1.sc_eq
      by_cases hn : m' = n
      · subst hn
        refine ⟨some (p, m.val), by simp [Instr.findNow, Instr.sameNow, hk], ?_⟩
        simp only [mget, if_true]
        exact ⟨0, m.val, by simp, h2, ⟨m, rfl, rfl, hk⟩, by simp⟩
      · obtain ⟨r, f1, f2⟩ := findNow_int (n := n) ms es (p + 1) (by simpa using hl) (fun i m e hm he => hr (i + 1) m e (by simpa using hm) (by simpa using he)) hm
        have hne : (n == m') = false := by simpa using fun e => hn e.symm
        refine ⟨r, by simp [Instr.findNow, Instr.sameNow, hk, hne, f1], ?_⟩
        simp only [mget, if_true, if_neg hn]
        split
        · rename_i y hy
          rw [hy] at f2
          obtain ⟨i, v, e1, e2, ⟨m2, e3, e4⟩, e5⟩ := f2
          exact ⟨i + 1, v, by rw [e1]; congr 2; omega, e2, ⟨m2, by simpa using e3, e4⟩, by simp; omega⟩
        · rename_i hy
          rw [hy] at f2
          exact f2
    · cases hm

theorem tmapI_spec {T e : TypeId} {k : IntKind} (h : tmapI P T = some (k, e)) : ∃ key, P.underlying T = some (.map key e) ∧ P.underlying key = some (.int k) := by
  unfold tmapI at h
  split at h
  · rename_i key e' hu
    split at h
    · rename_i k' hk
      obtain ⟨rfl, rfl⟩ := Prod.mk.inj (Option.some.inj h)
      exact ⟨key, hu, hk⟩
    · cases h
  · cases h
theorem run_checkKey_int {key : TypeId} {k : IntKind} {n : Int} {b : Bool} (h : P.underlying key = some (.int k)) : (Instr.checkKey b 10000 key (.int k n)).run P w = .ok () w := by
  have : ∀ d, (Instr.checkKey b (d + 1) key (.int k n)).run P w = .ok () w := by
    intro d
    simp [Instr.checkKey, underlying, h]
  exact this 9999

theorem run_lok_op {T : TypeId} {v u : Value} {x i z : AV} {ok : Bool} (hi0 : Inv own C w0 g st.hp w) (hv : RV g w v x) (hu : RV g w u i) (h : lokAV P T st.hp x i ok = some z) :
    ∃ v', (Instr.lookup T v u ok).run P w = .ok v' w ∧ RV g w v' z := by
  unfold lokAV at h
  split at h
  · rename_i k e k' n ht
    split at h
    · rename_i hk
      subst hk
      split at h
      · rename_i m
        split at h
        · rename_i es hm
          split at h
          · rename_i hmk
            obtain ⟨key, hT, hkey⟩ := tmapI_spec ht
            obtain rfl := hu.sc_eq
            cases hv with
            | mp _ b hb =>
              have ho := hi0.obj _ _ hm
              simp only [OAt, hb] at ho
              obtain ⟨ms, clock, h1, h2, h3⟩ := ho
              have hg : (getObj b).run P w = .ok (.map ms.toArray clock) w := by simp [getObj, Sem.run, h1]
              obtain ⟨r, f1, f2⟩ := findNow_int (n := n) ms es 0 h2 h3 hmk
              have hck := fun b => run_checkKey_int (P := P) (w := w) (n := n) (b := b) hkey
              split at h
              · rename_i y hy
                rw [hy] at f2
                obtain ⟨i', v', rfl, hv', _⟩ := f2
                obtain rfl := Option.some.inj h
                cases ok
                · exact ⟨v', by simp [Instr.lookup, run_und hT, hg, hck, Instr.findKey, run_und hkey, f1], hv'⟩
                · exact ⟨.tuple #[v', .bool true], by simp [Instr.lookup, run_und hT, hg, hck, Instr.findKey, run_und hkey, f1], .tup2 hv' (.sc _)⟩
              · rename_i hy
                rw [hy] at f2
                subst f2
                obtain ⟨z0, hz0, rfl⟩ := Option.map_eq_some_iff.1 h
                obtain ⟨v0, hr0, hv0⟩ := run_zflat (g := g) (w := w) hz0
                cases ok
                · exact ⟨v0, by simp [Instr.lookup, run_und hT, hg, hck, Instr.findKey, run_und hkey, f1, hr0], hv0⟩
                · exact ⟨.tuple #[v0, .bool false], by simp [Instr.lookup, run_und hT, hg, hck, Instr.findKey, run_und hkey, f1, hr0], .tup2 hv0 (.sc _)⟩
          · cases h
        · cases h
      · cases h
    · cases h
  · cases h

/-! ### Assertions that must hold -/
def tas1 (P : Program) (A : TypeId) (x : AV) : Option AV :=
  if isIface P A = some false then
    match x with
    | .ifc t y => if t = A then some y else none
    | _ => none
  else none
theorem run_tas1_op {T A : TypeId} {v : Value} {x z : AV} (hv : RV g w v x) (h : tas1 P A x = some z) : ∃ v', (Instr.typeAssert v T A false).run P w = .ok v' w ∧ RV g w v' z := by
  unfold tas1 at h
  split at h
  · rename_i h1
    obtain ⟨d, hu, hd⟩ : ∃ d, P.underlying A = some d ∧ ∀ ms, d ≠ .interface ms := by
      unfold isIface at h1
      cases hu : P.underlying A with
      | none => simp [hu] at h1
      | some d => exact ⟨d, rfl, fun ms e => by subst e; simp [hu] at h1⟩
    split at h
    · rename_i t y
      split at h
      · rename_i ht
        subst ht
        obtain rfl := Option.some.inj h
        cases hv with
        | ifc _ v _ h =>
          refine ⟨v, ?_, h⟩
          cases d <;> first
            | (simp [Instr.typeAssert, run_und hu]; done)
            | exact absurd rfl (hd _)
      · cases h
    · cases h
  · cases h

/-! ### The nil check -/
def nilAV : AV → Option AV
  | .pt id o => some (.pt id o)
  | .el r o => some (.el r o)
  | .ep n z i o => some (.ep n z i o)
  | .fn (.func f) x y => some (.fn (.func f) x y)
  | .sc (.func (.func f) x y) => some (.sc (.func (.func f) x y))
  | _ => none

/-! ### All quiet operations -/
def qev (P : Program) (st : St) (o : Oper) : Option AV :=
  match o.op with
  | .move x => some (ev st x)
  | .pick c x y => pickAV (ev st c) (ev st x) (ev st y)
  | .load T x => (cellsAt st (ev st x)).bind (fun p => getC P T p.1 p.2)
  | .nilCheck x => nilAV (ev st x)
  | .binOp op T x y _ => binAV P T op (match y with | .const _ => true | _ => false) (ev st x) (ev st y)
  | .unOp op _ x => unAV op (ev st x)
  | .convert S D x => cnvAV P S D (ev st x)
  | .makeInterface T x => mkiAV P T (ev st x)
  | .slice T x lo hi none => (optInt (lo.map (ev st))).bind fun l => (optInt (hi.map (ev st))).bind fun h => slcAV P T st.hp (ev st x) (l.map (·.2)) (h.map (·.2))
  | .fieldAddr T x f => fieldAV P T f (ev st x)
  | .field T x f => fldAV P T f (ev st x)
  | .indexAddr T x i => match ev st i with | .sc (.int _ n) => indexAV P T (ev st x) n | _ => none
  | .index T x i => match ev st i with | .sc (.int _ n) => idxAV P T (ev st x) n | _ => none
  | .extract x i => extAV i (ev st x)
  | .build T parts => bldAV P T (parts.toList.map (fun p => (p.1, ev st p.2)))
  | .typeAssert x _ A true => tasAV P A (ev st x)
  | .typeAssert x _ A false => tas1 P A (ev st x)
  | .makeFunc f xs ys => some (.fn f (xs.toList.map (ev st)) (ys.toList.map (ev st)))
  | .lookup T x i ok => lokAV P T st.hp (ev st x) (ev st i) ok
  | .call c => match c.callee, c.args.toList, c.argTypes.toList with
    | .builtin .len, [x], [T] => lenAV P T st.hp (ev st x)
    | _, _, _ => none
  | _ => none

theorem optInt_spec {lo : Option Operand} {l : Option (IntKind × Int)} (h : Rg P own C w0 g st a w) (hl : optInt (lo.map (ev st)) = some l) : lo.map a.eval = l.map fun p => Value.int p.1 p.2 := by
  cases lo with
  | none => simp only [Option.map_none, optInt] at hl; obtain rfl := Option.some.inj hl; rfl
  | some x =>
    have hv := h.ev x
    simp only [Option.map_some] at hl ⊢
    generalize Hm.ev st x = y at hl hv
    unfold optInt at hl
    split at hl
    · rename_i e; cases e
    · rename_i k n e
      obtain rfl := Option.some.inj e
      obtain rfl := Option.some.inj hl
      rw [hv.sc_eq]; rfl
    · cases hl

theorem qev_sound {o : Oper} {z : AV} (h : Rg P own C w0 g st a w) (hq : qev P st o = some z) : ∃ v, (execOp a.eval o).run P w = .ok (.value v) w ∧ RV g w v z := by
  have wrap : ∀ (s : Sem Value), (∃ v, s.run P w = .ok v w ∧ RV g w v z) → ∃ v, (do pure (Next.value (← s)) : Sem Next).run P w = .ok (.value v) w ∧ RV g w v z := by
    rintro s ⟨v, h1, h2⟩
    exact ⟨v, by simp [h1], h2⟩
  unfold qev at hq
  unfold execOp
  split at hq
  all_goals (rename_i hop; first | rw [hop] | (cases hq; done))
  · obtain rfl := Option.some.inj hq
    exact ⟨_, rfl, h.ev _⟩
  · obtain ⟨v, h1, h2⟩ := run_pick_op (w := w) (h.ev _) (h.ev _) (h.ev _) hq
    refine ⟨v, ?_, h2⟩
    simp only [Sem.run_bind, Sem.run_pure] at h1 ⊢
    revert h1
    cases (asBool (a.eval _)).run P w with
    | ok t w' =>
      intro h1
      simp only [Result.andThen_ok] at h1 ⊢
      injection h1 with e1 e2
      rw [e1, e2]
    | halt x w' => intro h1; cases h1
  · obtain ⟨⟨cs, off⟩, h1, h2⟩ := Option.bind_eq_some_iff.1 hq
    exact wrap _ (run_load_op h rfl h1 h2)
  · rename_i x
    have hv := h.ev x
    generalize Hm.ev st x = y at hq hv
    unfold nilAV at hq
    split at hq
    · obtain rfl := Option.some.inj hq
      obtain ⟨ad, e⟩ := hv.ptr_some (.inl ⟨_, _, rfl⟩)
      refine ⟨_, ?_, hv⟩
      simp only [e]
      rfl
    · obtain rfl := Option.some.inj hq
      obtain ⟨ad, e⟩ := hv.ptr_some (.inr (.inl ⟨_, _, rfl⟩))
      refine ⟨_, ?_, hv⟩
      simp only [e]
      rfl
    · obtain rfl := Option.some.inj hq
      obtain ⟨ad, e⟩ := hv.ptr_some (.inr (.inr ⟨_, _, _, _, rfl⟩))
      refine ⟨_, ?_, hv⟩
      simp only [e]
      rfl
    · rename_i f0 _ _
      obtain rfl := Option.some.inj hq
      have e : ∃ vs us, a.eval x = .func (.func f0) vs us := by
        generalize a.eval x = v at hv
        cases hv with
        | fn _ vs us => exact ⟨_, _, rfl⟩
      obtain ⟨vs, us, e⟩ := e
      refine ⟨_, ?_, hv⟩
      simp only [e]
      rfl
    · obtain rfl := Option.some.inj hq
      have e := hv.sc_eq
      refine ⟨_, ?_, hv⟩
      simp only [e]
      rfl
    · cases hq
  · rename_i op T x y yT
    obtain ⟨v, h1, h2⟩ := run_bin_op (xo := x) (yo := y) (fun hc => by cases y <;> first | exact ⟨_, rfl⟩ | cases hc) (h.ev _) (h.ev _) hq
    exact wrap _ ⟨v, h1, h2⟩
  · exact wrap _ (run_un_op (h.ev _) hq)
  · exact wrap _ (run_cnv_op (h.ev _) hq)
  · exact wrap _ (run_mki_op (h.ev _) hq)
  · rename_i T x lo hi
    obtain ⟨l, hl, hq⟩ := Option.bind_eq_some_iff.1 hq
    obtain ⟨u, hu, hq⟩ := Option.bind_eq_some_iff.1 hq
    have e1 := optInt_spec h hl
    have e2 := optInt_spec h hu
    refine wrap (Instr.sliceAt T (a.eval x) (lo.map a.eval) (hi.map a.eval) none) ?_
    rw [e1, e2]
    exact run_slc_op h.inv (h.ev _) hq
  · exact wrap _ (run_field_op (h.ev _) hq)
  · exact wrap _ (run_fld_op (h.ev _) hq)
  · rename_i T x i
    split at hq
    · rename_i k n e
      have hi := h.ev i
      rw [e] at hi
      refine wrap (Instr.indexAt T (a.eval x) (a.eval i)) ?_
      rw [hi.sc_eq]
      exact run_index_op (h.ev _) hq
    · cases hq
  · rename_i T x i
    split at hq
    · rename_i k n e
      have hi := h.ev i
      rw [e] at hi
      refine wrap (Instr.index T (a.eval x) (a.eval i)) ?_
      rw [hi.sc_eq]
      exact run_idx_op (h.ev _) hq
    · cases hq
  · exact wrap _ (run_ext_op (h.ev _) hq)
  · rename_i T parts
    refine wrap _ (run_bld_op (by simp) (fun j p q hp hq' => ?_) hq)
    rw [Array.getElem?_map] at hp
    obtain ⟨p0, hp0, rfl⟩ := Option.map_eq_some_iff.1 hp
    rw [List.getElem?_map] at hq'
    obtain ⟨q0, hq0, rfl⟩ := Option.map_eq_some_iff.1 hq'
    have : p0 = q0 := by
      have hq1 : parts[j]? = some q0 := by simpa using hq0
      rw [hp0] at hq1
      exact Option.some.inj hq1
    subst this
    exact ⟨rfl, h.ev _⟩
  · exact wrap _ (run_tas_op (h.ev _) hq)
  · exact wrap _ (run_tas1_op (h.ev _) hq)
  · rename_i f xs ys
    obtain rfl := Option.some.inj hq
    refine wrap (Instr.makeFunc f (xs.map a.eval) (ys.map a.eval)) ⟨.func f (xs.map a.eval) (ys.map a.eval), rfl, ?_⟩
    have := RV.fn (g := g) (w := w) f (xs.toList.map a.eval) (ys.toList.map a.eval) (xs.toList.map (Hm.ev st)) (ys.toList.map (Hm.ev st)) (by simp) (by simp) (fun j v x hv hx => by
      rw [List.getElem?_map] at hv hx
      obtain ⟨o1, e1, rfl⟩ := Option.map_eq_some_iff.1 hv
      rw [e1] at hx
      obtain rfl := Option.some.inj hx
      exact h.ev _) (fun j v x hv hx => by
      rw [List.getElem?_map] at hv hx
      obtain ⟨o1, e1, rfl⟩ := Option.map_eq_some_iff.1 hv
      rw [e1] at hx
      obtain rfl := Option.some.inj hx
      exact h.ev _)
    have e1 : (xs.toList.map a.eval).toArray = xs.map a.eval := by apply Array.ext'; simp
    have e2 : (ys.toList.map a.eval).toArray = ys.map a.eval := by apply Array.ext'; simp
    rw [e1, e2] at this
    exact this
  · exact wrap _ (run_lok_op h.inv (h.ev _) (h.ev _) hq)
  · rename_i c
    split at hq
    · rename_i x T hc ha hT
      obtain ⟨v, h1, h2⟩ := run_len_op (ty := o.type) (w := w) h.inv (h.ev x) hq
      refine ⟨v, ?_, h2⟩
      have ha' : c.args = #[x] := by apply Array.ext'; simpa using ha
      have hT' : c.argTypes = #[T] := by apply Array.ext'; simpa using hT
      simp [resolve, hc, ha', hT', invoke, builtin, h1]
    · cases hq

end
end Go.Hm
end
