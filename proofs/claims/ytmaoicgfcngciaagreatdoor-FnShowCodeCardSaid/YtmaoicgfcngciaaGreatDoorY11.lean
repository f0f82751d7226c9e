/-
  Own texts, joined by mkclaim.py: Hm56, Hm57, Hm58, Hm60, Hm61, Hm62, Hm63, Hm64, Hm65.
-/
import Derived.Test.YtmaoicgfcngciaaGreatDoorY10
import Derived.Test.YtmaoicgfcngciaaGreatDoorY09
import Derived.OpenShut
import Derived.FnData
set_option linter.unusedSimpArgs false
set_option linter.unusedVariables false
set_option maxRecDepth 100000
set_option maxHeartbeats 4000000

section
namespace Go.Hm
open Go Go.RowKit
structure Free (k : Blk) (y : Int) : Prop where
  rd : y ∉ readsAll k.body
  bd : y ∉ boundAll k
  d9 : y ∉ declAll k 9
  d10 : y ∉ declAll k 10
theorem Free.of {k : Blk} {y : Int} (hy : 0 ≤ y ∧ y ≤ 7) (h : y ∉ k.us) : Free k y := by
  simp only [Blk.us, mem_sorted, List.mem_append, Blk.rd, Blk.bd, Blk.dc, hy, and_true, true_and, not_or] at h
  exact ⟨h.1.1.1, h.1.1.2, h.1.2, h.2⟩
section
variable {k : Blk} {x y z : Int} (hx : 0 ≤ x ∧ x ≤ 7) (hy : 0 ≤ y ∧ y ≤ 7) (hxy : x ≠ y) (hf : Free k y)
include hx hy hxy hf
end
theorem swapI_back {n x y : Int} (h : n ≠ y) : swapI (swapI n x y) y x = n := by
  unfold swapI
  split
  · rename_i e; simp [e]
  · simp [h]
theorem Stm.ren_back {k : Blk} {s : Stm} {x y : Int} (hx : 0 ≤ x) (hy : 0 ≤ y) (hn : NmOk k) (hf : Free k y) (hs : s ∈ k.body) : (s.ren x y).ren y x = s := by
  have hk := hn.kinds s hs
  have hrd : ∀ z ∈ s.reads, z ≠ y := fun z hz e => hf.rd (List.mem_flatMap.2 ⟨s, hs, e ▸ hz⟩)
  have hto : s.sets ∨ 9 ≤ s.kind → s.to ≠ y := by
    intro h e
    by_cases h9 : s.kind = 9
    · exact hf.d9 (List.mem_map.2 ⟨s, List.mem_filter.2 ⟨hs, by simp [h9]⟩, e⟩)
    · by_cases h10 : s.kind = 10
      · exact hf.d10 (List.mem_map.2 ⟨s, List.mem_filter.2 ⟨hs, by simp [h10]⟩, e⟩)
      · refine hf.bd (List.mem_append.2 (.inr (List.mem_map.2 ⟨s, List.mem_filter.2 ⟨hs, ?_⟩, e⟩)))
        simp only [decide_eq_true_eq]
        rcases h with h | h
        · exact .inl h
        · exact .inr (by omega)
  obtain ⟨c, t, a, b⟩ := s
  simp only [Stm.reads] at hrd
  simp only at hto hk
  simp only [Stm.ren, Stm.mk.injEq, true_and]
  refine ⟨?_, ?_, ?_⟩
  · split
    · rename_i h
      exact swapI_back (hto h)
    · rfl
  · split
    · rename_i h
      refine swapI_back (hrd a ?_)
      rcases h with rfl | rfl | rfl | rfl | rfl | rfl <;> simp
      split <;> simp
    · rfl
  · split
    · rename_i h
      by_cases hb : b = -1
      · subst hb
        have e1 : swapI (-1) x y = -1 := by unfold swapI; rw [if_neg (by omega)]
        have e2 : swapI (-1) y x = -1 := by unfold swapI; rw [if_neg (by omega)]
        rw [e1, e2]
      · refine swapI_back (hrd b ?_)
        have h1 : ¬ (c = 1 ∨ c = 6 ∨ c = 7 ∨ c = 8) := by omega
        rcases h with rfl | rfl
        · simp
        · simp [hb]
    · rfl
theorem Blk.ren_back {k : Blk} {x y : Int} (hx : 0 ≤ x) (hy : 0 ≤ y) (hn : NmOk k) (hf : Free k y) : (k.ren x y).ren y x = k := by
  obtain ⟨c, u, ps, ss⟩ := k
  simp only [Blk.ren, List.map_map, Blk.mk.injEq, true_and]
  refine ⟨?_, ?_⟩
  · conv => rhs; rw [← List.map_id ps]
    refine List.map_congr_left fun n h => ?_
    have : n ≠ y := fun e => hf.bd (by simp [boundAll, ← e, h])
    simp [swapI_back this]
  · conv => rhs; rw [← List.map_id ss]
    refine List.map_congr_left fun s h => ?_
    exact Stm.ren_back hx hy hn hf h
end Go.Hm
end
section
namespace Go.Hm
open Go Go.RowKit
structure RenH (p : Prg) (b : Nat) (x y : Int) : Prop where
  sh : ShapeP p
  made : ∀ i, 0 < i → i < p.length → madeIn p i = 1
  decl : ∀ (c : Nat) k, 0 < c → p[c]? = some k → ∀ n : Nat, n < 8 → declOk p c k n = true
  hb : 0 < b
  hbl : b < p.length
  hx : 0 ≤ x ∧ x ≤ 7
  hy : 0 ≤ y ∧ y ≤ 7
  hxy : x ≠ y
  fn : ∀ k, p[b]? = some k → k.kind = 1
  loc : ∀ k, p[b]? = some k → isLocal b k x = true
  free : ∀ (c : Nat) k, p[c]? = some k → inside p c b = true → Free k y
theorem progOk_parts {p : Prg} (hs : Sml p) (h : progOk p = true) : ShapeP p ∧ (∀ i, 0 < i → i < p.length → madeIn p i = 1) ∧ (∀ (c : Nat) k, 0 < c → p[c]? = some k → ∀ n : Nat, n < 8 → declOk p c k n = true) := by
  simp only [progOk, Bool.and_eq_true] at h
  refine ⟨ShapeP.of hs h.1, (shapeOk_heads h.1).2.2.2.2, fun c k h0 hk n hn => ?_⟩
  have := List.all_eq_true.1 h.2 c (List.mem_range.2 (gS hk).1)
  have h0' : (c == 0) = false := by simp; omega
  rw [h0', Bool.false_or] at this
  simp only [declsOk, hk] at this
  exact List.all_eq_true.1 this n (List.mem_range.2 hn)
theorem inside_ge {p : Prg} {c b : Int} (h : inside p c b = true) : b ≤ c := by
  by_cases e : c ≤ b
  · rw [inside_end e] at h
    simp at h
    omega
  · omega
theorem RenH.of {p : Prg} {b : Nat} {x y : Int} (hs : Sml p) (h : renOk p b x y = true) : RenH p b x y := by
  simp only [renOk, Bool.and_eq_true, decide_eq_true_eq, bne_iff_ne, ne_eq] at h
  obtain ⟨⟨⟨⟨⟨h1, h2⟩, h3⟩, h4⟩, h5⟩, h6⟩ := h
  obtain ⟨a1, a2, a3⟩ := progOk_parts hs h1
  have hbl : b < p.length := by omega
  obtain ⟨kb, hkb⟩ : ∃ k, p[b]? = some k := ⟨_, gE hbl⟩
  simp only [renAt, Int.toNat_natCast, hkb, Bool.and_eq_true, beq_iff_eq, Bool.not_eq_true'] at h6
  obtain ⟨⟨h7, h8⟩, h9⟩ := h6
  have h0 : 0 < b := by
    rcases Nat.eq_zero_or_pos b with e | e
    · subst e
      have := a1.fun0 kb hkb
      exact absurd h7 this
    · exact e
  refine ⟨a1, a2, a3, h0, hbl, h3, h4, h5, fun k hk => ?_, fun k hk => ?_, fun c k hk hi => ?_⟩
  · rw [hkb] at hk; cases hk; exact h7
  · rw [hkb] at hk; cases hk; exact h8
  · apply Free.of h4
    intro hm
    have hc := (gS hk).1
    have hge := inside_ge hi
    have : clash p b y = true := by
      refine List.any_eq_true.2 ⟨c, List.mem_range.2 hc, ?_⟩
      simp only [clashAt, hk, hi, hm, decide_true, Bool.and_true, decide_eq_true_eq]
      omega
    rw [this] at h9
    cases h9
theorem inside_of_outerF {p : Prg} {b : Nat} {z : Int} (hh : Heads p) (hb : 0 < b) : ∀ (n : Nat), n < p.length → outerF p z p.length n = b → inside p n b = true := by
  intro n
  induction n using Nat.strongRecOn with
  | ind n ih =>
    intro hn ho
    rcases Nat.eq_zero_or_pos n with e | e
    · subst e
      rw [outerF_end (by simp)] at ho
      omega
    · obtain ⟨q, hq⟩ : ∃ q, p[n]? = some q := ⟨_, gE hn⟩
      rw [outerF_step hh hq e] at ho
      obtain ⟨g1, g2, g3⟩ := hh n q hq
      have key : outerF p z p.length q.parent = b → inside p n b = true := by
        intro h
        have g4 := g3 e
        obtain ⟨m, hm⟩ : ∃ m : Nat, q.parent = m := ⟨q.parent.toNat, by omega⟩
        have h2 := ih m (by omega) (by omega) (by rw [← hm]; exact h)
        have h3 := inside_ge h2
        rw [inside_step hh (by omega) hq (by omega), hm]
        exact h2
      split at ho
      · exact key ho
      · split at ho
        · omega
        · split at ho
          · have : n = b := by omega
            subst this
            rw [inside_end (by omega)]
            simp
          · exact key ho
theorem inside_of_outer {p : Prg} {b c : Nat} {k : Blk} {z : Int} (hh : Heads p) (hb : 0 < b) (hk : p[c]? = some k) (h0 : 0 < c) (h : outer p c z = b) : inside p c b = true := by
  rw [outer_fuel hh hk] at h
  obtain ⟨g1, g2, g3⟩ := hh c k hk
  have g4 := g3 h0
  have hc := (gS hk).1
  obtain ⟨m, hm⟩ : ∃ m : Nat, k.parent = m := ⟨k.parent.toNat, by omega⟩
  have h2 := inside_of_outerF hh hb m (by omega) (by rw [← hm]; exact h)
  have h3 := inside_ge h2
  rw [inside_step hh (by omega) hk (by omega), hm]
  exact h2
theorem inside_of_owner {p : Prg} {b c : Nat} {k : Blk} {z : Int} (hh : Heads p) (hb : 0 < b) (hk : p[c]? = some k) (h : owner p c z = b) : inside p c b = true := by
  simp only [owner, hk] at h
  split at h
  · omega
  · rename_i hn
    split at h
    · have : c = b := by omega
      subst this
      rw [inside_end (by omega)]
      simp
    · exact inside_of_outer hh hb hk (by omega) h
section
variable {p : Prg} {b : Nat} {x y : Int} (H : RenH p b x y)
include H
omit H in
theorem renS_blk {c : Nat} {k : Blk} (hk : p[c]? = some k) : (renS (touches p b x) x y p)[c]? = some (renIf (touches p b x c) x y k) := by
  rw [renS_get, hk]; rfl
theorem RenH.heads : Heads (renS (touches p b x) x y p) := by
  intro i q hq
  rw [renS_get] at hq
  cases hk : p[i]? with
  | none => rw [hk] at hq; cases hq
  | some k =>
    rw [hk] at hq
    simp only [Option.map_some, Option.some.injEq] at hq
    have e : q.parent = k.parent := by subst hq; unfold renIf; split <;> rfl
    rw [e]
    exact H.sh.heads i k hk
omit H in
theorem renIf_kind {c : Bool} {k : Blk} : (renIf c x y k).kind = k.kind := by unfold renIf; split <;> rfl
omit H in
theorem renIf_parent {c : Bool} {k : Blk} : (renIf c x y k).parent = k.parent := by unfold renIf; split <;> rfl
theorem RenH.walk {z w : Int} (stop : Nat → Prop)
    (hst : ∀ (j : Nat) k, p[j]? = some k → 0 < j → k.kind = 1 → stop j →
      (z ∈ (renIf (touches p b x j) x y k).dc 9 ↔ w ∈ k.dc 9) ∧ isLocal j (renIf (touches p b x j) x y k) z = isLocal j k w)
    (hup : ∀ (j : Nat) k, p[j]? = some k → 0 < j → stop j → (k.kind = 1 → w ∉ k.dc 9 ∧ isLocal j k w = false) → stop k.parent.toNat) :
    ∀ n : Nat, n < p.length → stop n → outerF (renS (touches p b x) x y p) z p.length n = outerF p w p.length n := by
  intro n
  induction n using Nat.strongRecOn with
  | ind n ih =>
    intro hn hs
    rcases Nat.eq_zero_or_pos n with e | e
    · subst e
      rw [outerF_end (by simp), outerF_end (by simp)]
    · obtain ⟨k, hk⟩ : ∃ k, p[n]? = some k := ⟨_, gE hn⟩
      obtain ⟨g1, g2, g3⟩ := H.sh.heads n k hk
      have g4 := g3 e
      have hq := renS_blk (b := b) (x := x) (y := y) hk
      have h1 := outerF_step (x := z) H.heads hq e
      rw [renS_len] at h1
      rw [h1, outerF_step (x := w) H.sh.heads hk e, renIf_kind, renIf_parent]
      obtain ⟨m, hm⟩ : ∃ m : Nat, k.parent = m := ⟨k.parent.toNat, by omega⟩
      have key : (k.kind = 1 → w ∉ k.dc 9 ∧ isLocal n k w = false) → outerF (renS (touches p b x) x y p) z p.length k.parent = outerF p w p.length k.parent := by
        intro h
        have := ih m (by omega) (by omega) (by have := hup n k hk e hs h; rw [hm] at this; simpa using this)
        rw [hm]; exact this
      by_cases hk1 : k.kind = 1
      · obtain ⟨f1, f2⟩ := hst n k hk e hk1 hs
        have hk2 : ¬ (k.kind ≠ 1) := fun h => h hk1
        rw [if_neg hk2, if_neg hk2, f2]
        by_cases h9 : w ∈ k.dc 9
        · rw [if_pos h9, if_pos (f1.2 h9)]
        · rw [if_neg h9, if_neg (fun h => h9 (f1.1 h))]
          cases hl : isLocal n k w with
          | true => rfl
          | false =>
            simp only [Bool.false_eq_true, if_false]
            exact key fun _ => ⟨h9, hl⟩
      · rw [if_pos hk1, if_pos hk1]
        exact key fun h => absurd h hk1
end
end Go.Hm
end
section
namespace Go.Hm
open Go Go.RowKit Go.ChangeShapes Go.WideShapes Go.Deep
variable {H : Type} {enc : TypeId × Value → H} {P : Program} {w : World}
theorem rd_byte {t : TypeId} (ht : P.underlying t = some (.int .u8)) : ReadsAs enc P w t (fun k : Int => [byt k]) (fun k => 0 ≤ k ∧ k ≤ 255) := by
  intro n cs y h _
  obtain ⟨k, rfl, _, hw⟩ := DataW.trod_int ht h
  refine ⟨k, by simpa [Lit.wf, IntKind.min, IntKind.max, IntKind.signed, IntKind.bits] using hw, rfl, fun j v a hv ha => ?_⟩
  cases j with
  | zero =>
    simp at hv ha
    subst hv; subst ha
    exact ⟨.sc _, rfl⟩
  | succ j => simp at hv
theorem rd_bytes {t e : TypeId} (ht : P.underlying t = some (.slice e)) (he : P.underlying e = some (.int .u8)) (hc : P.cellsOf e = 1) (hby : 0 < P.bytesOf e)
    {r : Reach} {b0 : Nat} {v : Value} {d : DataW H} {p : List MemPlace} (hv : Value.okWide P w r b0 t v) (h : DataW.Trod enc P w 0 (fun _ => true) true t v d p) (hw : ∀ m ∈ d.weights P t, m ≤ reachBytes) :
    ∃ bs : List Int, (bs.length ≤ 1152921504606846976 ∧ ∀ x ∈ bs, 0 ≤ x ∧ x ≤ 255) ∧ RV (g0 w) w v (bsl bs) := by
  obtain ⟨a, len, cap, rfl⟩ := okWide_slice ht hv
  obtain ⟨fuel, hf⟩ := h
  obtain ⟨x, hx, hl, hr⟩ := rd_slice (enc := enc) (w := w) ht hc (by omega) hby (fun _ => rfl) (rd_byte he) _ _ _ hf hw
  exact ⟨x, hx, (hr 0 _ _ rfl rfl).1⟩
end Go.Hm
end
section
namespace Go.Hm
open Go Go.RowKit
def picked (f : Nat → Bool) : Nat → List Int
  | 0 => []
  | n + 1 => if f n = true then picked f n ++ [(n : Int)] else picked f n
theorem mem_picked {f : Nat → Bool} {x : Int} : ∀ {n : Nat}, x ∈ picked f n ↔ ∃ m : Nat, m < n ∧ f m = true ∧ x = m
  | 0 => by simp [picked]
  | n + 1 => by
    simp only [picked]
    split
    · rename_i h
      rw [List.mem_append, mem_picked (n := n), List.mem_singleton]
      constructor
      · rintro (⟨m, h1, h2, h3⟩ | h')
        · exact ⟨m, by omega, h2, h3⟩
        · exact ⟨n, by omega, h, h'⟩
      · rintro ⟨m, h1, h2, h3⟩
        rcases Nat.lt_succ_iff_lt_or_eq.1 h1 with e | rfl
        · exact .inl ⟨m, e, h2, h3⟩
        · exact .inr h3
    · rename_i h
      rw [mem_picked (n := n)]
      constructor
      · rintro ⟨m, h1, h2, h3⟩; exact ⟨m, by omega, h2, h3⟩
      · rintro ⟨m, h1, h2, h3⟩
        rcases Nat.lt_succ_iff_lt_or_eq.1 h1 with e | rfl
        · exact ⟨m, e, h2, h3⟩
        · exact absurd h2 h
theorem mem_picked_nat {f : Nat → Bool} {x n : Nat} : (x : Int) ∈ picked f n ↔ x < n ∧ f x = true := by
  rw [mem_picked]
  constructor
  · rintro ⟨m, h1, h2, h3⟩
    obtain rfl : x = m := by omega
    exact ⟨h1, h2⟩
  · rintro ⟨h1, h2⟩; exact ⟨x, h1, h2, rfl⟩
theorem picked_len {f : Nat → Bool} : ∀ n : Nat, (picked f n).length ≤ n
  | 0 => by simp [picked]
  | n + 1 => by
    have := picked_len (f := f) n
    simp only [picked]
    split <;> simp <;> omega
theorem picked_congr {f g : Nat → Bool} : ∀ {n : Nat}, (∀ x, x < n → f x = g x) → picked f n = picked g n
  | 0, _ => rfl
  | n + 1, h => by
    simp only [picked]
    rw [h n (by omega), picked_congr (n := n) fun x hx => h x (by omega)]
theorem sortedTo_picked {l : List Int} : ∀ n : Nat, sortedTo l n = picked (fun x => decide ((x : Int) ∈ l)) n
  | 0 => rfl
  | n + 1 => by
    simp only [sortedTo, picked, sortedTo_picked n, decide_eq_true_eq]
theorem sorted_picked {f : Nat → Bool} : sorted (picked f 8) = picked f 8 := by
  rw [sorted, sortedTo_picked]
  exact picked_congr fun x hx => by
    rw [Bool.eq_iff_iff, decide_eq_true_eq, mem_picked_nat]
    simp [hx]
theorem sorted_same {l l' : List Int} (h : ∀ x : Nat, x < 8 → ((x : Int) ∈ l ↔ (x : Int) ∈ l')) : sorted l = sorted l' := by
  rw [sorted, sorted, sortedTo_picked, sortedTo_picked]
  exact picked_congr fun x hx => by
    rw [Bool.eq_iff_iff, decide_eq_true_eq, decide_eq_true_eq, h x hx]
def joined (g : Nat → List Int) : Nat → List Int
  | 0 => []
  | n + 1 => joined g n ++ g n
theorem mem_joined {g : Nat → List Int} {x : Int} : ∀ {n : Nat}, x ∈ joined g n ↔ ∃ m : Nat, m < n ∧ x ∈ g m
  | 0 => by simp [joined]
  | n + 1 => by
    simp only [joined, List.mem_append, mem_joined (n := n)]
    constructor
    · rintro (⟨m, h1, h2⟩ | h)
      · exact ⟨m, by omega, h2⟩
      · exact ⟨n, by omega, h⟩
    · rintro ⟨m, h1, h2⟩
      rcases Nat.lt_succ_iff_lt_or_eq.1 h1 with e | rfl
      · exact .inl ⟨m, e, h2⟩
      · exact .inr h2
theorem joined_len {g : Nat → List Int} (h : ∀ i, (g i).length ≤ 8) : ∀ n : Nat, (joined g n).length ≤ 8 * n
  | 0 => by simp [joined]
  | n + 1 => by
    have := joined_len h n
    have := h n
    simp only [joined, List.length_append]
    omega
theorem outerF_pos {p : Prg} {x : Int} : ∀ (n : Nat) (j : Int), outerF p x n j = -1 ∨ 0 < outerF p x n j
  | 0, _ => .inl rfl
  | n + 1, j => by
    simp only [outerF]
    split
    · exact .inl rfl
    · rename_i hj
      split
      · exact .inl rfl
      · split
        · exact outerF_pos n _
        · split
          · exact .inl rfl
          · split
            · exact .inr (by omega)
            · exact outerF_pos n _
theorem owner_pos {p : Prg} {c : Nat} {x : Int} : owner p c x = -1 ∨ 0 < owner p c x := by
  unfold owner
  split
  · split
    · exact .inl rfl
    · rename_i h
      split
      · exact .inr (by omega)
      · unfold outer
        split
        · exact outerF_pos _ _
        · exact .inl rfl
  · exact .inl rfl
def freeIn (p : Prg) (b c : Nat) (x : Int) : Bool := decide (0 < owner p c x) && decide (owner p c x < b)
def freeAt (p : Prg) (b c : Nat) : List Int := match p[c]? with
  | some k => if inside p c b = true then k.us.filter (freeIn p b c) else []
  | none => []
def freesRaw (p : Prg) (b : Nat) : Nat → List Int := joined fun i => freeAt p b (b + i)
def freesL (p : Prg) (b : Nat) : List Int := sorted (freesRaw p b (p.length - b))
def cellIn (p : Prg) (b c : Nat) (x : Int) : Bool := owner p c x == b
def cellAt (p : Prg) (b c : Nat) : List Int := match p[c]? with
  | some k => k.us.filter (cellIn p b c)
  | none => []
def cellsRaw (p : Prg) (b : Nat) : Nat → List Int := joined fun i => cellAt p b (b + 1 + i)
def kindAt (p : Prg) (b : Nat) : Int := match p[b]? with | some k => k.kind | none => -1
def cellsL (p : Prg) (b : Nat) : List Int := if kindAt p b = 1 then sorted (cellsRaw p b (p.length - (b + 1))) else []
def fastIn (p : Prg) (b : Nat) (x : Nat) : Bool := match p[b]? with
  | some k => isLocal b k x && !decide ((x : Int) ∈ cellsL p b)
  | none => false
def fastsL (p : Prg) (b : Nat) : List Int := if kindAt p b = 1 then picked (fastIn p b) 8 else []
def symOf (p : Prg) (b : Nat) (x : Int) : Int :=
  if owner p b x < 0 then 0 else if owner p b x ≠ b then 1 else if kindAt p b = 2 then 2 else if x ∈ cellsL p b then 3 else 4
def cellPl (p : Prg) (b : Nat) (x : Int) : Int := if x ∈ cellsL p b then placeIn (cellsL p b) x else (cellsL p b).length + placeIn (freesL p b) x
def nameOp (p : Prg) (b : Nat) (x w : Int) : Int × Int :=
  if symOf p b x = 0 then (8 + w, x) else if symOf p b x = 2 then (11 + w, x) else if symOf p b x = 4 then (2 + w, placeIn (fastsL p b) x) else (5 + w, cellPl p b x)
theorem filter_len8 {l : List Int} {f : Int → Bool} (h : l.length ≤ 8) : (l.filter f).length ≤ 8 := Nat.le_trans (List.length_filter_le _ _) h
theorem freeAt_len {p : Prg} {b c : Nat} : (freeAt p b c).length ≤ 8 := by
  unfold freeAt
  split
  · split
    · exact filter_len8 (Blk.us_len _)
    · simp
  · simp
theorem cellAt_len {p : Prg} {b c : Nat} : (cellAt p b c).length ≤ 8 := by
  unfold cellAt
  split
  · exact filter_len8 (Blk.us_len _)
  · simp
theorem freesRaw_len {p : Prg} {b n : Nat} : (freesRaw p b n).length ≤ 8 * n := joined_len (fun _ => freeAt_len) n
theorem cellsRaw_len {p : Prg} {b n : Nat} : (cellsRaw p b n).length ≤ 8 * n := joined_len (fun _ => cellAt_len) n
theorem freesL_len {p : Prg} {b : Nat} : (freesL p b).length ≤ 8 := sorted_len
theorem cellsL_len {p : Prg} {b : Nat} : (cellsL p b).length ≤ 8 := by
  unfold cellsL
  split
  · exact sorted_len
  · simp
theorem fastsL_len {p : Prg} {b : Nat} : (fastsL p b).length ≤ 8 := by
  unfold fastsL
  split
  · exact picked_len 8
  · simp
theorem freesRaw_succ {p : Prg} {b n : Nat} : freesRaw p b (n + 1) = freesRaw p b n ++ freeAt p b (b + n) := rfl
theorem cellsRaw_succ {p : Prg} {b n : Nat} : cellsRaw p b (n + 1) = cellsRaw p b n ++ cellAt p b (b + 1 + n) := rfl
theorem placeIn_bd {xs : List Int} {x : Int} : -1 ≤ placeIn xs x ∧ placeIn xs x ≤ xs.length := by
  unfold placeIn
  split
  · rename_i i h
    have := (List.findIdx?_eq_some_iff_findIdx_eq.1 h).1
    constructor <;> omega
  · constructor <;> omega
theorem nameOp_le {p : Prg} {b : Nat} {x w : Int} (h0 : 0 ≤ w) (h2 : w ≤ 2) : 0 ≤ (nameOp p b x w).1 ∧ (nameOp p b x w).1 ≤ 13 := by
  unfold nameOp
  split
  · simp; omega
  · split
    · simp; omega
    · split <;> simp <;> omega
theorem symOf_fast {p : Prg} {b : Nat} {k : Blk} {x : Int} (hk : p[b]? = some k) (hk0 : b = 0 ↔ k.kind = 0) (hk2 : k.kind = 0 ∨ k.kind = 1 ∨ k.kind = 2) (h : symOf p b x = 3 ∨ symOf p b x = 4) : k.kind = 1 := by
  have hka : kindAt p b = k.kind := by simp [kindAt, hk]
  unfold symOf at h
  rw [hka] at h
  split at h
  · omega
  · rename_i ho
    split at h
    · omega
    · rename_i hb
      split at h
      · omega
      · rename_i h2
        rcases owner_pos (p := p) (c := b) (x := x) with e | e
        · omega
        · have : b ≠ 0 := by omega
          omega
def freeI (p : Prg) (b c : Nat) (x : Nat) : Bool := match p[c]? with
  | some k => inside p c b && decide ((x : Int) ∈ k.us) && (owner p c x != -1) && !inside p (owner p c x) b
  | none => false
def freesI (p : Prg) (b : Nat) : Nat → List Int := joined fun c => picked (freeI p b c) 8
def cellI (p : Prg) (b c : Nat) (x : Nat) : Bool := match p[c]? with
  | some k => (c != b) && decide ((x : Int) ∈ k.us) && (owner p c x == b)
  | none => false
def cellsI (p : Prg) (b : Nat) : Nat → List Int := joined fun c => picked (cellI p b c) 8
theorem inside_chain {p : Prg} (hh : Heads p) {b o : Nat} : ∀ c : Nat, c < p.length → inside p c b = true → inside p c o = true → b ≤ o → inside p o b = true := by
  intro c
  induction c using Nat.strongRecOn with
  | ind c ih =>
    intro hc h1 h2 hbo
    have g2 := inside_ge h2
    by_cases e : o = c
    · subst e; exact h1
    · obtain ⟨q, hq⟩ : ∃ q, p[c]? = some q := ⟨_, gE hc⟩
      obtain ⟨a1, a2, a3⟩ := hh c q hq
      have a4 := a3 (by omega)
      obtain ⟨m, hm⟩ : ∃ m : Nat, q.parent = m := ⟨q.parent.toNat, by omega⟩
      rw [inside_step hh (by omega) hq (by omega), hm] at h1 h2
      exact ih m (by omega) (by omega) h1 h2 hbo
theorem inside_owner {p : Prg} (hh : Heads p) {b c : Nat} {k : Blk} {x : Int} (hk : p[c]? = some k) (hi : inside p c b = true) (ho : owner p c x ≠ -1) : inside p (owner p c x) b = !decide (owner p c x < b) := by
  rcases owner_pos (p := p) (c := c) (x := x) with h | h
  · exact absurd h ho
  · obtain ⟨o, e⟩ : ∃ o : Nat, owner p c x = o := ⟨(owner p c x).toNat, by omega⟩
    have h2 : inside p c o = true := inside_of_owner hh (by omega) hk e
    rw [e]
    by_cases hb : o < b
    · rw [inside_end (by omega), decide_eq_false (by omega), decide_eq_true (by omega)]
      rfl
    · rw [inside_chain hh c (gS hk).1 hi h2 (by omega), decide_eq_false (by omega)]
      rfl
theorem frees_eq {p : Prg} (hh : Heads p) {b : Nat} (hb : b < p.length) : sorted (freesI p b p.length) = freesL p b := by
  unfold freesL
  apply sorted_same
  intro x hx
  unfold freesI freesRaw
  rw [mem_joined, mem_joined]
  constructor
  · rintro ⟨c, hc, hm⟩
    obtain ⟨k, hk⟩ : ∃ k, p[c]? = some k := ⟨_, gE hc⟩
    rw [mem_picked_nat] at hm
    obtain ⟨_, hm⟩ := hm
    simp only [freeI, hk, Bool.and_eq_true, decide_eq_true_eq, bne_iff_ne, ne_eq, Bool.not_eq_true'] at hm
    obtain ⟨⟨⟨h1, h2⟩, h3⟩, h4⟩ := hm
    have hge := inside_ge h1
    rw [inside_owner hh hk h1 h3] at h4
    refine ⟨c - b, by omega, ?_⟩
    rw [show b + (c - b) = c by omega]
    simp only [freeAt, hk, h1, if_true, List.mem_filter, freeIn, Bool.and_eq_true, decide_eq_true_eq]
    refine ⟨h2, ?_, by simpa using h4⟩
    rcases owner_pos (p := p) (c := c) (x := (x : Int)) with h | h
    · exact absurd h h3
    · exact h
  · rintro ⟨n, hn, hm⟩
    have hc : b + n < p.length := by omega
    obtain ⟨k, hk⟩ : ∃ k, p[b + n]? = some k := ⟨_, gE hc⟩
    simp only [freeAt, hk] at hm
    split at hm
    · rename_i hi
      simp only [List.mem_filter, freeIn, Bool.and_eq_true, decide_eq_true_eq] at hm
      obtain ⟨h2, h3, h4⟩ := hm
      refine ⟨b + n, hc, mem_picked_nat.2 ⟨hx, ?_⟩⟩
      have h5 : owner p (b + n) x ≠ -1 := by omega
      simp only [freeI, hk, hi, Bool.true_and, inside_owner hh hk hi h5, Bool.and_eq_true, decide_eq_true_eq, bne_iff_ne, ne_eq, Bool.not_not]
      exact ⟨⟨h2, h5⟩, h4⟩
    · simp at hm
theorem cells_eq {p : Prg} (hh : Heads p) {b : Nat} (h0 : 0 < b) (hb : b < p.length) : sorted (cellsI p b p.length) = sorted (cellsRaw p b (p.length - (b + 1))) := by
  apply sorted_same
  intro x hx
  unfold cellsI cellsRaw
  rw [mem_joined, mem_joined]
  constructor
  · rintro ⟨c, hc, hm⟩
    obtain ⟨k, hk⟩ : ∃ k, p[c]? = some k := ⟨_, gE hc⟩
    rw [mem_picked_nat] at hm
    obtain ⟨_, hm⟩ := hm
    simp only [cellI, hk, Bool.and_eq_true, decide_eq_true_eq, bne_iff_ne, ne_eq, beq_iff_eq] at hm
    obtain ⟨⟨h1, h2⟩, h3⟩ := hm
    have hge := inside_ge (inside_of_owner hh h0 hk h3)
    refine ⟨c - (b + 1), by omega, ?_⟩
    rw [show b + 1 + (c - (b + 1)) = c by omega]
    simp only [cellAt, hk, List.mem_filter, cellIn, beq_iff_eq]
    exact ⟨h2, h3⟩
  · rintro ⟨n, hn, hm⟩
    have hc : b + 1 + n < p.length := by omega
    obtain ⟨k, hk⟩ : ∃ k, p[b + 1 + n]? = some k := ⟨_, gE hc⟩
    simp only [cellAt, hk, List.mem_filter, cellIn, beq_iff_eq] at hm
    refine ⟨b + 1 + n, hc, mem_picked_nat.2 ⟨hx, ?_⟩⟩
    simp only [cellI, hk, Bool.and_eq_true, decide_eq_true_eq, bne_iff_ne, ne_eq, beq_iff_eq]
    exact ⟨⟨by omega, hm.1⟩, hm.2⟩
end Go.Hm
end
section
namespace Go.Hm
open Go Go.RowKit Go.ChangeShapes Go.WideShapes Go.Deep
theorem FnOk.rawG {P : Program} {gl : Nat → Option (List AV)} {f : FuncId} {az : List AV} {v0 : Value} (h : FnOk P gl f az (fun _ y _ => y = .sc v0)) {W : World} {g : Gh} {args : Array Value} (hC : ∀ b, g.C b → b < W.heap.size)
    (hgl : ∀ i row, gl i = some row → RV g W (.pointer (some ⟨i, 0, none⟩)) (.el row 0) ∧ ∀ f : Nm → Option Nm, row.map (AV.tr f) = row) (hsz : args.size = az.length)
    (hargs : ∀ (j : Nat) v x, args[j]? = some v → az[j]? = some x → RV g W v x) : Calls P f args W fun e W' => e = .returned v0 ∧ Below W.heap.size W W' := by
  have hinv : Inv (ownH g noH) g.C W g noH W := ⟨rfl, rfl, rfl, Nat.le_refl _, fun _ _ _ => rfl, rfl, hC, fun _ _ e => (by cases e), fun _ _ _ e => (by cases e), fun _ _ _ _ _ e => (by cases e)⟩
  refine (h.2 (.s 0) g.C W g args (fun _ _ => rfl) rfl (fun _ e => absurd rfl e) hinv hgl hsz hargs).mono fun e w' he => ?_
  cases e with
  | returned v =>
    obtain ⟨C', g', H', x, hA, hv, rfl⟩ := he
    refine ⟨by rw [hv.sc_eq], hA.inv.os, hA.inv.tape, hA.inv.output, hA.inv.size, fun b hb => hA.inv.keep b hb ?_⟩
    rintro ⟨n, hn, _⟩
    exact hn rfl
  | panicked ch => obtain ⟨_, _, _, _, _, _, _, _, e⟩ := he; exact e.elim
  | outgrown => exact he.elim
theorem rd_table {H : Type} {enc : TypeId × Value → H} {P : Program} {w : World} {base : Nat} {spare : Nat → Bool} {held : Bool} {m n g : Nat} {t e : TypeId} {s : String} {cs : Array Value} {l : List Int} {x : List MemPlace}
    (ht : P.underlying t = some (.array n e)) (he : P.underlying e = some (.int .i64)) (hc : P.cellsOf e = 1) (hg : P.globalNamed s = some g) (hv : w.var? P s = some cs)
    (h : DataW.trod enc P w base spare held m t cs.toList = some (.agg (l.map fun k => .lit (.int .i64 k)), x)) : ∀ i k, l[i]? = some k → w.cell? ⟨g, i, none⟩ = some (.int .i64 k) := by
  intro i k hk
  obtain ⟨xs, m1, rfl, hx, hlen, hn, hel⟩ := DataW.trod_array ht h
  simp only [Prod.mk.injEq, DataW.agg.injEq] at hx
  have hil : i < l.length := (gS hk).1
  have hxl : l.length = xs.length := by simpa using congrArg List.length hx.1
  obtain ⟨y, hy⟩ : ∃ y, xs[i]? = some y := ⟨_, gE (by omega)⟩
  have h0 := hel i (by omega)
  rw [hy, hc] at h0
  obtain ⟨k', e1, e2, _⟩ := DataW.trod_int he h0
  have h3 := congrArg (fun z => z[i]?) hx.1
  simp only [List.getElem?_map, hk, hy, Option.map_some, Option.some.injEq] at h3
  rw [e2] at h3
  have hkk : k' = k := by simpa using h3.symm
  subst hkk
  rw [World.var?_cell hg hv i]
  have e3 := congrArg (fun z => z[0]?) e1
  simp [List.getElem?_take, List.getElem?_drop] at e3
  simpa using e3
end Go.Hm
end
section
namespace Go.Hm
open Go Go.RowKit
def orows (l : List (Int × Int)) : List (List AV) := l.map fun o => [iv o.1, iv o.2]
section
variable {l m : List (Int × Int)} {o : Int × Int} {i : Nat} {f : Nm → Option Nm}
@[simp] theorem orows_len : (orows l).length = l.length := by simp [orows]
@[simp] theorem orows_getE {h : i < (orows l).length} : (orows l)[i] = [iv (l[i]'(by simpa using h)).1, iv (l[i]'(by simpa using h)).2] := by simp [orows]
@[simp] theorem orows_tr : (orows l).map (fun r => r.map (AV.tr f)) = orows l := by simp [orows]
@[simp] theorem orows_take : (orows l).take i = orows (l.take i) := by simp [orows]
@[simp] theorem orows_app : orows l ++ orows m = orows (l ++ m) := by simp [orows]
@[simp] theorem orows_nil : orows [] = [] := rfl
@[simp] theorem orows_cln : (orows l).all (fun r => r.all AV.cln) = true := by simp [orows]
theorem orows_uni : ∀ r ∈ orows l, r.length = 2 := by
  intro r hr
  obtain ⟨o, _, rfl⟩ := List.mem_map.1 hr
  rfl
abbrev osl (l : List (Int × Int)) : AV := .sl 2 (orows l)
theorem bw_ords {hp : Nm → Option AO} {n : Nm} {len : Nat} (hn : hp n = some (.row 2 (orows l))) (hl : len = l.length) : Bw hp noD (.hs n 2 0 len) (osl l) := bw_list hn (by simp [hl]) orows_uni
end
def readL (p : Prg) (b : Nat) (s : Stm) : List (Int × Int) := s.reads.map fun x => nameOp p b x 0
def workL (s : Stm) : List (Int × Int) :=
  if s.kind = 0 then [(1, s.a)] else if s.kind = 2 then [(14, 0)] else if s.kind = 3 then [(15, s.a)] else if s.kind = 4 then [(16, s.a)] else if s.kind = 5 then [(17, (s.reads.length : Int) - 1)]
  else if s.kind = 6 then [(18, s.b)] else if s.kind = 7 then [(19, 0)] else if s.kind = 8 then [(20, 0)] else []
def setL (p : Prg) (b : Nat) (s : Stm) : List (Int × Int) := if s.kind = 11 then [nameOp p b s.to 2] else if 0 ≤ s.kind ∧ s.kind ≤ 6 then [nameOp p b s.to 1] else []
def stmtL (p : Prg) (b : Nat) (s : Stm) : List (Int × Int) := (0, 0) :: (readL p b s ++ (workL s ++ setL p b s))
def bodyL (p : Prg) (b : Nat) (ss : List Stm) : List (Int × Int) := ss.flatMap (stmtL p b)
def opsL (p : Prg) (b : Nat) : List (Int × Int) := match p[b]? with | some k => bodyL p b k.body | none => []
theorem workL_len (s : Stm) : (workL s).length ≤ 1 := by
  unfold workL
  repeat' split
  all_goals simp
theorem setL_len {p : Prg} {b : Nat} {s : Stm} : (setL p b s).length ≤ 1 := by
  unfold setL
  repeat' split
  all_goals simp
theorem readL_len {p : Prg} {b : Nat} {s : Stm} : (readL p b s).length ≤ 2 := by
  have := s.reads_len
  simpa [readL] using this
theorem stmtL_len {p : Prg} {b : Nat} {s : Stm} : (stmtL p b s).length ≤ 5 := by
  have h1 := workL_len s
  have h2 := setL_len (p := p) (b := b) (s := s)
  have h3 := readL_len (p := p) (b := b) (s := s)
  simp only [stmtL, List.length_cons, List.length_append]
  omega
theorem bodyL_len {p : Prg} {b : Nat} : ∀ ss : List Stm, (bodyL p b ss).length ≤ 5 * ss.length
  | [] => by simp [bodyL]
  | s :: l => by
    have h1 := stmtL_len (p := p) (b := b) (s := s)
    have h2 := bodyL_len (p := p) (b := b) l
    simp only [bodyL, List.flatMap_cons, List.length_append, List.length_cons] at h2 ⊢
    omega
theorem bodyL_snoc {p : Prg} {b : Nat} {ss : List Stm} {s : Stm} : bodyL p b (ss ++ [s]) = bodyL p b ss ++ stmtL p b s := by simp [bodyL]
theorem bodyL_take {p : Prg} {b : Nat} {ss : List Stm} {i : Nat} {s : Stm} (h : ss[i]? = some s) : bodyL p b (ss.take (i + 1)) = bodyL p b (ss.take i) ++ stmtL p b s := by
  rw [← bodyL_snoc, List.take_add_one, h]
  rfl
def ticks (l : List (Int × Int)) : Nat := l.countP fun o => o.1 == 0
def blkAt (p : Prg) (b : Int) : Bool := progOk p && (decide (0 ≤ b) && decide (b < p.length))
theorem placeIn_at {xs : List Int} {x : Int} (h : x ∈ xs) : ∃ i : Nat, placeIn xs x = i ∧ i < xs.length ∧ xs[i]? = some x := by
  have h0 := placeIn_nonneg.2 h
  unfold placeIn at h0 ⊢
  cases hf : xs.findIdx? (· == x) with
  | none => rw [hf] at h0; simp at h0
  | some i =>
    obtain ⟨h1, h2, _⟩ := List.findIdx?_eq_some_iff_getElem.1 hf
    refine ⟨i, rfl, h1, ?_⟩
    rw [gE h1]
    simpa using h2
theorem outerF_local {p : Prg} {x : Int} {b : Nat} : ∀ (n : Nat) (j : Int), outerF p x n j = b → ∃ k, p[b]? = some k ∧ isLocal b k x = true ∧ x ∉ k.dc 9
  | 0, _, h => by simp only [outerF] at h; omega
  | n + 1, j, h => by
    simp only [outerF] at h
    split at h
    · omega
    · split at h
      · omega
      · rename_i q hq
        split at h
        · exact outerF_local n _ h
        · split at h
          · omega
          · rename_i hd
            split at h
            · rename_i hl
              have hj : j.toNat = b := by omega
              rw [hj] at hq hl
              exact ⟨q, hq, hl, hd⟩
            · exact outerF_local n _ h
theorem owner_local {p : Prg} {x : Int} {b c : Nat} (h : owner p c x = b) : ∃ k, p[b]? = some k ∧ isLocal b k x = true ∧ x ∉ k.dc 9 := by
  unfold owner at h
  split at h
  · rename_i k hk
    split at h
    · omega
    · rename_i h0
      split at h
      · rename_i hl
        obtain rfl : c = b := by omega
        exact ⟨k, hk, hl, fun hd => h0 (.inr hd)⟩
      · unfold outer at h
        split at h
        · exact outerF_local _ _ h
        · omega
  · omega
theorem owner_self {p : Prg} {x : Int} {b : Nat} {k : Blk} (hk : p[b]? = some k) (hl : isLocal b k x = true) (hd : x ∉ k.dc 9) : owner p b x = b := by
  have hb : b ≠ 0 := by
    rintro rfl
    simp [isLocal] at hl
  simp [owner, hk, hl, hd, hb]
theorem outerF_le {p : Prg} {x : Int} (hh : Heads p) : ∀ (n : Nat) (j : Int), outerF p x n j = -1 ∨ outerF p x n j ≤ j
  | 0, _ => .inl rfl
  | n + 1, j => by
    simp only [outerF]
    split
    · exact .inl rfl
    · split
      · exact .inl rfl
      · rename_i q hq
        have h1 := (hh _ q hq).2.1
        have ih := outerF_le hh (x := x) n q.parent
        split
        · rcases ih with e | e
          · exact .inl e
          · exact .inr (by omega)
        · split
          · exact .inl rfl
          · split
            · exact .inr (Int.le_refl _)
            · rcases ih with e | e
              · exact .inl e
              · exact .inr (by omega)
theorem owner_lt {p : Prg} {x : Int} {b : Nat} {k : Blk} (hh : Heads p) (hk : p[b]? = some k) (h : owner p b x ≠ b) : owner p b x < b := by
  unfold owner at h ⊢
  rw [hk] at h ⊢
  simp only at h ⊢
  split at h <;> rename_i h0
  · rw [if_pos h0]; omega
  · rw [if_neg h0]
    split at h <;> rename_i h1
    · exact absurd rfl h
    · rw [if_neg h1]
      simp only [outer, hk]
      have h2 := (hh _ k hk).2.1
      rcases outerF_le hh (x := x) b k.parent with e | e <;> omega
theorem symOf_bd {p : Prg} {b : Nat} {x : Int} : 0 ≤ symOf p b x ∧ symOf p b x ≤ 4 := by
  unfold symOf
  repeat' split
  all_goals decide
theorem sym_cell {p : Prg} {b : Nat} {x : Int} (h : symOf p b x = 3) : x ∈ cellsL p b := by
  unfold symOf at h
  split at h
  · omega
  · split at h
    · omega
    · split at h
      · omega
      · split at h
        · assumption
        · omega
theorem sym_fast {p : Prg} {b : Nat} {k : Blk} {x : Int} (hp : ShapeP p) (hk : p[b]? = some k) (hx : 0 ≤ x ∧ x ≤ 7) (h : symOf p b x = 4) : x ∈ fastsL p b := by
  have hka : kindAt p b = k.kind := by simp [kindAt, hk]
  unfold symOf at h
  split at h
  · omega
  · rename_i h1
    split at h
    · omega
    · rename_i h2
      split at h
      · omega
      · rename_i h3
        split at h
        · omega
        · rename_i h4
          have ho : owner p b x = b := by omega
          have hb : 0 < b := by
            rcases owner_pos (p := p) (c := b) (x := x) with e | e <;> omega
          obtain ⟨k', hk', hl, _⟩ := owner_local ho
          obtain rfl : k = k' := Option.some.inj (hk.symm.trans hk')
          have hhd := hp.head b k hk
          unfold HeadOk at hhd
          rw [if_neg (by omega)] at hhd
          have hk1 : kindAt p b = 1 := by omega
          unfold fastsL
          rw [if_pos hk1, mem_picked]
          refine ⟨x.toNat, by omega, ?_, by omega⟩
          have e : ((x.toNat : Nat) : Int) = x := by omega
          simp only [fastIn, hk, e, hl, h4, decide_false, Bool.not_false, Bool.and_self]
theorem sym_free {p : Prg} {b : Nat} {k : Blk} {x : Int} (hp : ShapeP p) (hk : p[b]? = some k) (hu : x ∈ k.us) (h : symOf p b x = 1) : x ∈ freesL p b ∧ x ∉ cellsL p b := by
  have hbl := (gS hk).1
  have hx : 0 ≤ x ∧ x ≤ 7 := by
    rw [Blk.us, mem_sorted] at hu
    exact hu.2
  unfold symOf at h
  split at h
  · omega
  · rename_i h1
    split at h
    rotate_left
    · split at h
      · omega
      · split at h <;> omega
    · rename_i h2
      have hpos : 0 < owner p b x := by
        rcases owner_pos (p := p) (c := b) (x := x) with e | e <;> omega
      have hlt := owner_lt hp.heads hk h2
      refine ⟨?_, fun hc => h2 ?_⟩
      · unfold freesL freesRaw
        rw [mem_sorted, mem_joined]
        refine ⟨⟨0, by omega, ?_⟩, hx⟩
        simp only [Nat.add_zero, freeAt, hk, inside_end (Int.le_refl _), decide_true, if_true, List.mem_filter, freeIn, Bool.and_eq_true, decide_eq_true_eq]
        exact ⟨hu, hpos, hlt⟩
      · unfold cellsL at hc
        split at hc
        · unfold cellsRaw at hc
          rw [mem_sorted, mem_joined] at hc
          obtain ⟨⟨m, _, hm⟩, _⟩ := hc
          unfold cellAt at hm
          split at hm
          · rw [List.mem_filter] at hm
            have ho : owner p (b + 1 + m) x = b := by simpa [cellIn] using hm.2
            obtain ⟨k', hk', hl, hd⟩ := owner_local ho
            exact owner_self hk' hl hd
          · cases hm
        · cases hc
theorem nameOp_sym {p : Prg} {b : Nat} {k : Blk} {x w : Int} (hp : ShapeP p) (hk : p[b]? = some k) (hu : x ∈ k.us) :
    (symOf p b x = 0 ∧ nameOp p b x w = (8 + w, x)) ∨ (symOf p b x = 2 ∧ nameOp p b x w = (11 + w, x)) ∨
    (symOf p b x = 4 ∧ ∃ i : Nat, nameOp p b x w = (2 + w, (i : Int)) ∧ i < (fastsL p b).length ∧ (fastsL p b)[i]? = some x) ∨
    (symOf p b x = 3 ∧ ∃ i : Nat, nameOp p b x w = (5 + w, (i : Int)) ∧ i < (cellsL p b).length ∧ (cellsL p b ++ freesL p b)[i]? = some x) ∨
    (symOf p b x = 1 ∧ ∃ i : Nat, nameOp p b x w = (5 + w, (((cellsL p b).length + i : Nat) : Int)) ∧ i < (freesL p b).length ∧ (cellsL p b ++ freesL p b)[(cellsL p b).length + i]? = some x) := by
  have hx : 0 ≤ x ∧ x ≤ 7 := by
    rw [Blk.us, mem_sorted] at hu
    exact hu.2
  obtain ⟨s0, s4⟩ := symOf_bd (p := p) (b := b) (x := x)
  by_cases e0 : symOf p b x = 0
  · exact .inl ⟨e0, by simp [nameOp, e0]⟩
  by_cases e2 : symOf p b x = 2
  · exact .inr (.inl ⟨e2, by simp [nameOp, e2]⟩)
  by_cases e4 : symOf p b x = 4
  · obtain ⟨i, h1, h2, h3⟩ := placeIn_at (sym_fast hp hk hx e4)
    exact .inr (.inr (.inl ⟨e4, i, by simp [nameOp, e4, h1], h2, h3⟩))
  by_cases e3 : symOf p b x = 3
  · have hc := sym_cell e3
    obtain ⟨i, h1, h2, h3⟩ := placeIn_at hc
    exact .inr (.inr (.inr (.inl ⟨e3, i, by simp [nameOp, e3, cellPl, hc, h1], h2, by rw [List.getElem?_append_left h2]; exact h3⟩)))
  have e1 : symOf p b x = 1 := by omega
  obtain ⟨hf, hc⟩ := sym_free hp hk hu e1
  obtain ⟨i, h1, h2, h3⟩ := placeIn_at hf
  exact .inr (.inr (.inr (.inr ⟨e1, i, by simp [nameOp, e1, cellPl, hc, h1], h2, by rw [List.getElem?_append_right (by omega)]; simpa using h3⟩)))
theorem reads_us {k : Blk} {s : Stm} {x : Int} (hn : NmOk k) (hs : s ∈ k.body) (hx : x ∈ s.reads) : x ∈ k.us := by
  have h1 := hn.reads s hs x hx
  simp only [Blk.us, mem_sorted, List.mem_append, Blk.rd, readsAll, List.mem_flatMap]
  exact ⟨.inl (.inl (.inl ⟨⟨s, hs, hx⟩, h1⟩)), h1⟩
theorem to_us {k : Blk} {s : Stm} (hn : NmOk k) (hs : s ∈ k.body) (h : s.sets ∨ s.kind = 11) : s.to ∈ k.us := by
  have h1 := hn.tos s hs
  simp only [Blk.us, mem_sorted, List.mem_append, Blk.bd, boundAll, List.mem_map, List.mem_filter, decide_eq_true_eq]
  exact ⟨.inl (.inl (.inr ⟨.inr ⟨s, ⟨hs, h⟩, rfl⟩, h1⟩)), h1⟩
end Go.Hm
end
section
namespace Go.Hm
open Go Go.RowKit
theorem orows_snoc {l : List (Int × Int)} {x y : Int} : orows l ++ [[iv x, iv y]] = orows (l ++ [(x, y)]) := by simp [orows]
structure Cod where
  kind : Int
  params : List Int
  fasts : List Int
  cells : List Int
  frees : List Int
  ops : List (Int × Int)
  deriving DecidableEq, Inhabited
def noCode : Cod := ⟨0, [], [], [], [], []⟩
@[simp] theorem noCode_kind : noCode.kind = 0 := rfl
@[simp] theorem noCode_params : noCode.params = [] := rfl
@[simp] theorem noCode_fasts : noCode.fasts = [] := rfl
@[simp] theorem noCode_cells : noCode.cells = [] := rfl
@[simp] theorem noCode_frees : noCode.frees = [] := rfl
@[simp] theorem noCode_ops : noCode.ops = [] := rfl
def codeL (p : Prg) (b : Nat) : Cod := match p[b]? with | some k => ⟨k.kind, k.params, fastsL p b, cellsL p b, freesL p b, opsL p b⟩ | none => noCode
def codeG (p : Prg) (b : Int) : Cod := if blkAt p b = true then codeL p b.toNat else noCode
def codesTo (p : Prg) (n : Nat) : List Cod := (List.range n).map (codeL p)
@[simp] theorem codesTo_zero {p : Prg} : codesTo p 0 = [] := rfl
abbrev Cod.row (c : Cod) : List AV := [iv c.kind, isl c.params, isl c.fasts, isl c.cells, isl c.frees, osl c.ops]
abbrev Cod.av (c : Cod) : AV := .agg c.row
def kcrows (cs : List Cod) : List (List AV) := cs.map Cod.row
abbrev csl (cs : List Cod) : AV := .sl 6 (kcrows cs)
def Cod.own (n : Nm) (i : Nat) (c : Cod) : List AV :=
  [iv c.kind, .hs (.c n i 1) 1 0 c.params.length, .hs (.c n i 2) 1 0 c.fasts.length, .hs (.c n i 3) 1 0 c.cells.length, .hs (.c n i 4) 1 0 c.frees.length, .hs (.c n i 5) 2 0 c.ops.length]
@[simp] theorem Cod.own_eq {n : Nm} {i : Nat} {c : Cod} : c.own n i = [iv c.kind, .hs (.c n i 1) 1 0 c.params.length, .hs (.c n i 2) 1 0 c.fasts.length, .hs (.c n i 3) 1 0 c.cells.length, .hs (.c n i 4) 1 0 c.frees.length, .hs (.c n i 5) 2 0 c.ops.length] := rfl
structure OwnK (hp : Nm → Option AO) (n : Nm) (i : Nat) (c : Cod) : Prop where
  params : hp (.c n i 1) = some (.row 1 (irows c.params))
  fasts : hp (.c n i 2) = some (.row 1 (irows c.fasts))
  cells : hp (.c n i 3) = some (.row 1 (irows c.cells))
  frees : hp (.c n i 4) = some (.row 1 (irows c.frees))
  ops : hp (.c n i 5) = some (.row 2 (orows c.ops))
def kdRows (n : Nm) (cs : List Cod) : List (List AV) := cs.mapIdx fun i c => c.own n i
structure OwnC (hp : Nm → Option AO) (n : Nm) (cs : List Cod) : Prop where
  top : hp n = some (.row 6 (kdRows n cs))
  each : ∀ (i : Nat) c, cs[i]? = some c → OwnK hp n i c
section
variable {cs : List Cod} {i a b d l : Nat} {n q k1 : Nm} {c : Cod}
@[simp] theorem kcrows_len : (kcrows cs).length = cs.length := by simp [kcrows]
@[simp] theorem kcrows_get : (kcrows cs)[i]? = (cs[i]?).map Cod.row := by simp [kcrows]
@[simp] theorem kdRows_len : (kdRows n cs).length = cs.length := by simp [kdRows]
@[simp] theorem kdRows_get : (kdRows n cs)[i]? = (cs[i]?).map (fun c => c.own n i) := by simp [kdRows]
@[simp] theorem kdRows_nil : kdRows n [] = [] := rfl
end
theorem bw_code {hp : Nm → Option AO} {n : Nm} {i : Nat} {c : Cod} (h : OwnK hp n i c) : ∀ (j : Nat) a a', (c.own n i)[j]? = some a → c.row[j]? = some a' → Bw hp noD a a'
  | 0, a, a', ha, ha' => by obtain rfl := Option.some.inj ha; obtain rfl := Option.some.inj ha'; exact .refl _
  | 1, a, a', ha, ha' => by obtain rfl := Option.some.inj ha; obtain rfl := Option.some.inj ha'; exact bw_ints h.params rfl
  | 2, a, a', ha, ha' => by obtain rfl := Option.some.inj ha; obtain rfl := Option.some.inj ha'; exact bw_ints h.fasts rfl
  | 3, a, a', ha, ha' => by obtain rfl := Option.some.inj ha; obtain rfl := Option.some.inj ha'; exact bw_ints h.cells rfl
  | 4, a, a', ha, ha' => by obtain rfl := Option.some.inj ha; obtain rfl := Option.some.inj ha'; exact bw_ints h.frees rfl
  | 5, a, a', ha, ha' => by obtain rfl := Option.some.inj ha; obtain rfl := Option.some.inj ha'; exact bw_ords h.ops rfl
  | j + 6, a, a', ha, _ => by simp [Cod.own] at ha
theorem bw_codeA {hp : Nm → Option AO} {n : Nm} {i : Nat} {c : Cod} (h : OwnK hp n i c) : Bw hp noD (.agg (c.own n i)) c.av := .agg _ _ rfl (bw_code h)
theorem bw_codes {hp : Nm → Option AO} {n : Nm} {len : Nat} {cs : List Cod} (h : OwnC hp n cs) (hl : len = cs.length) : Bw hp noD (.hs n 6 0 len) (csl cs) := by
  subst hl
  refine .hs n 6 0 cs.length (kdRows n cs) (kcrows cs) rfl h.top (by simp) (by simp) (by simp [kcrows]) fun i r r' hr hr' j a a' ha ha' => ?_
  rw [Nat.zero_add, kdRows_get] at hr
  rw [kcrows_get] at hr'
  obtain ⟨x, hx, rfl⟩ := Option.map_eq_some_iff.1 hr
  rw [hx] at hr'
  obtain rfl := Option.some.inj hr'
  exact bw_code (h.each i x hx) j a a' ha ha'
theorem OwnK.hcln {H' : Nm → Option AO} {n : Nm} {i : Nat} {c : Cod} (h : OwnK H' n i c) : OwnK (hcln H') n i c :=
  ⟨hcln_row h.params (by simp), hcln_row h.fasts (by simp), hcln_row h.cells (by simp), hcln_row h.frees (by simp), hcln_row h.ops (by simp)⟩
theorem OwnC.hcln {H' : Nm → Option AO} {n : Nm} {cs : List Cod} (h : OwnC H' n cs) : OwnC (hcln H') n cs := by
  refine ⟨hcln_row h.top ?_, fun i c hc => (h.each i c hc).hcln⟩
  simp only [kdRows, List.all_eq_true]
  intro r hr
  obtain ⟨i, hi⟩ := List.getElem?_of_mem hr
  rw [List.getElem?_mapIdx] at hi
  obtain ⟨x, _, rfl⟩ := Option.map_eq_some_iff.1 hi
  simp [Cod.own]
theorem opsL_len {p : Prg} {b : Nat} (hp : ShapeP p) : (opsL p b).length ≤ 60 := by
  unfold opsL
  split
  · rename_i k hk
    have h1 := bodyL_len (p := p) (b := b) k.body
    have h2 := hp.body k (List.mem_of_getElem? hk)
    omega
  · simp
end Go.Hm
end
