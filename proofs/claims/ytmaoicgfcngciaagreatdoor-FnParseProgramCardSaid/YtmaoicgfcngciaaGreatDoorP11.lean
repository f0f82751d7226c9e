/-
  Own texts, joined by mkclaim.py: Hm54, Hm56, Hm57, Hm58, Hm61, Hm62, Hm63, Hm64, Hm65, Hm66, Hm67, Hm70, Hm71, Hm72, Hm73, Hm74, Hm75, Hm76.
-/
import Derived.Test.YtmaoicgfcngciaaGreatDoorP10
import Derived.Test.YtmaoicgfcngciaaGreatDoorP09
import Derived.OpenShut
import Derived.FnData
import Derived.ChangeVars
set_option linter.unusedSimpArgs false
set_option linter.unusedVariables false
set_option maxRecDepth 100000
set_option maxHeartbeats 4000000

section
namespace Go.Hm
open Go Go.RowKit
structure GenP (p : Prg) : Prop where
  heads : Heads p
  len : 1 ≤ p.length ∧ p.length ≤ 8
  params : ∀ k ∈ p, k.params.length ≤ 2
  body : ∀ k ∈ p, k.body.length ≤ 14
theorem GenP.sml {p : Prg} (h : GenP p) : Sml p := ⟨by have := h.len; omega, fun k hk => by have := h.params k hk; omega, fun k hk => by have := h.body k hk; omega⟩
theorem GenP.one {k : Blk} (h : k.parent = -1) (hp : k.params.length ≤ 2) (hb : k.body.length ≤ 14) : GenP [k] := by
  refine ⟨fun i q hq => ?_, by simp, fun q hq => ?_, fun q hq => ?_⟩
  · cases i with
    | zero =>
      simp at hq
      subst hq
      omega
    | succ i => simp at hq
  all_goals
    simp at hq
    subst hq
    assumption
theorem GenP.add {p : Prg} {k : Blk} (h : GenP p) (hl : p.length ≤ 7) (hp : 0 ≤ k.parent ∧ k.parent < p.length) (h1 : k.params.length ≤ 2) (h2 : k.body.length ≤ 14) : GenP (p ++ [k]) := by
  refine ⟨fun i q hq => ?_, by simp; omega, fun q hq => ?_, fun q hq => ?_⟩
  · rw [List.getElem?_append] at hq
    split at hq
    · exact h.heads i q hq
    · rename_i hi
      have : i - p.length = 0 := by
        refine Nat.eq_zero_of_not_pos fun hlt => ?_
        obtain ⟨m, hm⟩ : ∃ m, i - p.length = m + 1 := ⟨i - p.length - 1, by omega⟩
        rw [hm] at hq
        simp at hq
      rw [this] at hq
      simp at hq
      subst hq
      omega
  · rcases List.mem_append.1 hq with hq | hq
    · exact h.params q hq
    · simp at hq; subst hq; exact h1
  · rcases List.mem_append.1 hq with hq | hq
    · exact h.body q hq
    · simp at hq; subst hq; exact h2
theorem setBody_mem {p : Prg} {i : Nat} {L : List Stm} {q : Blk} (h : q ∈ setBody p i L) : ∃ r ∈ p, q.params = r.params ∧ (q.body = r.body ∨ q.body = L) := by
  obtain ⟨c, hc⟩ := List.getElem?_of_mem h
  cases hr : p[c]? with
  | none =>
    have := (gS hc).1
    rw [setBody_len] at this
    rw [gE this] at hr
    cases hr
  | some r =>
    rw [setBody_get hr] at hc
    refine ⟨r, List.mem_of_getElem? hr, ?_⟩
    split at hc
    · obtain rfl := Option.some.inj hc
      exact ⟨rfl, .inr rfl⟩
    · obtain rfl := Option.some.inj hc
      exact ⟨rfl, .inl rfl⟩
theorem setBody_heads {p : Prg} {i : Nat} {L : List Stm} (h : Heads p) : Heads (setBody p i L) := by
  intro c q hq
  cases hr : p[c]? with
  | none =>
    have := (gS hq).1
    rw [setBody_len] at this
    rw [gE this] at hr
    cases hr
  | some r =>
    have := h c r hr
    rw [setBody_get hr] at hq
    split at hq <;> obtain rfl := Option.some.inj hq <;> exact this
theorem GenP.setBody {p : Prg} {i : Nat} {L : List Stm} (h : GenP p) (hL : L.length ≤ 14) : GenP (setBody p i L) := by
  refine ⟨setBody_heads h.heads, by simpa using h.len, fun q hq => ?_, fun q hq => ?_⟩
  · obtain ⟨r, hr, h1, _⟩ := setBody_mem hq
    rw [h1]; exact h.params r hr
  · obtain ⟨r, hr, _, h2⟩ := setBody_mem hq
    rcases h2 with h2 | h2
    · rw [h2]; exact h.body r hr
    · rw [h2]; exact hL
theorem GenP.bare {p : Prg} (h : GenP p) : GenP (bareP p) := by
  refine ⟨fun i q hq => ?_, by simpa [bareP] using h.len, fun q hq => ?_, fun q hq => ?_⟩
  · simp only [bareP, List.getElem?_map] at hq
    obtain ⟨r, hr, rfl⟩ := Option.map_eq_some_iff.1 hq
    exact h.heads i r hr
  · obtain ⟨r, hr, rfl⟩ := List.mem_map.1 hq
    exact h.params r hr
  · obtain ⟨r, hr, rfl⟩ := List.mem_map.1 hq
    exact Nat.le_trans bareS_len (h.body r hr)
def PrgPost (bs : List Int) (Q : Prg → Nat → Prop) : Nm → AV → (Nm → Option AO) → Prop := fun r z H' => ∃ (p : Prg) (pos' : Nat), z = .agg [.hs r 4 0 p.length] ∧ OwnP H' r p ∧ Q p pos' ∧ H' (.u 1 0 0) = some (rdO bs pos')
end Go.Hm
end
section
namespace Go.Hm
open Go Go.RowKit
structure Free (k : Blk) (y : Int) : Prop where
  rd : y ∉ readsAll k.body
  bd : y ∉ boundAll k
  d9 : y ∉ declAll k 9
  d10 : y ∉ declAll k 10
theorem Free.of {k : Blk} {y : Int} (hy : 0 ≤ y ∧ y ≤ 7) (h : y ∉ k.us) : Free k y := by
  simp only [Blk.us, mem_sorted, List.mem_append, Blk.rd, Blk.bd, Blk.dc, hy, and_true, true_and, not_or] at h
  exact ⟨h.1.1.1, h.1.1.2, h.1.2, h.2⟩
section
variable {k : Blk} {x y z : Int} (hx : 0 ≤ x ∧ x ≤ 7) (hy : 0 ≤ y ∧ y ≤ 7) (hxy : x ≠ y) (hf : Free k y)
include hx hy hxy hf
end
theorem swapI_back {n x y : Int} (h : n ≠ y) : swapI (swapI n x y) y x = n := by
  unfold swapI
  split
  · rename_i e; simp [e]
  · simp [h]
theorem Stm.ren_back {k : Blk} {s : Stm} {x y : Int} (hx : 0 ≤ x) (hy : 0 ≤ y) (hn : NmOk k) (hf : Free k y) (hs : s ∈ k.body) : (s.ren x y).ren y x = s := by
  have hk := hn.kinds s hs
  have hrd : ∀ z ∈ s.reads, z ≠ y := fun z hz e => hf.rd (List.mem_flatMap.2 ⟨s, hs, e ▸ hz⟩)
  have hto : s.sets ∨ 9 ≤ s.kind → s.to ≠ y := by
    intro h e
    by_cases h9 : s.kind = 9
    · exact hf.d9 (List.mem_map.2 ⟨s, List.mem_filter.2 ⟨hs, by simp [h9]⟩, e⟩)
    · by_cases h10 : s.kind = 10
      · exact hf.d10 (List.mem_map.2 ⟨s, List.mem_filter.2 ⟨hs, by simp [h10]⟩, e⟩)
      · refine hf.bd (List.mem_append.2 (.inr (List.mem_map.2 ⟨s, List.mem_filter.2 ⟨hs, ?_⟩, e⟩)))
        simp only [decide_eq_true_eq]
        rcases h with h | h
        · exact .inl h
        · exact .inr (by omega)
  obtain ⟨c, t, a, b⟩ := s
  simp only [Stm.reads] at hrd
  simp only at hto hk
  simp only [Stm.ren, Stm.mk.injEq, true_and]
  refine ⟨?_, ?_, ?_⟩
  · split
    · rename_i h
      exact swapI_back (hto h)
    · rfl
  · split
    · rename_i h
      refine swapI_back (hrd a ?_)
      rcases h with rfl | rfl | rfl | rfl | rfl | rfl <;> simp
      split <;> simp
    · rfl
  · split
    · rename_i h
      by_cases hb : b = -1
      · subst hb
        have e1 : swapI (-1) x y = -1 := by unfold swapI; rw [if_neg (by omega)]
        have e2 : swapI (-1) y x = -1 := by unfold swapI; rw [if_neg (by omega)]
        rw [e1, e2]
      · refine swapI_back (hrd b ?_)
        have h1 : ¬ (c = 1 ∨ c = 6 ∨ c = 7 ∨ c = 8) := by omega
        rcases h with rfl | rfl
        · simp
        · simp [hb]
    · rfl
theorem Blk.ren_back {k : Blk} {x y : Int} (hx : 0 ≤ x) (hy : 0 ≤ y) (hn : NmOk k) (hf : Free k y) : (k.ren x y).ren y x = k := by
  obtain ⟨c, u, ps, ss⟩ := k
  simp only [Blk.ren, List.map_map, Blk.mk.injEq, true_and]
  refine ⟨?_, ?_⟩
  · conv => rhs; rw [← List.map_id ps]
    refine List.map_congr_left fun n h => ?_
    have : n ≠ y := fun e => hf.bd (by simp [boundAll, ← e, h])
    simp [swapI_back this]
  · conv => rhs; rw [← List.map_id ss]
    refine List.map_congr_left fun s h => ?_
    exact Stm.ren_back hx hy hn hf h
structure RenH (p : Prg) (b : Nat) (x y : Int) : Prop where
  sh : ShapeP p
  made : ∀ i, 0 < i → i < p.length → madeIn p i = 1
  decl : ∀ (c : Nat) k, 0 < c → p[c]? = some k → ∀ n : Nat, n < 8 → declOk p c k n = true
  hb : 0 < b
  hbl : b < p.length
  hx : 0 ≤ x ∧ x ≤ 7
  hy : 0 ≤ y ∧ y ≤ 7
  hxy : x ≠ y
  fn : ∀ k, p[b]? = some k → k.kind = 1
  loc : ∀ k, p[b]? = some k → isLocal b k x = true
  free : ∀ (c : Nat) k, p[c]? = some k → inside p c b = true → Free k y
theorem progOk_parts {p : Prg} (hs : Sml p) (h : progOk p = true) : ShapeP p ∧ (∀ i, 0 < i → i < p.length → madeIn p i = 1) ∧ (∀ (c : Nat) k, 0 < c → p[c]? = some k → ∀ n : Nat, n < 8 → declOk p c k n = true) := by
  simp only [progOk, Bool.and_eq_true] at h
  refine ⟨ShapeP.of hs h.1, (shapeOk_heads h.1).2.2.2.2, fun c k h0 hk n hn => ?_⟩
  have := List.all_eq_true.1 h.2 c (List.mem_range.2 (gS hk).1)
  have h0' : (c == 0) = false := by simp; omega
  rw [h0', Bool.false_or] at this
  simp only [declsOk, hk] at this
  exact List.all_eq_true.1 this n (List.mem_range.2 hn)
theorem inside_ge {p : Prg} {c b : Int} (h : inside p c b = true) : b ≤ c := by
  by_cases e : c ≤ b
  · rw [inside_end e] at h
    simp at h
    omega
  · omega
theorem RenH.of {p : Prg} {b : Nat} {x y : Int} (hs : Sml p) (h : renOk p b x y = true) : RenH p b x y := by
  simp only [renOk, Bool.and_eq_true, decide_eq_true_eq, bne_iff_ne, ne_eq] at h
  obtain ⟨⟨⟨⟨⟨h1, h2⟩, h3⟩, h4⟩, h5⟩, h6⟩ := h
  obtain ⟨a1, a2, a3⟩ := progOk_parts hs h1
  have hbl : b < p.length := by omega
  obtain ⟨kb, hkb⟩ : ∃ k, p[b]? = some k := ⟨_, gE hbl⟩
  simp only [renAt, Int.toNat_natCast, hkb, Bool.and_eq_true, beq_iff_eq, Bool.not_eq_true'] at h6
  obtain ⟨⟨h7, h8⟩, h9⟩ := h6
  have h0 : 0 < b := by
    rcases Nat.eq_zero_or_pos b with e | e
    · subst e
      have := a1.fun0 kb hkb
      exact absurd h7 this
    · exact e
  refine ⟨a1, a2, a3, h0, hbl, h3, h4, h5, fun k hk => ?_, fun k hk => ?_, fun c k hk hi => ?_⟩
  · rw [hkb] at hk; cases hk; exact h7
  · rw [hkb] at hk; cases hk; exact h8
  · apply Free.of h4
    intro hm
    have hc := (gS hk).1
    have hge := inside_ge hi
    have : clash p b y = true := by
      refine List.any_eq_true.2 ⟨c, List.mem_range.2 hc, ?_⟩
      simp only [clashAt, hk, hi, hm, decide_true, Bool.and_true, decide_eq_true_eq]
      omega
    rw [this] at h9
    cases h9
section
variable {p : Prg} {b : Nat} {x y : Int} (H : RenH p b x y)
include H
omit H in
theorem renS_blk {c : Nat} {k : Blk} (hk : p[c]? = some k) : (renS (touches p b x) x y p)[c]? = some (renIf (touches p b x c) x y k) := by
  rw [renS_get, hk]; rfl
theorem RenH.heads : Heads (renS (touches p b x) x y p) := by
  intro i q hq
  rw [renS_get] at hq
  cases hk : p[i]? with
  | none => rw [hk] at hq; cases hq
  | some k =>
    rw [hk] at hq
    simp only [Option.map_some, Option.some.injEq] at hq
    have e : q.parent = k.parent := by subst hq; unfold renIf; split <;> rfl
    rw [e]
    exact H.sh.heads i k hk
omit H in
theorem renIf_kind {c : Bool} {k : Blk} : (renIf c x y k).kind = k.kind := by unfold renIf; split <;> rfl
omit H in
theorem renIf_parent {c : Bool} {k : Blk} : (renIf c x y k).parent = k.parent := by unfold renIf; split <;> rfl
theorem RenH.walk {z w : Int} (stop : Nat → Prop)
    (hst : ∀ (j : Nat) k, p[j]? = some k → 0 < j → k.kind = 1 → stop j →
      (z ∈ (renIf (touches p b x j) x y k).dc 9 ↔ w ∈ k.dc 9) ∧ isLocal j (renIf (touches p b x j) x y k) z = isLocal j k w)
    (hup : ∀ (j : Nat) k, p[j]? = some k → 0 < j → stop j → (k.kind = 1 → w ∉ k.dc 9 ∧ isLocal j k w = false) → stop k.parent.toNat) :
    ∀ n : Nat, n < p.length → stop n → outerF (renS (touches p b x) x y p) z p.length n = outerF p w p.length n := by
  intro n
  induction n using Nat.strongRecOn with
  | ind n ih =>
    intro hn hs
    rcases Nat.eq_zero_or_pos n with e | e
    · subst e
      rw [outerF_end (by simp), outerF_end (by simp)]
    · obtain ⟨k, hk⟩ : ∃ k, p[n]? = some k := ⟨_, gE hn⟩
      obtain ⟨g1, g2, g3⟩ := H.sh.heads n k hk
      have g4 := g3 e
      have hq := renS_blk (b := b) (x := x) (y := y) hk
      have h1 := outerF_step (x := z) H.heads hq e
      rw [renS_len] at h1
      rw [h1, outerF_step (x := w) H.sh.heads hk e, renIf_kind, renIf_parent]
      obtain ⟨m, hm⟩ : ∃ m : Nat, k.parent = m := ⟨k.parent.toNat, by omega⟩
      have key : (k.kind = 1 → w ∉ k.dc 9 ∧ isLocal n k w = false) → outerF (renS (touches p b x) x y p) z p.length k.parent = outerF p w p.length k.parent := by
        intro h
        have := ih m (by omega) (by omega) (by have := hup n k hk e hs h; rw [hm] at this; simpa using this)
        rw [hm]; exact this
      by_cases hk1 : k.kind = 1
      · obtain ⟨f1, f2⟩ := hst n k hk e hk1 hs
        have hk2 : ¬ (k.kind ≠ 1) := fun h => h hk1
        rw [if_neg hk2, if_neg hk2, f2]
        by_cases h9 : w ∈ k.dc 9
        · rw [if_pos h9, if_pos (f1.2 h9)]
        · rw [if_neg h9, if_neg (fun h => h9 (f1.1 h))]
          cases hl : isLocal n k w with
          | true => rfl
          | false =>
            simp only [Bool.false_eq_true, if_false]
            exact key fun _ => ⟨h9, hl⟩
      · rw [if_pos hk1, if_pos hk1]
        exact key fun h => absurd h hk1
end
end Go.Hm
end
section
namespace Go.Hm
open Go Go.RowKit
def picked (f : Nat → Bool) : Nat → List Int
  | 0 => []
  | n + 1 => if f n = true then picked f n ++ [(n : Int)] else picked f n
def joined (g : Nat → List Int) : Nat → List Int
  | 0 => []
  | n + 1 => joined g n ++ g n
def freeIn (p : Prg) (b c : Nat) (x : Int) : Bool := decide (0 < owner p c x) && decide (owner p c x < b)
def freeAt (p : Prg) (b c : Nat) : List Int := match p[c]? with
  | some k => if inside p c b = true then k.us.filter (freeIn p b c) else []
  | none => []
def freesRaw (p : Prg) (b : Nat) : Nat → List Int := joined fun i => freeAt p b (b + i)
def freesL (p : Prg) (b : Nat) : List Int := sorted (freesRaw p b (p.length - b))
def cellIn (p : Prg) (b c : Nat) (x : Int) : Bool := owner p c x == b
def cellAt (p : Prg) (b c : Nat) : List Int := match p[c]? with
  | some k => k.us.filter (cellIn p b c)
  | none => []
def cellsRaw (p : Prg) (b : Nat) : Nat → List Int := joined fun i => cellAt p b (b + 1 + i)
def kindAt (p : Prg) (b : Nat) : Int := match p[b]? with | some k => k.kind | none => -1
def cellsL (p : Prg) (b : Nat) : List Int := if kindAt p b = 1 then sorted (cellsRaw p b (p.length - (b + 1))) else []
def fastIn (p : Prg) (b : Nat) (x : Nat) : Bool := match p[b]? with
  | some k => isLocal b k x && !decide ((x : Int) ∈ cellsL p b)
  | none => false
def fastsL (p : Prg) (b : Nat) : List Int := if kindAt p b = 1 then picked (fastIn p b) 8 else []
def symOf (p : Prg) (b : Nat) (x : Int) : Int :=
  if owner p b x < 0 then 0 else if owner p b x ≠ b then 1 else if kindAt p b = 2 then 2 else if x ∈ cellsL p b then 3 else 4
def cellPl (p : Prg) (b : Nat) (x : Int) : Int := if x ∈ cellsL p b then placeIn (cellsL p b) x else (cellsL p b).length + placeIn (freesL p b) x
def nameOp (p : Prg) (b : Nat) (x w : Int) : Int × Int :=
  if symOf p b x = 0 then (8 + w, x) else if symOf p b x = 2 then (11 + w, x) else if symOf p b x = 4 then (2 + w, placeIn (fastsL p b) x) else (5 + w, cellPl p b x)
end Go.Hm
end
section
namespace Go.Hm
open Go Go.RowKit Go.ChangeShapes Go.WideShapes Go.Deep
theorem FnOk.rawG {P : Program} {gl : Nat → Option (List AV)} {f : FuncId} {az : List AV} {v0 : Value} (h : FnOk P gl f az (fun _ y _ => y = .sc v0)) {W : World} {g : Gh} {args : Array Value} (hC : ∀ b, g.C b → b < W.heap.size)
    (hgl : ∀ i row, gl i = some row → RV g W (.pointer (some ⟨i, 0, none⟩)) (.el row 0) ∧ ∀ f : Nm → Option Nm, row.map (AV.tr f) = row) (hsz : args.size = az.length)
    (hargs : ∀ (j : Nat) v x, args[j]? = some v → az[j]? = some x → RV g W v x) : Calls P f args W fun e W' => e = .returned v0 ∧ Below W.heap.size W W' := by
  have hinv : Inv (ownH g noH) g.C W g noH W := ⟨rfl, rfl, rfl, Nat.le_refl _, fun _ _ _ => rfl, rfl, hC, fun _ _ e => (by cases e), fun _ _ _ e => (by cases e), fun _ _ _ _ _ e => (by cases e)⟩
  refine (h.2 (.s 0) g.C W g args (fun _ _ => rfl) rfl (fun _ e => absurd rfl e) hinv hgl hsz hargs).mono fun e w' he => ?_
  cases e with
  | returned v =>
    obtain ⟨C', g', H', x, hA, hv, rfl⟩ := he
    refine ⟨by rw [hv.sc_eq], hA.inv.os, hA.inv.tape, hA.inv.output, hA.inv.size, fun b hb => hA.inv.keep b hb ?_⟩
    rintro ⟨n, hn, _⟩
    exact hn rfl
  | panicked ch => obtain ⟨_, _, _, _, _, _, _, _, e⟩ := he; exact e.elim
  | outgrown => exact he.elim
end Go.Hm
end
section
namespace Go.Hm
open Go Go.RowKit
def orows (l : List (Int × Int)) : List (List AV) := l.map fun o => [iv o.1, iv o.2]
section
variable {l m : List (Int × Int)} {o : Int × Int} {i : Nat} {f : Nm → Option Nm}
@[simp] theorem orows_len : (orows l).length = l.length := by simp [orows]
@[simp] theorem orows_nil : orows [] = [] := rfl
@[simp] theorem orows_cln : (orows l).all (fun r => r.all AV.cln) = true := by simp [orows]
theorem orows_uni : ∀ r ∈ orows l, r.length = 2 := by
  intro r hr
  obtain ⟨o, _, rfl⟩ := List.mem_map.1 hr
  rfl
abbrev osl (l : List (Int × Int)) : AV := .sl 2 (orows l)
theorem bw_ords {hp : Nm → Option AO} {n : Nm} {len : Nat} (hn : hp n = some (.row 2 (orows l))) (hl : len = l.length) : Bw hp noD (.hs n 2 0 len) (osl l) := bw_list hn (by simp [hl]) orows_uni
end
def readL (p : Prg) (b : Nat) (s : Stm) : List (Int × Int) := s.reads.map fun x => nameOp p b x 0
def workL (s : Stm) : List (Int × Int) :=
  if s.kind = 0 then [(1, s.a)] else if s.kind = 2 then [(14, 0)] else if s.kind = 3 then [(15, s.a)] else if s.kind = 4 then [(16, s.a)] else if s.kind = 5 then [(17, (s.reads.length : Int) - 1)]
  else if s.kind = 6 then [(18, s.b)] else if s.kind = 7 then [(19, 0)] else if s.kind = 8 then [(20, 0)] else []
def setL (p : Prg) (b : Nat) (s : Stm) : List (Int × Int) := if s.kind = 11 then [nameOp p b s.to 2] else if 0 ≤ s.kind ∧ s.kind ≤ 6 then [nameOp p b s.to 1] else []
def stmtL (p : Prg) (b : Nat) (s : Stm) : List (Int × Int) := (0, 0) :: (readL p b s ++ (workL s ++ setL p b s))
def bodyL (p : Prg) (b : Nat) (ss : List Stm) : List (Int × Int) := ss.flatMap (stmtL p b)
def opsL (p : Prg) (b : Nat) : List (Int × Int) := match p[b]? with | some k => bodyL p b k.body | none => []
def ticks (l : List (Int × Int)) : Nat := l.countP fun o => o.1 == 0
theorem owner_self {p : Prg} {x : Int} {b : Nat} {k : Blk} (hk : p[b]? = some k) (hl : isLocal b k x = true) (hd : x ∉ k.dc 9) : owner p b x = b := by
  have hb : b ≠ 0 := by
    rintro rfl
    simp [isLocal] at hl
  simp [owner, hk, hl, hd, hb]
end Go.Hm
end
section
namespace Go.Hm
open Go Go.RowKit
structure Cod where
  kind : Int
  params : List Int
  fasts : List Int
  cells : List Int
  frees : List Int
  ops : List (Int × Int)
  deriving DecidableEq, Inhabited
def noCode : Cod := ⟨0, [], [], [], [], []⟩
@[simp] theorem noCode_kind : noCode.kind = 0 := rfl
@[simp] theorem noCode_params : noCode.params = [] := rfl
@[simp] theorem noCode_fasts : noCode.fasts = [] := rfl
@[simp] theorem noCode_cells : noCode.cells = [] := rfl
@[simp] theorem noCode_frees : noCode.frees = [] := rfl
@[simp] theorem noCode_ops : noCode.ops = [] := rfl
def codeL (p : Prg) (b : Nat) : Cod := match p[b]? with | some k => ⟨k.kind, k.params, fastsL p b, cellsL p b, freesL p b, opsL p b⟩ | none => noCode
def codesTo (p : Prg) (n : Nat) : List Cod := (List.range n).map (codeL p)
@[simp] theorem codesTo_zero {p : Prg} : codesTo p 0 = [] := rfl
abbrev Cod.row (c : Cod) : List AV := [iv c.kind, isl c.params, isl c.fasts, isl c.cells, isl c.frees, osl c.ops]
abbrev Cod.av (c : Cod) : AV := .agg c.row
def kcrows (cs : List Cod) : List (List AV) := cs.map Cod.row
abbrev csl (cs : List Cod) : AV := .sl 6 (kcrows cs)
def Cod.own (n : Nm) (i : Nat) (c : Cod) : List AV :=
  [iv c.kind, .hs (.c n i 1) 1 0 c.params.length, .hs (.c n i 2) 1 0 c.fasts.length, .hs (.c n i 3) 1 0 c.cells.length, .hs (.c n i 4) 1 0 c.frees.length, .hs (.c n i 5) 2 0 c.ops.length]
@[simp] theorem Cod.own_eq {n : Nm} {i : Nat} {c : Cod} : c.own n i = [iv c.kind, .hs (.c n i 1) 1 0 c.params.length, .hs (.c n i 2) 1 0 c.fasts.length, .hs (.c n i 3) 1 0 c.cells.length, .hs (.c n i 4) 1 0 c.frees.length, .hs (.c n i 5) 2 0 c.ops.length] := rfl
structure OwnK (hp : Nm → Option AO) (n : Nm) (i : Nat) (c : Cod) : Prop where
  params : hp (.c n i 1) = some (.row 1 (irows c.params))
  fasts : hp (.c n i 2) = some (.row 1 (irows c.fasts))
  cells : hp (.c n i 3) = some (.row 1 (irows c.cells))
  frees : hp (.c n i 4) = some (.row 1 (irows c.frees))
  ops : hp (.c n i 5) = some (.row 2 (orows c.ops))
def kdRows (n : Nm) (cs : List Cod) : List (List AV) := cs.mapIdx fun i c => c.own n i
structure OwnC (hp : Nm → Option AO) (n : Nm) (cs : List Cod) : Prop where
  top : hp n = some (.row 6 (kdRows n cs))
  each : ∀ (i : Nat) c, cs[i]? = some c → OwnK hp n i c
section
variable {cs : List Cod} {i a b d l : Nat} {n q k1 : Nm} {c : Cod}
@[simp] theorem kcrows_len : (kcrows cs).length = cs.length := by simp [kcrows]
@[simp] theorem kcrows_get : (kcrows cs)[i]? = (cs[i]?).map Cod.row := by simp [kcrows]
@[simp] theorem kdRows_len : (kdRows n cs).length = cs.length := by simp [kdRows]
@[simp] theorem kdRows_get : (kdRows n cs)[i]? = (cs[i]?).map (fun c => c.own n i) := by simp [kdRows]
@[simp] theorem kdRows_nil : kdRows n [] = [] := rfl
end
theorem bw_code {hp : Nm → Option AO} {n : Nm} {i : Nat} {c : Cod} (h : OwnK hp n i c) : ∀ (j : Nat) a a', (c.own n i)[j]? = some a → c.row[j]? = some a' → Bw hp noD a a'
  | 0, a, a', ha, ha' => by obtain rfl := Option.some.inj ha; obtain rfl := Option.some.inj ha'; exact .refl _
  | 1, a, a', ha, ha' => by obtain rfl := Option.some.inj ha; obtain rfl := Option.some.inj ha'; exact bw_ints h.params rfl
  | 2, a, a', ha, ha' => by obtain rfl := Option.some.inj ha; obtain rfl := Option.some.inj ha'; exact bw_ints h.fasts rfl
  | 3, a, a', ha, ha' => by obtain rfl := Option.some.inj ha; obtain rfl := Option.some.inj ha'; exact bw_ints h.cells rfl
  | 4, a, a', ha, ha' => by obtain rfl := Option.some.inj ha; obtain rfl := Option.some.inj ha'; exact bw_ints h.frees rfl
  | 5, a, a', ha, ha' => by obtain rfl := Option.some.inj ha; obtain rfl := Option.some.inj ha'; exact bw_ords h.ops rfl
  | j + 6, a, a', ha, _ => by simp [Cod.own] at ha
theorem bw_codeA {hp : Nm → Option AO} {n : Nm} {i : Nat} {c : Cod} (h : OwnK hp n i c) : Bw hp noD (.agg (c.own n i)) c.av := .agg _ _ rfl (bw_code h)
theorem bw_codes {hp : Nm → Option AO} {n : Nm} {len : Nat} {cs : List Cod} (h : OwnC hp n cs) (hl : len = cs.length) : Bw hp noD (.hs n 6 0 len) (csl cs) := by
  subst hl
  refine .hs n 6 0 cs.length (kdRows n cs) (kcrows cs) rfl h.top (by simp) (by simp) (by simp [kcrows]) fun i r r' hr hr' j a a' ha ha' => ?_
  rw [Nat.zero_add, kdRows_get] at hr
  rw [kcrows_get] at hr'
  obtain ⟨x, hx, rfl⟩ := Option.map_eq_some_iff.1 hr
  rw [hx] at hr'
  obtain rfl := Option.some.inj hr'
  exact bw_code (h.each i x hx) j a a' ha ha'
theorem OwnK.hcln {H' : Nm → Option AO} {n : Nm} {i : Nat} {c : Cod} (h : OwnK H' n i c) : OwnK (hcln H') n i c :=
  ⟨hcln_row h.params (by simp), hcln_row h.fasts (by simp), hcln_row h.cells (by simp), hcln_row h.frees (by simp), hcln_row h.ops (by simp)⟩
theorem OwnC.hcln {H' : Nm → Option AO} {n : Nm} {cs : List Cod} (h : OwnC H' n cs) : OwnC (hcln H') n cs := by
  refine ⟨hcln_row h.top ?_, fun i c hc => (h.each i c hc).hcln⟩
  simp only [kdRows, List.all_eq_true]
  intro r hr
  obtain ⟨i, hi⟩ := List.getElem?_of_mem hr
  rw [List.getElem?_mapIdx] at hi
  obtain ⟨x, _, rfl⟩ := Option.map_eq_some_iff.1 hi
  simp [Cod.own]
section
variable {X : Ctx} {st : St} {K : St → Prop} {E : AV → St → Prop} {dst : Option Nat} {f f' : FuncId} {args : Array Operand} {Ts : Array TypeId} {ty : TypeId} {pos : String} {aft : Array Edge} {g : Option (Nat × Bool)} {P : Program} {gl : Nat → Option (List AV)} {az : List AV} {R : Nm → AV → (Nm → Option AO) → Prop}
theorem o_idc (_hF : FnOk P gl f' az R) (_hf : f = f') (h : SemOp X ⟨dst, .call ⟨.value (.func f), args, Ts⟩, ty, pos, aft, g⟩ K E st) : SemOp X ⟨dst, .call ⟨.value (.func f), args, Ts⟩, ty, pos, aft, g⟩ K E st := h
end
def AV.isHs : AV → Bool
  | .hs _ _ _ _ => true
  | _ => false
@[simp] theorem isHs_hs {n : Nm} {z lo len : Nat} : (AV.hs n z lo len).isHs = true := rfl
@[simp] theorem isHs_sc {v : Value} : (AV.sc v).isHs = false := rfl
section
variable {X : Ctx} {st st' : St} {K : St → Prop} {E : AV → St → Prop} {d : Nat} {ty : TypeId} {pos : String} {aft : Array Edge} {g : Option (Nat × Bool)}
theorem x_appendM {T F : TypeId} {s x : Operand} {z len : Nat} {n : Nm} {rows0 rows2 : List (List AV)} (hd : d < X.n := by first | (simp; done) | fail) (hT : tapp X.P T = some F := by simp [fx]; first | done | rfl) (hz : tsz X.P F = z := by simp [fx]; first | done | rfl) (hs : ev st s = .hs n z 0 len := by simp [fx]; first | done | rfl | exact ⟨rfl, rfl⟩ | exact ⟨rfl, rfl, rfl⟩)
    (hn : st.hp n = some (.row z rows0) := by simp [fx]; first | done | rfl) (hle : len ≤ rows0.length := by first | (simp [fx]; done) | (simp [fx]; omega) | omega)
    (hx : srcRows st z (ev st x) = some rows2 := by simp [fx]; first | done | rfl) (hm : (rows2.any fun r => r.any AV.isHs) = true := by first | (simp; done) | fail) (hlen : len + rows2.length ≤ 4294967296 := by first | (simp [fx]; done) | (simp [fx]; omega) | omega)
    (hq : Hm.canon (prcL (.s d) len rows2) ((apSt d z (len + rows2.length) (some n) (rows0.take len ++ rows2) st).mvc n (.s d)) = st' := by simp [fx]; first | done | rfl | exact (Bool.not_not _).symm) (h : K st') :
    SemOp X ⟨some d, .call ⟨.builtin .append, #[s, x], #[T, T]⟩, ty, pos, aft, g⟩ K E st := o_appendC hd hT hz hs hn hle hx hlen hq h
end
section
variable {X : Ctx} {st : St} {K : St → Prop} {E : AV → St → Prop} {d : Nat} {ty : TypeId} {pos : String} {aft : Array Edge} {g : Option (Nat × Bool)} {f : Nat} {args : Array Operand} {Ts : Array TypeId} {az avs : List AV}
theorem kx_call {x : AV} (hd : d < X.n := by first | (simp; done) | fail) (ha : args.toList.map (ev st) = avs := by simp [fx]; first | done | rfl | exact (Bool.not_not _).symm)
    (hB : BwL st.hp noD avs az := by
      first
      | ((repeat' (first | exact .nil | refine .cons ?_ ?_ | exact .refl _ | exact bw_ints (by simp [fx]; first | done | rfl) (by first | (simp [fx]; done) | (simp [fx]; omega) | omega) | exact bw_list (by simp [fx]; first | done | rfl) (by first | (simp [fx]; done) | (simp [fx]; omega) | omega) (by first | (simp; done) | fail) | exact bw_ords (by simp [fx]; first | done | rfl) (by first | (simp [fx]; done) | (simp [fx]; omega) | omega) | exact bw_stms (by simp [fx]; first | done | rfl) (by first | (simp [fx]; done) | (simp [fx]; omega) | omega) | exact bw_scopes ⟨(by first | (simp [hc1]; done) | fail), fun j k hj hk => (by first | (simp [hc2 j k hj hk]; done) | fail)⟩ hh rfl | exact bw_sc ⟨(by first | (simp [hc1]; done) | fail), fun j k hj hk => (by first | (simp [hc2 j k hj hk]; done) | fail)⟩ hh hk | exact bw_agg1 (bw_prog ⟨(by first | (simp [a1]; done) | fail), fun j r hj => (by first | (simp [a2 j r hj]; done) | fail), fun j r hj => (by first | (simp [a3 j r hj]; done) | fail)⟩ rfl) | exact bw_agg1 (bw_prog ⟨(by first | (simp [b1]; done) | fail), fun j r hj => (by first | (simp [b2 j r hj]; done) | fail), fun j r hj => (by first | (simp [b3 j r hj]; done) | fail)⟩ rfl) | exact bw_agg1 (bw_prog ⟨(by first | (simp [ho1]; done) | fail), fun j r hj => (by first | (simp [ho2 j r hj]; done) | fail), fun j r hj => (by first | (simp [ho3 j r hj]; done) | fail)⟩ rfl) | exact bw_codeA ⟨(by first | (simp [o1]; done) | fail), (by first | (simp [o2]; done) | fail), (by first | (simp [o3]; done) | fail), (by first | (simp [o4]; done) | fail), (by first | (simp [o5]; done) | fail)⟩ | exact bw_codeA ⟨(by first | (simp [q1]; done) | fail), (by first | (simp [q2]; done) | fail), (by first | (simp [q3]; done) | fail), (by first | (simp [q4]; done) | fail), (by first | (simp [q5]; done) | fail)⟩ | exact bw_codes ⟨(by first | (simp [kt]; done) | fail), fun i c hc => ⟨(by first | (simp [(ke i c hc).params]; done) | fail), (by first | (simp [(ke i c hc).fasts]; done) | fail), (by first | (simp [(ke i c hc).cells]; done) | fail), (by first | (simp [(ke i c hc).frees]; done) | fail), (by first | (simp [(ke i c hc).ops]; done) | fail)⟩⟩ rfl | exact bw_codes ⟨(by first | (simp [mt]; done) | fail), fun i c hc => ⟨(by first | (simp [(me i c hc).params]; done) | fail), (by first | (simp [(me i c hc).fasts]; done) | fail), (by first | (simp [(me i c hc).cells]; done) | fail), (by first | (simp [(me i c hc).frees]; done) | fail), (by first | (simp [(me i c hc).ops]; done) | fail)⟩⟩ rfl | exact bw_codes ⟨(by first | (simp [nt]; done) | fail), fun i c hc => ⟨(by first | (simp [(ne i c hc).params]; done) | fail), (by first | (simp [(ne i c hc).fasts]; done) | fail), (by first | (simp [(ne i c hc).cells]; done) | fail), (by first | (simp [(ne i c hc).frees]; done) | fail), (by first | (simp [(ne i c hc).ops]; done) | fail)⟩⟩ rfl)); done)
      | fail)
    (hF : FnOk X.P X.gl f az (fun _ y _ => y = x)) (hc : x.cln = true := by first | (simp [fx]; done) | fail) (h : K ((st.kill (.s d)).put (some d) x)) :
    SemOp X ⟨some d, .call ⟨.value (.func f), args, Ts⟩, ty, pos, aft, g⟩ K E st := o_call hd ha hB hF hc h
theorem kx_callh {z n : Nat} {rows : List (List AV)} (hd : d < X.n := by first | (simp; done) | fail) (ha : args.toList.map (ev st) = avs := by simp [fx]; first | done | rfl | exact (Bool.not_not _).symm)
    (hB : BwL st.hp noD avs az := by
      first
      | ((repeat' (first | exact .nil | refine .cons ?_ ?_ | exact .refl _ | exact bw_ints (by simp [fx]; first | done | rfl) (by first | (simp [fx]; done) | (simp [fx]; omega) | omega) | exact bw_list (by simp [fx]; first | done | rfl) (by first | (simp [fx]; done) | (simp [fx]; omega) | omega) (by first | (simp; done) | fail) | exact bw_ords (by simp [fx]; first | done | rfl) (by first | (simp [fx]; done) | (simp [fx]; omega) | omega) | exact bw_stms (by simp [fx]; first | done | rfl) (by first | (simp [fx]; done) | (simp [fx]; omega) | omega) | exact bw_scopes ⟨(by first | (simp [hc1]; done) | fail), fun j k hj hk => (by first | (simp [hc2 j k hj hk]; done) | fail)⟩ hh rfl | exact bw_sc ⟨(by first | (simp [hc1]; done) | fail), fun j k hj hk => (by first | (simp [hc2 j k hj hk]; done) | fail)⟩ hh hk | exact bw_agg1 (bw_prog ⟨(by first | (simp [a1]; done) | fail), fun j r hj => (by first | (simp [a2 j r hj]; done) | fail), fun j r hj => (by first | (simp [a3 j r hj]; done) | fail)⟩ rfl) | exact bw_agg1 (bw_prog ⟨(by first | (simp [b1]; done) | fail), fun j r hj => (by first | (simp [b2 j r hj]; done) | fail), fun j r hj => (by first | (simp [b3 j r hj]; done) | fail)⟩ rfl) | exact bw_agg1 (bw_prog ⟨(by first | (simp [ho1]; done) | fail), fun j r hj => (by first | (simp [ho2 j r hj]; done) | fail), fun j r hj => (by first | (simp [ho3 j r hj]; done) | fail)⟩ rfl) | exact bw_codeA ⟨(by first | (simp [o1]; done) | fail), (by first | (simp [o2]; done) | fail), (by first | (simp [o3]; done) | fail), (by first | (simp [o4]; done) | fail), (by first | (simp [o5]; done) | fail)⟩ | exact bw_codeA ⟨(by first | (simp [q1]; done) | fail), (by first | (simp [q2]; done) | fail), (by first | (simp [q3]; done) | fail), (by first | (simp [q4]; done) | fail), (by first | (simp [q5]; done) | fail)⟩ | exact bw_codes ⟨(by first | (simp [kt]; done) | fail), fun i c hc => ⟨(by first | (simp [(ke i c hc).params]; done) | fail), (by first | (simp [(ke i c hc).fasts]; done) | fail), (by first | (simp [(ke i c hc).cells]; done) | fail), (by first | (simp [(ke i c hc).frees]; done) | fail), (by first | (simp [(ke i c hc).ops]; done) | fail)⟩⟩ rfl | exact bw_codes ⟨(by first | (simp [mt]; done) | fail), fun i c hc => ⟨(by first | (simp [(me i c hc).params]; done) | fail), (by first | (simp [(me i c hc).fasts]; done) | fail), (by first | (simp [(me i c hc).cells]; done) | fail), (by first | (simp [(me i c hc).frees]; done) | fail), (by first | (simp [(me i c hc).ops]; done) | fail)⟩⟩ rfl | exact bw_codes ⟨(by first | (simp [nt]; done) | fail), fun i c hc => ⟨(by first | (simp [(ne i c hc).params]; done) | fail), (by first | (simp [(ne i c hc).fasts]; done) | fail), (by first | (simp [(ne i c hc).cells]; done) | fail), (by first | (simp [(ne i c hc).frees]; done) | fail), (by first | (simp [(ne i c hc).ops]; done) | fail)⟩⟩ rfl)); done)
      | fail)
    (hF : FnOk X.P X.gl f az (fun r y H' => y = .hs r z 0 n ∧ H' r = some (.row z rows))) (hc : rows.all (fun r => r.all AV.cln) = true := by first | (simp; done) | fail)
    (h : K (((st.kill (.s d)).setO (.s d) (.row z rows)).put (some d) (.hs (.s d) z 0 n))) : SemOp X ⟨some d, .call ⟨.value (.func f), args, Ts⟩, ty, pos, aft, g⟩ K E st := o_callh hd ha hB hF hc h
theorem kx_callg {R : Nm → AV → (Nm → Option AO) → Prop} (hd : d < X.n := by first | (simp; done) | fail) (ha : args.toList.map (ev st) = avs := by simp [fx]; first | done | rfl | exact (Bool.not_not _).symm)
    (hB : BwL st.hp noD avs az := by
      first
      | ((repeat' (first | exact .nil | refine .cons ?_ ?_ | exact .refl _ | exact bw_ints (by simp [fx]; first | done | rfl) (by first | (simp [fx]; done) | (simp [fx]; omega) | omega) | exact bw_list (by simp [fx]; first | done | rfl) (by first | (simp [fx]; done) | (simp [fx]; omega) | omega) (by first | (simp; done) | fail) | exact bw_ords (by simp [fx]; first | done | rfl) (by first | (simp [fx]; done) | (simp [fx]; omega) | omega) | exact bw_stms (by simp [fx]; first | done | rfl) (by first | (simp [fx]; done) | (simp [fx]; omega) | omega) | exact bw_scopes ⟨(by first | (simp [hc1]; done) | fail), fun j k hj hk => (by first | (simp [hc2 j k hj hk]; done) | fail)⟩ hh rfl | exact bw_sc ⟨(by first | (simp [hc1]; done) | fail), fun j k hj hk => (by first | (simp [hc2 j k hj hk]; done) | fail)⟩ hh hk | exact bw_agg1 (bw_prog ⟨(by first | (simp [a1]; done) | fail), fun j r hj => (by first | (simp [a2 j r hj]; done) | fail), fun j r hj => (by first | (simp [a3 j r hj]; done) | fail)⟩ rfl) | exact bw_agg1 (bw_prog ⟨(by first | (simp [b1]; done) | fail), fun j r hj => (by first | (simp [b2 j r hj]; done) | fail), fun j r hj => (by first | (simp [b3 j r hj]; done) | fail)⟩ rfl) | exact bw_agg1 (bw_prog ⟨(by first | (simp [ho1]; done) | fail), fun j r hj => (by first | (simp [ho2 j r hj]; done) | fail), fun j r hj => (by first | (simp [ho3 j r hj]; done) | fail)⟩ rfl) | exact bw_codeA ⟨(by first | (simp [o1]; done) | fail), (by first | (simp [o2]; done) | fail), (by first | (simp [o3]; done) | fail), (by first | (simp [o4]; done) | fail), (by first | (simp [o5]; done) | fail)⟩ | exact bw_codeA ⟨(by first | (simp [q1]; done) | fail), (by first | (simp [q2]; done) | fail), (by first | (simp [q3]; done) | fail), (by first | (simp [q4]; done) | fail), (by first | (simp [q5]; done) | fail)⟩ | exact bw_codes ⟨(by first | (simp [kt]; done) | fail), fun i c hc => ⟨(by first | (simp [(ke i c hc).params]; done) | fail), (by first | (simp [(ke i c hc).fasts]; done) | fail), (by first | (simp [(ke i c hc).cells]; done) | fail), (by first | (simp [(ke i c hc).frees]; done) | fail), (by first | (simp [(ke i c hc).ops]; done) | fail)⟩⟩ rfl | exact bw_codes ⟨(by first | (simp [mt]; done) | fail), fun i c hc => ⟨(by first | (simp [(me i c hc).params]; done) | fail), (by first | (simp [(me i c hc).fasts]; done) | fail), (by first | (simp [(me i c hc).cells]; done) | fail), (by first | (simp [(me i c hc).frees]; done) | fail), (by first | (simp [(me i c hc).ops]; done) | fail)⟩⟩ rfl | exact bw_codes ⟨(by first | (simp [nt]; done) | fail), fun i c hc => ⟨(by first | (simp [(ne i c hc).params]; done) | fail), (by first | (simp [(ne i c hc).fasts]; done) | fail), (by first | (simp [(ne i c hc).cells]; done) | fail), (by first | (simp [(ne i c hc).frees]; done) | fail), (by first | (simp [(ne i c hc).ops]; done) | fail)⟩⟩ rfl)); done)
      | fail)
    (hF : FnOk X.P X.gl f az R) (h : ∀ y H', R (.s d) y H' → y.cln = true ∧ K (((st.kill (.s d)).addH d (hcln H')).put (some d) y)) :
    SemOp X ⟨some d, .call ⟨.value (.func f), args, Ts⟩, ty, pos, aft, g⟩ K E st := o_callg hd ha hB hF h
end
structure KTag (p : Prop) : Prop where
  h : p
theorem k_run {G G' : Prop} (k : G') (h : KTag G' → G := by
  intro kk
  repeat' (first
    | refine w_seq ?_ | refine w_block ?_ | refine w_skip ?_ | refine w_label ?_ | refine w_reg fun K hK => ?_
    | ((with_reducible refine s_end hK ?_); clear hK K) | (with_reducible refine s_end hK ?_)
    | (with_reducible first | refine then_normal ?_ | refine in_normal ?_ | refine then_exit ?_ | refine in_exit ?_ | refine then_ret ?_ | refine in_ret ?_ | refine s_nil ?_ | refine in_other (by decide) ?_)
    | refine w_exit ?_
    | refine w_ret ?_
    | (with_reducible refine s_none ?_)
    | ((with_reducible refine g_id ?_); refine x_guard (h := ?_))
    | (with_reducible first | refine gx_tt ?_ | refine gx_ff ?_ | refine x_tf (h := ?_) | refine x_ft (h := ?_) | refine x_u (h := ?_) | refine x_assign (h := ?_) | refine x_box (h := ?_) | refine x_alloc (h := ?_) | refine x_store0 (h := ?_) | refine x_append0 (h := ?_) | refine x_appendM (h := ?_) | refine x_append (h := ?_) | refine x_store (h := ?_) | refine x_make (h := ?_) | refine x_build (h := ?_))
    | ((with_reducible refine o_idc c1 rfl ?_); refine kx_call (hF := c1) (h := ?_))
    | ((with_reducible refine o_idc c2 rfl ?_); refine kx_call (hF := c2) (h := ?_))
    | ((with_reducible refine o_idc c3 rfl ?_); refine kx_call (hF := c3) (h := ?_))
    | ((with_reducible refine o_idc c4 rfl ?_); refine kx_call (hF := c4) (h := ?_))
    | ((with_reducible refine o_idc c5 rfl ?_); refine kx_call (hF := c5) (h := ?_))
    | ((with_reducible refine o_idc c6 rfl ?_); refine kx_call (hF := c6) (h := ?_))
    | ((with_reducible refine o_idc d1 rfl ?_); refine kx_callh (hF := d1) (h := ?_))
    | ((with_reducible refine o_idc d2 rfl ?_); refine kx_callh (hF := d2) (h := ?_))
    | ((with_reducible refine o_idc d3 rfl ?_); refine kx_callh (hF := d3) (h := ?_))
    | ((with_reducible refine o_idc d4 rfl ?_); refine kx_callh (hF := d4) (h := ?_))
    | ((with_reducible refine o_idc e1 rfl ?_); refine kx_callg (hF := e1) (h := ?_))
    | ((with_reducible refine o_idc e2 rfl ?_); refine kx_callg (hF := e2) (h := ?_))
    | (with_reducible refine x_q (h := ?_))
    | (with_reducible refine gx_s (fun ht => ?_) (fun ht => ?_))
    | refine x_condt (h1 := ?_) | refine x_condf (h1 := ?_)
    | ((with_reducible refine a_end hK ?_); clear hK K) | (with_reducible refine a_end hK ?_)
    | ((with_reducible refine a_id ?_); first | refine xa_q (h := ?_) | refine xa_qt (h := ?_) | refine xa_qf (h := ?_) | refine xa_qu (h := ?_))
    | ((with_reducible refine a_id ?_); refine xa_gq (h1 := fun ht => ?_) (h2 := fun ht => ?_))
    | refine a_l rfl ?_ | refine a_l2 ?_ ?_ | (with_reducible refine And.intro ?_ ?_) | exact st_nil | refine xa_st (h2 := ?_)
    | fail)
  first | exact kk.h | (revert hK; revert K; exact kk.h)) : G := h ⟨k⟩
theorem k_rund {G G' : Prop} (k : G') (h : KTag G' → G := by
  intro kk K hK
  repeat' (first
    | refine w_seq ?_ | refine w_block ?_ | refine w_skip ?_ | refine w_label ?_ | refine w_reg fun K hK => ?_
    | ((with_reducible refine s_end hK ?_); clear hK K) | (with_reducible refine s_end hK ?_)
    | (with_reducible first | refine then_normal ?_ | refine in_normal ?_ | refine then_exit ?_ | refine in_exit ?_ | refine then_ret ?_ | refine in_ret ?_ | refine s_nil ?_ | refine in_other (by decide) ?_)
    | refine w_exit ?_
    | refine w_ret ?_
    | (with_reducible refine s_none ?_)
    | ((with_reducible refine g_id ?_); refine x_guard (h := ?_))
    | (with_reducible first | refine gx_tt ?_ | refine gx_ff ?_ | refine x_tf (h := ?_) | refine x_ft (h := ?_) | refine x_u (h := ?_) | refine x_assign (h := ?_) | refine x_box (h := ?_) | refine x_alloc (h := ?_) | refine x_store0 (h := ?_) | refine x_append0 (h := ?_) | refine x_appendM (h := ?_) | refine x_append (h := ?_) | refine x_store (h := ?_) | refine x_make (h := ?_) | refine x_build (h := ?_))
    | ((with_reducible refine o_idc c1 rfl ?_); refine kx_call (hF := c1) (h := ?_))
    | ((with_reducible refine o_idc c2 rfl ?_); refine kx_call (hF := c2) (h := ?_))
    | ((with_reducible refine o_idc c3 rfl ?_); refine kx_call (hF := c3) (h := ?_))
    | ((with_reducible refine o_idc c4 rfl ?_); refine kx_call (hF := c4) (h := ?_))
    | ((with_reducible refine o_idc c5 rfl ?_); refine kx_call (hF := c5) (h := ?_))
    | ((with_reducible refine o_idc c6 rfl ?_); refine kx_call (hF := c6) (h := ?_))
    | ((with_reducible refine o_idc d1 rfl ?_); refine kx_callh (hF := d1) (h := ?_))
    | ((with_reducible refine o_idc d2 rfl ?_); refine kx_callh (hF := d2) (h := ?_))
    | ((with_reducible refine o_idc d3 rfl ?_); refine kx_callh (hF := d3) (h := ?_))
    | ((with_reducible refine o_idc d4 rfl ?_); refine kx_callh (hF := d4) (h := ?_))
    | ((with_reducible refine o_idc e1 rfl ?_); refine kx_callg (hF := e1) (h := ?_))
    | ((with_reducible refine o_idc e2 rfl ?_); refine kx_callg (hF := e2) (h := ?_))
    | (with_reducible refine x_q (h := ?_))
    | (with_reducible refine gx_s (fun ht => ?_) (fun ht => ?_))
    | refine x_condt (h1 := ?_) | refine x_condf (h1 := ?_)
    | ((with_reducible refine a_end hK ?_); clear hK K) | (with_reducible refine a_end hK ?_)
    | ((with_reducible refine a_id ?_); first | refine xa_q (h := ?_) | refine xa_qt (h := ?_) | refine xa_qf (h := ?_) | refine xa_qu (h := ?_))
    | ((with_reducible refine a_id ?_); refine xa_gq (h1 := fun ht => ?_) (h2 := fun ht => ?_))
    | refine a_l rfl ?_ | refine a_l2 ?_ ?_ | (with_reducible refine And.intro ?_ ?_) | exact st_nil | refine xa_st (h2 := ?_)
    | fail)
  first | exact kk.h | (revert hK; revert K; exact kk.h)) : G := h ⟨k⟩
end Go.Hm
end
section
namespace Go.Hm
open Go Go.RowKit Go.ChangeShapes Go.WideShapes Go.Deep
end Go.Hm
end
section
namespace Go.Hm
open Go Go.RowKit
abbrev Val := Int × Int
abbrev Slt := Option Val
structure Act where
  blk : Nat
  up : Nat
  vars : List Slt
structure Wld where
  acts : List Act
  stack : List Nat
  globals : List Slt
  funs : List (Nat × Nat)
  classes : List (List Slt)
  out : List Int
  trace : List (Nat × Nat)
  en : Int
  left : Nat
abbrev noSlots : List Slt := List.replicate 8 none
def shown (v : Val) : Int := if v.1 = 1 then v.2 else if v.1 = 2 then -2 else if v.1 = 3 then -3 else -1
def Wld.blk (w : Wld) (at' : Nat) : Nat := match w.acts[at']? with | some a => a.blk | none => 0
def climb (acts : List Act) (o : Nat) : Nat → Nat → Nat
  | 0, a => a
  | n + 1, a => match acts[a]? with | some c => if c.blk = o then a else climb acts o n c.up | none => a
def Wld.loc (p : Prg) (w : Wld) (at' : Nat) (x : Int) : Option Nat := if owner p (w.blk at') x < 0 then none else some (climb w.acts (owner p (w.blk at') x).toNat at' at')
def Wld.vars (w : Wld) : Option Nat → List Slt
  | none => w.globals
  | some i => match w.acts[i]? with | some a => a.vars | none => []
def Wld.get (w : Wld) (l : Option Nat) (x : Int) : Slt := match (w.vars l)[x.toNat]? with | some s => s | none => none
def Wld.set (w : Wld) (l : Option Nat) (x : Int) (s : Slt) : Wld := match l with
  | none => { w with globals := w.globals.set x.toNat s }
  | some i => { w with acts := w.acts.modify i fun a => { a with vars := a.vars.set x.toNat s } }
def lack (p : Prg) (b : Nat) (o : Int) : Int := if o < 0 ∨ (o = b ∧ kindAt p b = 2) then 4 else if o = b then 2 else 3
def loadW (p : Prg) (w : Wld) (at' : Nat) (x : Int) : Wld × Val :=
  match w.get (w.loc p at' x) x with
  | some v => (w, v)
  | none =>
    if lack p (w.blk at') (owner p (w.blk at') x) = 4 then
      match w.get none x with
      | some v => (w, v)
      | none => if x = 7 then (w, (1, 70)) else ({ w with en := 4 }, (0, 0))
    else ({ w with en := lack p (w.blk at') (owner p (w.blk at') x) }, (0, 0))
def loadsW (p : Prg) (w : Wld) (at' : Nat) : List Int → Wld × List Val
  | [] => (w, [])
  | x :: l => if w.en ≠ 0 then (w, []) else
    ((loadsW p (loadW p w at' x).1 at' l).1, (loadW p w at' x).2 :: (loadsW p (loadW p w at' x).1 at' l).2)
def plusW (w : Wld) (a b : Val) : Wld × Val := if a.1 ≠ 1 ∨ b.1 ≠ 1 then ({ w with en := 5 }, (0, 0)) else (w, (1, (a.2 + b.2).tmod 1000))
def attrW (w : Wld) (v : Val) (x : Int) : Wld × Val := if v.1 ≠ 3 then ({ w with en := 5 }, (0, 0)) else
  match w.classes[v.2.toNat]? with
  | some c => match c[x.toNat]? with
    | some (some u) => (w, u)
    | _ => ({ w with en := 7 }, (0, 0))
  | none => ({ w with en := 7 }, (0, 0))
def bindP (ps : List Int) (vs : List Val) : List Slt := (ps.zip vs).foldl (fun l q => l.set q.1.toNat (some q.2)) noSlots
def beginW (p : Prg) (w : Wld) (b up : Nat) (vs : List Val) : Wld :=
  { w with acts := w.acts ++ [⟨b, up, bindP (match p[b]? with | some k => k.params | none => []) vs⟩], stack := w.stack ++ [w.acts.length] }
def endW (w : Wld) : Wld := if w.en = 0 then { w with stack := w.stack.dropLast } else w
def parN (p : Prg) (b : Nat) : Nat := match p[b]? with | some k => k.params.length | none => 0
section
variable (p : Prg) (R : Wld → Nat → Wld × Val)
def enterW (w : Wld) (b up : Nat) (vs : List Val) : Wld × Val := (endW (R (beginW p w b up vs) w.acts.length).1, (R (beginW p w b up vs) w.acts.length).2)
def callW (w : Wld) (f : Val) (vs : List Val) : Wld × Val := if f.1 ≠ 2 then ({ w with en := 5 }, (0, 0)) else
  match w.funs[f.2.toNat]? with
  | some g => if parN p g.1 ≠ vs.length then ({ w with en := 6 }, (0, 0)) else enterW p R w g.1 g.2 vs
  | none => (w, (0, 0))
def classW (w : Wld) (b at' : Nat) : Wld × Val :=
  if (enterW p R w b at' []).1.en ≠ 0 then ((enterW p R w b at' []).1, (0, 0)) else
  ({ (enterW p R w b at' []).1 with classes := (enterW p R w b at' []).1.classes ++ [(enterW p R w b at' []).1.vars (some w.acts.length)] }, (3, ((enterW p R w b at' []).1.classes.length : Int)))
def workW (w : Wld) (at' : Nat) (s : Stm) (vs : List Val) : Wld × Val :=
  if s.kind = 0 then (w, (1, s.a)) else if s.kind = 2 then plusW w (vs.getD 0 (0, 0)) (vs.getD 1 (0, 0))
  else if s.kind = 3 then ({ w with funs := w.funs ++ [(s.a.toNat, at')] }, (2, (w.funs.length : Int)))
  else if s.kind = 4 then classW p R w s.a.toNat at' else if s.kind = 5 then callW p R w (vs.getD 0 (0, 0)) vs.tail
  else if s.kind = 6 then attrW w (vs.getD 0 (0, 0)) s.b else (w, vs.getD 0 (0, 0))
def valueW (w : Wld) (at' : Nat) (s : Stm) : Wld × Val :=
  if (loadsW p w at' s.reads).1.en ≠ 0 then ((loadsW p w at' s.reads).1, (0, 0)) else workW p R (loadsW p w at' s.reads).1 at' s (loadsW p w at' s.reads).2
end
theorem StmOk.made {p : Prg} {b : Nat} {k : Blk} {s : Stm} (h : StmOk p b k s = true) (hk : s.kind = 3 ∨ s.kind = 4) : ∃ q, p[s.a.toNat]? = some q ∧ q.parent = b ∧ 0 < s.a ∧ q.kind = s.kind - 2 := by
  have key : ∀ d, madeAs p b s.a d = true → ∃ q, p[s.a.toNat]? = some q ∧ q.parent = b ∧ 0 < s.a ∧ q.kind = d := by
    intro d hm
    simp only [madeAs, Bool.and_eq_true, decide_eq_true_eq] at hm
    obtain ⟨⟨h1, h2⟩, h3⟩ := hm
    split at h3
    · rename_i q hq
      simp only [Bool.and_eq_true, beq_iff_eq] at h3
      exact ⟨q, hq, h3.2, by omega, h3.1⟩
    · cases h3
  rcases hk with e | e
  · simp only [StmOk, e] at h
    simp at h
    obtain ⟨q, h1, h2, h3, h4⟩ := key 1 h.2.2
    exact ⟨q, h1, h2, h3, by rw [h4, e]; rfl⟩
  · simp only [StmOk, e] at h
    simp at h
    obtain ⟨q, h1, h2, h3, h4⟩ := key 2 h.2.2
    exact ⟨q, h1, h2, h3, by rw [h4, e]; rfl⟩
theorem StmOk.num {p : Prg} {b : Nat} {k : Blk} {s : Stm} (h : StmOk p b k s = true) (hk : s.kind = 0) : 0 ≤ s.a ∧ s.a ≤ 99 := by
  simp only [StmOk, hk] at h
  simp at h
  omega
theorem StmOk.print {p : Prg} {R : Wld → Nat → Wld × Val} {w : Wld} {a : Nat} {s : Stm} (h : s.kind = 7) : valueW p R w a s = if (loadsW p w a s.reads).1.en ≠ 0 then ((loadsW p w a s.reads).1, (0, 0)) else ((loadsW p w a s.reads).1, (loadsW p w a s.reads).2.getD 0 (0, 0)) := by
  simp [valueW, workW, h]
end Go.Hm
end
section
namespace Go.Hm
open Go Go.RowKit
def slotC (s : Slt) : List AV := match s with | some v => [bv true, iv v.1, iv v.2] | none => [bv false, iv 0, iv 0]
@[simp] theorem slotC_none : slotC none = [bv false, iv 0, iv 0] := rfl
@[simp] theorem slotC_some {v : Val} : slotC (some v) = [bv true, iv v.1, iv v.2] := rfl
def slrows (l : List Slt) : List (List AV) := l.map slotC
section
variable {l : List Slt} {i : Nat} {f : Nm → Option Nm} {s : Slt}
@[simp] theorem slrows_nil : slrows [] = [] := rfl
end
def vrows (l : List Val) : List (List AV) := l.map fun v => [iv v.1, iv v.2]
section
variable {l m : List Val} {i : Nat} {f : Nm → Option Nm} {v : Val}
@[simp] theorem vrows_nil : vrows [] = [] := rfl
end
def nrows (l : List (Nat × Nat)) : List (List AV) := l.map fun v => [iv v.1, iv v.2]
section
variable {l m : List (Nat × Nat)} {i : Nat} {f : Nm → Option Nm}
@[simp] theorem nrows_nil : nrows [] = [] := rfl
end
section
variable {az : List Act} {cs : List (List Slt)} {fs : List (Nat × Nat)} {n m : Nm} {i : Nat} {f : Nm → Option Nm}
end
section
variable {l : Option Nat} {d : Nat}
end
abbrev NMap := List (Int × Val)
abbrev Val.av (v : Val) : AV := .agg [iv v.1, iv v.2]
def mrows (ms : NMap) : List (AV × AV) := ms.map fun q => (iv q.1, Val.av q.2)
section
variable {ms : NMap} {n m : Int} {v : Val} {f : Nm → Option Nm}
@[simp] theorem mrows_nil : mrows [] = [] := rfl
end
section
variable {X : Ctx} {st : St} {K : St → Prop} {E : AV → St → Prop} {d : Nat} {ty : TypeId} {pos : String} {aft : Array Edge} {g : Option (Nat × Bool)}
end
abbrev En (i : Nat) : Nm := .u 7 i 0
abbrev ptE (i : Nat) : AV := .pt (En i) 0
end Go.Hm
end
section
namespace Go.Hm
open Go Go.RowKit
def Du (f : Nat → Bool) : Nm → Bool
  | .s _ => false
  | .u k _ _ => f k
  | .c n _ _ => Du f n
section
variable {f : Nat → Bool} {n : Nm} {k i j d : Nat}
@[simp] theorem Du_s : Du f (.s d) = false := rfl
@[simp] theorem Du_u : Du f (.u k i j) = f k := rfl
@[simp] theorem Du_c : Du f (.c n i j) = Du f n := rfl
end
section
variable {X : Ctx} {st : St} {K : St → Prop} {E : AV → St → Prop} {d f : Nat} {ty : TypeId} {pos : String} {aft : Array Edge} {g : Option (Nat × Bool)} {c : Operand} {args : Array Operand} {Ts : Array TypeId} {xs ys az : List AV} {R : Nm → AV → (Nm → Option AO) → Prop}
end
end Go.Hm
end
section
set_option linter.unusedSectionVars false
namespace Go.Hm
open Go Go.RowKit
structure Pre (q : Bool) (w w' : Wld) : Prop where
  funs : w.funs <+: w'.funs
  cls : w.classes <+: w'.classes
  out : w.out <+: w'.out
  tr : w.trace <+: w'.trace
  left : q = true → w'.left ≤ w.left
theorem Pre.refl {q : Bool} (w : Wld) : Pre q w w := ⟨List.prefix_refl _, List.prefix_refl _, List.prefix_refl _, List.prefix_refl _, fun _ => Nat.le_refl _⟩
theorem Pre.trans {q : Bool} {w w' w'' : Wld} (h : Pre q w w') (h' : Pre q w' w'') : Pre q w w'' := ⟨h.funs.trans h'.funs, h.cls.trans h'.cls, h.out.trans h'.out, h.tr.trans h'.tr, fun e => Nat.le_trans (h'.left e) (h.left e)⟩
theorem Pre.weak {q : Bool} {w w' : Wld} (h : Pre q w w') : Pre false w w' := ⟨h.funs, h.cls, h.out, h.tr, fun e => by cases e⟩
theorem Pre.en {q : Bool} {w w' : Wld} (h : Pre q w w') {e : Int} : Pre q w { w' with en := e } := ⟨h.funs, h.cls, h.out, h.tr, h.left⟩
theorem Pre.set {q : Bool} {w : Wld} {l : Option Nat} {x : Int} {s : Slt} : Pre q w (w.set l x s) := by cases l <;> exact ⟨List.prefix_refl _, List.prefix_refl _, List.prefix_refl _, List.prefix_refl _, fun _ => Nat.le_refl _⟩
section
variable {p : Prg} {R : Wld → Nat → Wld × Val} {w : Wld} {a b i : Nat} {x : Int} {vs : List Val} {s : Stm} {v : Val} {q : Bool}
variable (hR : ∀ w a, Pre q w (R w a).1)
include hR
end
def addF (k : Nat) (w : Wld) : Wld := { w with left := w.left + k }
structure Lock2 (k : Nat) (w w' : Wld) : Prop where
  en : w.en = 1
  left : w.left = 0
  pre : Pre false w w'
  more : 0 < k → w.trace.length < w'.trace.length
theorem Lock2.trans {k : Nat} {w w' w'' : Wld} (h : Lock2 k w w') {q : Bool} (h' : Pre q w' w'') : Lock2 k w w'' := ⟨h.en, h.left, h.pre.trans h'.weak, fun hk => Nat.lt_of_lt_of_le (h.more hk) h'.tr.length_le⟩
def Lock (k : Nat) (r r' : Wld × Val) : Prop := (r.1.en ≠ 1 ∧ r' = (addF k r.1, r.2)) ∨ Lock2 k r.1 r'.1
section
variable {p : Prg} {R : Wld → Nat → Wld × Val} {k n : Nat} {w : Wld} {a b i : Nat} {x : Int} {l : Option Nat} {vs : List Val} {s : Stm} {v : Val}
@[simp] theorem addF_loc : (addF k w).loc p a x = w.loc p a x := rfl
@[simp] theorem addF_blk : (addF k w).blk a = w.blk a := rfl
@[simp] theorem addF_en : (addF k w).en = w.en := rfl
variable (hP : ∀ w a, Pre true w (R w a).1) (hR : ∀ w a, w.left + k < n → w.en = 0 → Lock k (R w a) (R (addF k w) a))
include hP hR
end
end Go.Hm
end
section
namespace Go.Hm
open Go Go.RowKit
section
variable {p : Prg} {R : Wld → Nat → Wld × Val} {n : Nat} {w : Wld} {a b i : Nat} {x : Int} {vs : List Val} {s : Stm} {v : Val} {k : Blk}
def one (b : Prop) [Decidable b] : Nat := if b then 1 else 0
end
end Go.Hm
end
