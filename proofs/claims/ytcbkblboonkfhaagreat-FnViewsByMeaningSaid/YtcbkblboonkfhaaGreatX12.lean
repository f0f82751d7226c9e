/-
  Own texts, joined by mkclaim.py: Hm54, Hm55, Hm56, Hm57, Hm58, Hm60, Hm61, Hm62, Hm63, Hm64, Hm65, Hm66, Hm67.
-/
import Derived.Test.YtcbkblboonkfhaaGreatX11
import Derived.OpenShut
import Derived.FnData
import Derived.Test.YtcbkblboonkfhaaGreatX10
import Derived.ChangeVars
set_option linter.unusedSimpArgs false
set_option linter.unusedVariables false
set_option maxRecDepth 100000
set_option maxHeartbeats 4000000

section
namespace Go.Hm
open Go Go.RowKit
structure GenP (p : Prg) : Prop where
  heads : Heads p
  len : 1 ≤ p.length ∧ p.length ≤ 8
  params : ∀ k ∈ p, k.params.length ≤ 2
  body : ∀ k ∈ p, k.body.length ≤ 14
theorem GenP.sml {p : Prg} (h : GenP p) : Sml p := ⟨by have := h.len; omega, fun k hk => by have := h.params k hk; omega, fun k hk => by have := h.body k hk; omega⟩
theorem GenP.one {k : Blk} (h : k.parent = -1) (hp : k.params.length ≤ 2) (hb : k.body.length ≤ 14) : GenP [k] := by
  refine ⟨fun i q hq => ?_, by simp, fun q hq => ?_, fun q hq => ?_⟩
  · cases i with
    | zero =>
      simp at hq
      subst hq
      omega
    | succ i => simp at hq
  all_goals
    simp at hq
    subst hq
    assumption
theorem GenP.add {p : Prg} {k : Blk} (h : GenP p) (hl : p.length ≤ 7) (hp : 0 ≤ k.parent ∧ k.parent < p.length) (h1 : k.params.length ≤ 2) (h2 : k.body.length ≤ 14) : GenP (p ++ [k]) := by
  refine ⟨fun i q hq => ?_, by simp; omega, fun q hq => ?_, fun q hq => ?_⟩
  · rw [List.getElem?_append] at hq
    split at hq
    · exact h.heads i q hq
    · rename_i hi
      have : i - p.length = 0 := by
        refine Nat.eq_zero_of_not_pos fun hlt => ?_
        obtain ⟨m, hm⟩ : ∃ m, i - p.length = m + 1 := ⟨i - p.length - 1, by omega⟩
        rw [hm] at hq
        simp at hq
      rw [this] at hq
      simp at hq
      subst hq
      omega
  · rcases List.mem_append.1 hq with hq | hq
    · exact h.params q hq
    · simp at hq; subst hq; exact h1
  · rcases List.mem_append.1 hq with hq | hq
    · exact h.body q hq
    · simp at hq; subst hq; exact h2
theorem setBody_mem {p : Prg} {i : Nat} {L : List Stm} {q : Blk} (h : q ∈ setBody p i L) : ∃ r ∈ p, q.params = r.params ∧ (q.body = r.body ∨ q.body = L) := by
  obtain ⟨c, hc⟩ := List.getElem?_of_mem h
  cases hr : p[c]? with
  | none =>
    have := (gS hc).1
    rw [setBody_len] at this
    rw [gE this] at hr
    cases hr
  | some r =>
    rw [setBody_get hr] at hc
    refine ⟨r, List.mem_of_getElem? hr, ?_⟩
    split at hc
    · obtain rfl := Option.some.inj hc
      exact ⟨rfl, .inr rfl⟩
    · obtain rfl := Option.some.inj hc
      exact ⟨rfl, .inl rfl⟩
theorem setBody_heads {p : Prg} {i : Nat} {L : List Stm} (h : Heads p) : Heads (setBody p i L) := by
  intro c q hq
  cases hr : p[c]? with
  | none =>
    have := (gS hq).1
    rw [setBody_len] at this
    rw [gE this] at hr
    cases hr
  | some r =>
    have := h c r hr
    rw [setBody_get hr] at hq
    split at hq <;> obtain rfl := Option.some.inj hq <;> exact this
theorem GenP.setBody {p : Prg} {i : Nat} {L : List Stm} (h : GenP p) (hL : L.length ≤ 14) : GenP (setBody p i L) := by
  refine ⟨setBody_heads h.heads, by simpa using h.len, fun q hq => ?_, fun q hq => ?_⟩
  · obtain ⟨r, hr, h1, _⟩ := setBody_mem hq
    rw [h1]; exact h.params r hr
  · obtain ⟨r, hr, _, h2⟩ := setBody_mem hq
    rcases h2 with h2 | h2
    · rw [h2]; exact h.body r hr
    · rw [h2]; exact hL
theorem GenP.bare {p : Prg} (h : GenP p) : GenP (bareP p) := by
  refine ⟨fun i q hq => ?_, by simpa [bareP] using h.len, fun q hq => ?_, fun q hq => ?_⟩
  · simp only [bareP, List.getElem?_map] at hq
    obtain ⟨r, hr, rfl⟩ := Option.map_eq_some_iff.1 hq
    exact h.heads i r hr
  · obtain ⟨r, hr, rfl⟩ := List.mem_map.1 hq
    exact h.params r hr
  · obtain ⟨r, hr, rfl⟩ := List.mem_map.1 hq
    exact Nat.le_trans bareS_len (h.body r hr)
def PrgPost (bs : List Int) (Q : Prg → Nat → Prop) : Nm → AV → (Nm → Option AO) → Prop := fun r z H' => ∃ (p : Prg) (pos' : Nat), z = .agg [.hs r 4 0 p.length] ∧ OwnP H' r p ∧ Q p pos' ∧ H' (.u 1 0 0) = some (rdO bs pos')
theorem Sml.set {p : Prg} {i : Nat} {k : Blk} (h : Sml p) (h1 : k.params.length ≤ 1048576) (h2 : k.body.length ≤ 1048576) : Sml (p.set i k) := by
  refine ⟨by simpa using h.len, fun q hq => ?_, fun q hq => ?_⟩
  · rcases List.mem_or_eq_of_mem_set hq with hq | rfl
    · exact h.params q hq
    · exact h1
  · rcases List.mem_or_eq_of_mem_set hq with hq | rfl
    · exact h.body q hq
    · exact h2
theorem setBody_sml {p : Prg} {i : Nat} {L : List Stm} (h : Sml p) (hL : L.length ≤ 1048576) : Sml (setBody p i L) := by
  refine ⟨by simpa using h.len, fun q hq => ?_, fun q hq => ?_⟩
  · obtain ⟨r, hr, h1, _⟩ := setBody_mem hq
    rw [h1]; exact h.params r hr
  · obtain ⟨r, hr, _, h2⟩ := setBody_mem hq
    rcases h2 with h2 | h2
    · rw [h2]; exact h.body r hr
    · rw [h2]; exact hL
theorem pRows_setPar {n : Nm} {p : Prg} {i : Nat} {k : Blk} {v : Int} (hk : p[i]? = some k) : rowsSet (pRows n p) i 1 [iv v] = pRows n (p.set i { k with parent := v }) := by
  apply List.ext_getElem?
  intro j
  simp only [rowsSet, List.getElem?_modify, pRows_get, List.getElem?_set]
  by_cases e : i = j
  · subst e
    simp [hk, (gS hk).1, (gS hk).2]
  · simp [e]
theorem pRows_setParams {n : Nm} {a i len : Nat} {p : Prg} {k : Blk} {L : List Int} (hk : p[i]? = some k) (hl : len = L.length) (hn : Nm.under (.s a) n = false) (hn' : Nm.under (.c n i 2) n = false) :
    (rowsSet (pRows n p) i 2 [.hs (.s a) 1 0 len]).map (fun r => r.map (AV.tr (mv (.s a) (.c n i 2)))) = pRows n (p.set i { k with params := L }) := by
  subst hl
  apply List.ext_getElem?
  intro j
  simp only [rowsSet, List.getElem?_map, List.getElem?_modify, pRows_get, List.getElem?_set]
  by_cases e : i = j
  · subst e
    simp [(gS hk).1, (gS hk).2, hn, hn']
  · have e' : ¬ j = i := fun h => e h.symm
    cases hx : p[j]? with
    | none => simp [hx, e]
    | some x => simp [hx, hn, hn', e, e']
end Go.Hm
end
section
namespace Go.Hm
open Go Go.RowKit
structure Free (k : Blk) (y : Int) : Prop where
  rd : y ∉ readsAll k.body
  bd : y ∉ boundAll k
  d9 : y ∉ declAll k 9
  d10 : y ∉ declAll k 10
theorem Free.of {k : Blk} {y : Int} (hy : 0 ≤ y ∧ y ≤ 7) (h : y ∉ k.us) : Free k y := by
  simp only [Blk.us, mem_sorted, List.mem_append, Blk.rd, Blk.bd, Blk.dc, hy, and_true, true_and, not_or] at h
  exact ⟨h.1.1.1, h.1.1.2, h.1.2, h.2⟩
section
variable {k : Blk} {x y z : Int} (hx : 0 ≤ x ∧ x ≤ 7) (hy : 0 ≤ y ∧ y ≤ 7) (hxy : x ≠ y) (hf : Free k y)
include hx hy hxy hf
end
theorem swapI_back {n x y : Int} (h : n ≠ y) : swapI (swapI n x y) y x = n := by
  unfold swapI
  split
  · rename_i e; simp [e]
  · simp [h]
theorem Stm.ren_back {k : Blk} {s : Stm} {x y : Int} (hx : 0 ≤ x) (hy : 0 ≤ y) (hn : NmOk k) (hf : Free k y) (hs : s ∈ k.body) : (s.ren x y).ren y x = s := by
  have hk := hn.kinds s hs
  have hrd : ∀ z ∈ s.reads, z ≠ y := fun z hz e => hf.rd (List.mem_flatMap.2 ⟨s, hs, e ▸ hz⟩)
  have hto : s.sets ∨ 9 ≤ s.kind → s.to ≠ y := by
    intro h e
    by_cases h9 : s.kind = 9
    · exact hf.d9 (List.mem_map.2 ⟨s, List.mem_filter.2 ⟨hs, by simp [h9]⟩, e⟩)
    · by_cases h10 : s.kind = 10
      · exact hf.d10 (List.mem_map.2 ⟨s, List.mem_filter.2 ⟨hs, by simp [h10]⟩, e⟩)
      · refine hf.bd (List.mem_append.2 (.inr (List.mem_map.2 ⟨s, List.mem_filter.2 ⟨hs, ?_⟩, e⟩)))
        simp only [decide_eq_true_eq]
        rcases h with h | h
        · exact .inl h
        · exact .inr (by omega)
  obtain ⟨c, t, a, b⟩ := s
  simp only [Stm.reads] at hrd
  simp only at hto hk
  simp only [Stm.ren, Stm.mk.injEq, true_and]
  refine ⟨?_, ?_, ?_⟩
  · split
    · rename_i h
      exact swapI_back (hto h)
    · rfl
  · split
    · rename_i h
      refine swapI_back (hrd a ?_)
      rcases h with rfl | rfl | rfl | rfl | rfl | rfl <;> simp
      split <;> simp
    · rfl
  · split
    · rename_i h
      by_cases hb : b = -1
      · subst hb
        have e1 : swapI (-1) x y = -1 := by unfold swapI; rw [if_neg (by omega)]
        have e2 : swapI (-1) y x = -1 := by unfold swapI; rw [if_neg (by omega)]
        rw [e1, e2]
      · refine swapI_back (hrd b ?_)
        have h1 : ¬ (c = 1 ∨ c = 6 ∨ c = 7 ∨ c = 8) := by omega
        rcases h with rfl | rfl
        · simp
        · simp [hb]
    · rfl
theorem Blk.ren_back {k : Blk} {x y : Int} (hx : 0 ≤ x) (hy : 0 ≤ y) (hn : NmOk k) (hf : Free k y) : (k.ren x y).ren y x = k := by
  obtain ⟨c, u, ps, ss⟩ := k
  simp only [Blk.ren, List.map_map, Blk.mk.injEq, true_and]
  refine ⟨?_, ?_⟩
  · conv => rhs; rw [← List.map_id ps]
    refine List.map_congr_left fun n h => ?_
    have : n ≠ y := fun e => hf.bd (by simp [boundAll, ← e, h])
    simp [swapI_back this]
  · conv => rhs; rw [← List.map_id ss]
    refine List.map_congr_left fun s h => ?_
    exact Stm.ren_back hx hy hn hf h
end Go.Hm
end
section
namespace Go.Hm
open Go Go.RowKit
structure RenH (p : Prg) (b : Nat) (x y : Int) : Prop where
  sh : ShapeP p
  made : ∀ i, 0 < i → i < p.length → madeIn p i = 1
  decl : ∀ (c : Nat) k, 0 < c → p[c]? = some k → ∀ n : Nat, n < 8 → declOk p c k n = true
  hb : 0 < b
  hbl : b < p.length
  hx : 0 ≤ x ∧ x ≤ 7
  hy : 0 ≤ y ∧ y ≤ 7
  hxy : x ≠ y
  fn : ∀ k, p[b]? = some k → k.kind = 1
  loc : ∀ k, p[b]? = some k → isLocal b k x = true
  free : ∀ (c : Nat) k, p[c]? = some k → inside p c b = true → Free k y
theorem progOk_parts {p : Prg} (hs : Sml p) (h : progOk p = true) : ShapeP p ∧ (∀ i, 0 < i → i < p.length → madeIn p i = 1) ∧ (∀ (c : Nat) k, 0 < c → p[c]? = some k → ∀ n : Nat, n < 8 → declOk p c k n = true) := by
  simp only [progOk, Bool.and_eq_true] at h
  refine ⟨ShapeP.of hs h.1, (shapeOk_heads h.1).2.2.2.2, fun c k h0 hk n hn => ?_⟩
  have := List.all_eq_true.1 h.2 c (List.mem_range.2 (gS hk).1)
  have h0' : (c == 0) = false := by simp; omega
  rw [h0', Bool.false_or] at this
  simp only [declsOk, hk] at this
  exact List.all_eq_true.1 this n (List.mem_range.2 hn)
theorem inside_ge {p : Prg} {c b : Int} (h : inside p c b = true) : b ≤ c := by
  by_cases e : c ≤ b
  · rw [inside_end e] at h
    simp at h
    omega
  · omega
theorem RenH.of {p : Prg} {b : Nat} {x y : Int} (hs : Sml p) (h : renOk p b x y = true) : RenH p b x y := by
  simp only [renOk, Bool.and_eq_true, decide_eq_true_eq, bne_iff_ne, ne_eq] at h
  obtain ⟨⟨⟨⟨⟨h1, h2⟩, h3⟩, h4⟩, h5⟩, h6⟩ := h
  obtain ⟨a1, a2, a3⟩ := progOk_parts hs h1
  have hbl : b < p.length := by omega
  obtain ⟨kb, hkb⟩ : ∃ k, p[b]? = some k := ⟨_, gE hbl⟩
  simp only [renAt, Int.toNat_natCast, hkb, Bool.and_eq_true, beq_iff_eq, Bool.not_eq_true'] at h6
  obtain ⟨⟨h7, h8⟩, h9⟩ := h6
  have h0 : 0 < b := by
    rcases Nat.eq_zero_or_pos b with e | e
    · subst e
      have := a1.fun0 kb hkb
      exact absurd h7 this
    · exact e
  refine ⟨a1, a2, a3, h0, hbl, h3, h4, h5, fun k hk => ?_, fun k hk => ?_, fun c k hk hi => ?_⟩
  · rw [hkb] at hk; cases hk; exact h7
  · rw [hkb] at hk; cases hk; exact h8
  · apply Free.of h4
    intro hm
    have hc := (gS hk).1
    have hge := inside_ge hi
    have : clash p b y = true := by
      refine List.any_eq_true.2 ⟨c, List.mem_range.2 hc, ?_⟩
      simp only [clashAt, hk, hi, hm, decide_true, Bool.and_true, decide_eq_true_eq]
      omega
    rw [this] at h9
    cases h9
theorem inside_of_outerF {p : Prg} {b : Nat} {z : Int} (hh : Heads p) (hb : 0 < b) : ∀ (n : Nat), n < p.length → outerF p z p.length n = b → inside p n b = true := by
  intro n
  induction n using Nat.strongRecOn with
  | ind n ih =>
    intro hn ho
    rcases Nat.eq_zero_or_pos n with e | e
    · subst e
      rw [outerF_end (by simp)] at ho
      omega
    · obtain ⟨q, hq⟩ : ∃ q, p[n]? = some q := ⟨_, gE hn⟩
      rw [outerF_step hh hq e] at ho
      obtain ⟨g1, g2, g3⟩ := hh n q hq
      have key : outerF p z p.length q.parent = b → inside p n b = true := by
        intro h
        have g4 := g3 e
        obtain ⟨m, hm⟩ : ∃ m : Nat, q.parent = m := ⟨q.parent.toNat, by omega⟩
        have h2 := ih m (by omega) (by omega) (by rw [← hm]; exact h)
        have h3 := inside_ge h2
        rw [inside_step hh (by omega) hq (by omega), hm]
        exact h2
      split at ho
      · exact key ho
      · split at ho
        · omega
        · split at ho
          · have : n = b := by omega
            subst this
            rw [inside_end (by omega)]
            simp
          · exact key ho
theorem inside_of_outer {p : Prg} {b c : Nat} {k : Blk} {z : Int} (hh : Heads p) (hb : 0 < b) (hk : p[c]? = some k) (h0 : 0 < c) (h : outer p c z = b) : inside p c b = true := by
  rw [outer_fuel hh hk] at h
  obtain ⟨g1, g2, g3⟩ := hh c k hk
  have g4 := g3 h0
  have hc := (gS hk).1
  obtain ⟨m, hm⟩ : ∃ m : Nat, k.parent = m := ⟨k.parent.toNat, by omega⟩
  have h2 := inside_of_outerF hh hb m (by omega) (by rw [← hm]; exact h)
  have h3 := inside_ge h2
  rw [inside_step hh (by omega) hk (by omega), hm]
  exact h2
theorem inside_of_owner {p : Prg} {b c : Nat} {k : Blk} {z : Int} (hh : Heads p) (hb : 0 < b) (hk : p[c]? = some k) (h : owner p c z = b) : inside p c b = true := by
  simp only [owner, hk] at h
  split at h
  · omega
  · rename_i hn
    split at h
    · have : c = b := by omega
      subst this
      rw [inside_end (by omega)]
      simp
    · exact inside_of_outer hh hb hk (by omega) h
section
variable {p : Prg} {b : Nat} {x y : Int} (H : RenH p b x y)
include H
omit H in
theorem renS_blk {c : Nat} {k : Blk} (hk : p[c]? = some k) : (renS (touches p b x) x y p)[c]? = some (renIf (touches p b x c) x y k) := by
  rw [renS_get, hk]; rfl
theorem RenH.heads : Heads (renS (touches p b x) x y p) := by
  intro i q hq
  rw [renS_get] at hq
  cases hk : p[i]? with
  | none => rw [hk] at hq; cases hq
  | some k =>
    rw [hk] at hq
    simp only [Option.map_some, Option.some.injEq] at hq
    have e : q.parent = k.parent := by subst hq; unfold renIf; split <;> rfl
    rw [e]
    exact H.sh.heads i k hk
omit H in
theorem renIf_kind {c : Bool} {k : Blk} : (renIf c x y k).kind = k.kind := by unfold renIf; split <;> rfl
omit H in
theorem renIf_parent {c : Bool} {k : Blk} : (renIf c x y k).parent = k.parent := by unfold renIf; split <;> rfl
theorem RenH.walk {z w : Int} (stop : Nat → Prop)
    (hst : ∀ (j : Nat) k, p[j]? = some k → 0 < j → k.kind = 1 → stop j →
      (z ∈ (renIf (touches p b x j) x y k).dc 9 ↔ w ∈ k.dc 9) ∧ isLocal j (renIf (touches p b x j) x y k) z = isLocal j k w)
    (hup : ∀ (j : Nat) k, p[j]? = some k → 0 < j → stop j → (k.kind = 1 → w ∉ k.dc 9 ∧ isLocal j k w = false) → stop k.parent.toNat) :
    ∀ n : Nat, n < p.length → stop n → outerF (renS (touches p b x) x y p) z p.length n = outerF p w p.length n := by
  intro n
  induction n using Nat.strongRecOn with
  | ind n ih =>
    intro hn hs
    rcases Nat.eq_zero_or_pos n with e | e
    · subst e
      rw [outerF_end (by simp), outerF_end (by simp)]
    · obtain ⟨k, hk⟩ : ∃ k, p[n]? = some k := ⟨_, gE hn⟩
      obtain ⟨g1, g2, g3⟩ := H.sh.heads n k hk
      have g4 := g3 e
      have hq := renS_blk (b := b) (x := x) (y := y) hk
      have h1 := outerF_step (x := z) H.heads hq e
      rw [renS_len] at h1
      rw [h1, outerF_step (x := w) H.sh.heads hk e, renIf_kind, renIf_parent]
      obtain ⟨m, hm⟩ : ∃ m : Nat, k.parent = m := ⟨k.parent.toNat, by omega⟩
      have key : (k.kind = 1 → w ∉ k.dc 9 ∧ isLocal n k w = false) → outerF (renS (touches p b x) x y p) z p.length k.parent = outerF p w p.length k.parent := by
        intro h
        have := ih m (by omega) (by omega) (by have := hup n k hk e hs h; rw [hm] at this; simpa using this)
        rw [hm]; exact this
      by_cases hk1 : k.kind = 1
      · obtain ⟨f1, f2⟩ := hst n k hk e hk1 hs
        have hk2 : ¬ (k.kind ≠ 1) := fun h => h hk1
        rw [if_neg hk2, if_neg hk2, f2]
        by_cases h9 : w ∈ k.dc 9
        · rw [if_pos h9, if_pos (f1.2 h9)]
        · rw [if_neg h9, if_neg (fun h => h9 (f1.1 h))]
          cases hl : isLocal n k w with
          | true => rfl
          | false =>
            simp only [Bool.false_eq_true, if_false]
            exact key fun _ => ⟨h9, hl⟩
      · rw [if_pos hk1, if_pos hk1]
        exact key fun h => absurd h hk1
end
end Go.Hm
end
section
namespace Go.Hm
open Go Go.RowKit Go.ChangeShapes Go.WideShapes Go.Deep
variable {H : Type} {enc : TypeId × Value → H} {P : Program} {w : World}
theorem rd_byte {t : TypeId} (ht : P.underlying t = some (.int .u8)) : ReadsAs enc P w t (fun k : Int => [byt k]) (fun k => 0 ≤ k ∧ k ≤ 255) := by
  intro n cs y h _
  obtain ⟨k, rfl, _, hw⟩ := DataW.trod_int ht h
  refine ⟨k, by simpa [Lit.wf, IntKind.min, IntKind.max, IntKind.signed, IntKind.bits] using hw, rfl, fun j v a hv ha => ?_⟩
  cases j with
  | zero =>
    simp at hv ha
    subst hv; subst ha
    exact ⟨.sc _, rfl⟩
  | succ j => simp at hv
theorem rd_bytes {t e : TypeId} (ht : P.underlying t = some (.slice e)) (he : P.underlying e = some (.int .u8)) (hc : P.cellsOf e = 1) (hby : 0 < P.bytesOf e)
    {r : Reach} {b0 : Nat} {v : Value} {d : DataW H} {p : List MemPlace} (hv : Value.okWide P w r b0 t v) (h : DataW.Trod enc P w 0 (fun _ => true) true t v d p) (hw : ∀ m ∈ d.weights P t, m ≤ reachBytes) :
    ∃ bs : List Int, (bs.length ≤ 1152921504606846976 ∧ ∀ x ∈ bs, 0 ≤ x ∧ x ≤ 255) ∧ RV (g0 w) w v (bsl bs) := by
  obtain ⟨a, len, cap, rfl⟩ := okWide_slice ht hv
  obtain ⟨fuel, hf⟩ := h
  obtain ⟨x, hx, hl, hr⟩ := rd_slice (enc := enc) (w := w) ht hc (by omega) hby (fun _ => rfl) (rd_byte he) _ _ _ hf hw
  exact ⟨x, hx, (hr 0 _ _ rfl rfl).1⟩
end Go.Hm
end
section
namespace Go.Hm
open Go Go.RowKit
def picked (f : Nat → Bool) : Nat → List Int
  | 0 => []
  | n + 1 => if f n = true then picked f n ++ [(n : Int)] else picked f n
theorem mem_picked {f : Nat → Bool} {x : Int} : ∀ {n : Nat}, x ∈ picked f n ↔ ∃ m : Nat, m < n ∧ f m = true ∧ x = m
  | 0 => by simp [picked]
  | n + 1 => by
    simp only [picked]
    split
    · rename_i h
      rw [List.mem_append, mem_picked (n := n), List.mem_singleton]
      constructor
      · rintro (⟨m, h1, h2, h3⟩ | h')
        · exact ⟨m, by omega, h2, h3⟩
        · exact ⟨n, by omega, h, h'⟩
      · rintro ⟨m, h1, h2, h3⟩
        rcases Nat.lt_succ_iff_lt_or_eq.1 h1 with e | rfl
        · exact .inl ⟨m, e, h2, h3⟩
        · exact .inr h3
    · rename_i h
      rw [mem_picked (n := n)]
      constructor
      · rintro ⟨m, h1, h2, h3⟩; exact ⟨m, by omega, h2, h3⟩
      · rintro ⟨m, h1, h2, h3⟩
        rcases Nat.lt_succ_iff_lt_or_eq.1 h1 with e | rfl
        · exact ⟨m, e, h2, h3⟩
        · exact absurd h2 h
theorem mem_picked_nat {f : Nat → Bool} {x n : Nat} : (x : Int) ∈ picked f n ↔ x < n ∧ f x = true := by
  rw [mem_picked]
  constructor
  · rintro ⟨m, h1, h2, h3⟩
    obtain rfl : x = m := by omega
    exact ⟨h1, h2⟩
  · rintro ⟨h1, h2⟩; exact ⟨x, h1, h2, rfl⟩
theorem picked_len {f : Nat → Bool} : ∀ n : Nat, (picked f n).length ≤ n
  | 0 => by simp [picked]
  | n + 1 => by
    have := picked_len (f := f) n
    simp only [picked]
    split <;> simp <;> omega
theorem picked_congr {f g : Nat → Bool} : ∀ {n : Nat}, (∀ x, x < n → f x = g x) → picked f n = picked g n
  | 0, _ => rfl
  | n + 1, h => by
    simp only [picked]
    rw [h n (by omega), picked_congr (n := n) fun x hx => h x (by omega)]
theorem sortedTo_picked {l : List Int} : ∀ n : Nat, sortedTo l n = picked (fun x => decide ((x : Int) ∈ l)) n
  | 0 => rfl
  | n + 1 => by
    simp only [sortedTo, picked, sortedTo_picked n, decide_eq_true_eq]
theorem sorted_same {l l' : List Int} (h : ∀ x : Nat, x < 8 → ((x : Int) ∈ l ↔ (x : Int) ∈ l')) : sorted l = sorted l' := by
  rw [sorted, sorted, sortedTo_picked, sortedTo_picked]
  exact picked_congr fun x hx => by
    rw [Bool.eq_iff_iff, decide_eq_true_eq, decide_eq_true_eq, h x hx]
def joined (g : Nat → List Int) : Nat → List Int
  | 0 => []
  | n + 1 => joined g n ++ g n
theorem mem_joined {g : Nat → List Int} {x : Int} : ∀ {n : Nat}, x ∈ joined g n ↔ ∃ m : Nat, m < n ∧ x ∈ g m
  | 0 => by simp [joined]
  | n + 1 => by
    simp only [joined, List.mem_append, mem_joined (n := n)]
    constructor
    · rintro (⟨m, h1, h2⟩ | h)
      · exact ⟨m, by omega, h2⟩
      · exact ⟨n, by omega, h⟩
    · rintro ⟨m, h1, h2⟩
      rcases Nat.lt_succ_iff_lt_or_eq.1 h1 with e | rfl
      · exact .inl ⟨m, e, h2⟩
      · exact .inr h2
theorem joined_len {g : Nat → List Int} (h : ∀ i, (g i).length ≤ 8) : ∀ n : Nat, (joined g n).length ≤ 8 * n
  | 0 => by simp [joined]
  | n + 1 => by
    have := joined_len h n
    have := h n
    simp only [joined, List.length_append]
    omega
theorem outerF_pos {p : Prg} {x : Int} : ∀ (n : Nat) (j : Int), outerF p x n j = -1 ∨ 0 < outerF p x n j
  | 0, _ => .inl rfl
  | n + 1, j => by
    simp only [outerF]
    split
    · exact .inl rfl
    · rename_i hj
      split
      · exact .inl rfl
      · split
        · exact outerF_pos n _
        · split
          · exact .inl rfl
          · split
            · exact .inr (by omega)
            · exact outerF_pos n _
theorem owner_pos {p : Prg} {c : Nat} {x : Int} : owner p c x = -1 ∨ 0 < owner p c x := by
  unfold owner
  split
  · split
    · exact .inl rfl
    · rename_i h
      split
      · exact .inr (by omega)
      · unfold outer
        split
        · exact outerF_pos _ _
        · exact .inl rfl
  · exact .inl rfl
def freeIn (p : Prg) (b c : Nat) (x : Int) : Bool := decide (0 < owner p c x) && decide (owner p c x < b)
def freeAt (p : Prg) (b c : Nat) : List Int := match p[c]? with
  | some k => if inside p c b = true then k.us.filter (freeIn p b c) else []
  | none => []
def freesRaw (p : Prg) (b : Nat) : Nat → List Int := joined fun i => freeAt p b (b + i)
def freesL (p : Prg) (b : Nat) : List Int := sorted (freesRaw p b (p.length - b))
def cellIn (p : Prg) (b c : Nat) (x : Int) : Bool := owner p c x == b
def cellAt (p : Prg) (b c : Nat) : List Int := match p[c]? with
  | some k => k.us.filter (cellIn p b c)
  | none => []
def cellsRaw (p : Prg) (b : Nat) : Nat → List Int := joined fun i => cellAt p b (b + 1 + i)
def kindAt (p : Prg) (b : Nat) : Int := match p[b]? with | some k => k.kind | none => -1
def cellsL (p : Prg) (b : Nat) : List Int := if kindAt p b = 1 then sorted (cellsRaw p b (p.length - (b + 1))) else []
def fastIn (p : Prg) (b : Nat) (x : Nat) : Bool := match p[b]? with
  | some k => isLocal b k x && !decide ((x : Int) ∈ cellsL p b)
  | none => false
def fastsL (p : Prg) (b : Nat) : List Int := if kindAt p b = 1 then picked (fastIn p b) 8 else []
def symOf (p : Prg) (b : Nat) (x : Int) : Int :=
  if owner p b x < 0 then 0 else if owner p b x ≠ b then 1 else if kindAt p b = 2 then 2 else if x ∈ cellsL p b then 3 else 4
def cellPl (p : Prg) (b : Nat) (x : Int) : Int := if x ∈ cellsL p b then placeIn (cellsL p b) x else (cellsL p b).length + placeIn (freesL p b) x
def nameOp (p : Prg) (b : Nat) (x w : Int) : Int × Int :=
  if symOf p b x = 0 then (8 + w, x) else if symOf p b x = 2 then (11 + w, x) else if symOf p b x = 4 then (2 + w, placeIn (fastsL p b) x) else (5 + w, cellPl p b x)
theorem filter_len8 {l : List Int} {f : Int → Bool} (h : l.length ≤ 8) : (l.filter f).length ≤ 8 := Nat.le_trans (List.length_filter_le _ _) h
theorem freeAt_len {p : Prg} {b c : Nat} : (freeAt p b c).length ≤ 8 := by
  unfold freeAt
  split
  · split
    · exact filter_len8 (Blk.us_len _)
    · simp
  · simp
theorem cellAt_len {p : Prg} {b c : Nat} : (cellAt p b c).length ≤ 8 := by
  unfold cellAt
  split
  · exact filter_len8 (Blk.us_len _)
  · simp
theorem freesRaw_len {p : Prg} {b n : Nat} : (freesRaw p b n).length ≤ 8 * n := joined_len (fun _ => freeAt_len) n
theorem cellsRaw_len {p : Prg} {b n : Nat} : (cellsRaw p b n).length ≤ 8 * n := joined_len (fun _ => cellAt_len) n
theorem freesL_len {p : Prg} {b : Nat} : (freesL p b).length ≤ 8 := sorted_len
theorem cellsL_len {p : Prg} {b : Nat} : (cellsL p b).length ≤ 8 := by
  unfold cellsL
  split
  · exact sorted_len
  · simp
theorem fastsL_len {p : Prg} {b : Nat} : (fastsL p b).length ≤ 8 := by
  unfold fastsL
  split
  · exact picked_len 8
  · simp
theorem freesRaw_succ {p : Prg} {b n : Nat} : freesRaw p b (n + 1) = freesRaw p b n ++ freeAt p b (b + n) := rfl
theorem cellsRaw_succ {p : Prg} {b n : Nat} : cellsRaw p b (n + 1) = cellsRaw p b n ++ cellAt p b (b + 1 + n) := rfl
theorem placeIn_bd {xs : List Int} {x : Int} : -1 ≤ placeIn xs x ∧ placeIn xs x ≤ xs.length := by
  unfold placeIn
  split
  · rename_i i h
    have := (List.findIdx?_eq_some_iff_findIdx_eq.1 h).1
    constructor <;> omega
  · constructor <;> omega
def freeI (p : Prg) (b c : Nat) (x : Nat) : Bool := match p[c]? with
  | some k => inside p c b && decide ((x : Int) ∈ k.us) && (owner p c x != -1) && !inside p (owner p c x) b
  | none => false
def freesI (p : Prg) (b : Nat) : Nat → List Int := joined fun c => picked (freeI p b c) 8
theorem inside_chain {p : Prg} (hh : Heads p) {b o : Nat} : ∀ c : Nat, c < p.length → inside p c b = true → inside p c o = true → b ≤ o → inside p o b = true := by
  intro c
  induction c using Nat.strongRecOn with
  | ind c ih =>
    intro hc h1 h2 hbo
    have g2 := inside_ge h2
    by_cases e : o = c
    · subst e; exact h1
    · obtain ⟨q, hq⟩ : ∃ q, p[c]? = some q := ⟨_, gE hc⟩
      obtain ⟨a1, a2, a3⟩ := hh c q hq
      have a4 := a3 (by omega)
      obtain ⟨m, hm⟩ : ∃ m : Nat, q.parent = m := ⟨q.parent.toNat, by omega⟩
      rw [inside_step hh (by omega) hq (by omega), hm] at h1 h2
      exact ih m (by omega) (by omega) h1 h2 hbo
theorem inside_owner {p : Prg} (hh : Heads p) {b c : Nat} {k : Blk} {x : Int} (hk : p[c]? = some k) (hi : inside p c b = true) (ho : owner p c x ≠ -1) : inside p (owner p c x) b = !decide (owner p c x < b) := by
  rcases owner_pos (p := p) (c := c) (x := x) with h | h
  · exact absurd h ho
  · obtain ⟨o, e⟩ : ∃ o : Nat, owner p c x = o := ⟨(owner p c x).toNat, by omega⟩
    have h2 : inside p c o = true := inside_of_owner hh (by omega) hk e
    rw [e]
    by_cases hb : o < b
    · rw [inside_end (by omega), decide_eq_false (by omega), decide_eq_true (by omega)]
      rfl
    · rw [inside_chain hh c (gS hk).1 hi h2 (by omega), decide_eq_false (by omega)]
      rfl
theorem frees_eq {p : Prg} (hh : Heads p) {b : Nat} (hb : b < p.length) : sorted (freesI p b p.length) = freesL p b := by
  unfold freesL
  apply sorted_same
  intro x hx
  unfold freesI freesRaw
  rw [mem_joined, mem_joined]
  constructor
  · rintro ⟨c, hc, hm⟩
    obtain ⟨k, hk⟩ : ∃ k, p[c]? = some k := ⟨_, gE hc⟩
    rw [mem_picked_nat] at hm
    obtain ⟨_, hm⟩ := hm
    simp only [freeI, hk, Bool.and_eq_true, decide_eq_true_eq, bne_iff_ne, ne_eq, Bool.not_eq_true'] at hm
    obtain ⟨⟨⟨h1, h2⟩, h3⟩, h4⟩ := hm
    have hge := inside_ge h1
    rw [inside_owner hh hk h1 h3] at h4
    refine ⟨c - b, by omega, ?_⟩
    rw [show b + (c - b) = c by omega]
    simp only [freeAt, hk, h1, if_true, List.mem_filter, freeIn, Bool.and_eq_true, decide_eq_true_eq]
    refine ⟨h2, ?_, by simpa using h4⟩
    rcases owner_pos (p := p) (c := c) (x := (x : Int)) with h | h
    · exact absurd h h3
    · exact h
  · rintro ⟨n, hn, hm⟩
    have hc : b + n < p.length := by omega
    obtain ⟨k, hk⟩ : ∃ k, p[b + n]? = some k := ⟨_, gE hc⟩
    simp only [freeAt, hk] at hm
    split at hm
    · rename_i hi
      simp only [List.mem_filter, freeIn, Bool.and_eq_true, decide_eq_true_eq] at hm
      obtain ⟨h2, h3, h4⟩ := hm
      refine ⟨b + n, hc, mem_picked_nat.2 ⟨hx, ?_⟩⟩
      have h5 : owner p (b + n) x ≠ -1 := by omega
      simp only [freeI, hk, hi, Bool.true_and, inside_owner hh hk hi h5, Bool.and_eq_true, decide_eq_true_eq, bne_iff_ne, ne_eq, Bool.not_not]
      exact ⟨⟨h2, h5⟩, h4⟩
    · simp at hm
end Go.Hm
end
section
namespace Go.Hm
open Go Go.RowKit Go.ChangeShapes Go.WideShapes Go.Deep
end Go.Hm
end
section
namespace Go.Hm
open Go Go.RowKit
def orows (l : List (Int × Int)) : List (List AV) := l.map fun o => [iv o.1, iv o.2]
section
variable {l m : List (Int × Int)} {o : Int × Int} {i : Nat} {f : Nm → Option Nm}
@[simp] theorem orows_len : (orows l).length = l.length := by simp [orows]
@[simp] theorem orows_nil : orows [] = [] := rfl
@[simp] theorem orows_cln : (orows l).all (fun r => r.all AV.cln) = true := by simp [orows]
theorem orows_uni : ∀ r ∈ orows l, r.length = 2 := by
  intro r hr
  obtain ⟨o, _, rfl⟩ := List.mem_map.1 hr
  rfl
abbrev osl (l : List (Int × Int)) : AV := .sl 2 (orows l)
theorem bw_ords {hp : Nm → Option AO} {n : Nm} {len : Nat} (hn : hp n = some (.row 2 (orows l))) (hl : len = l.length) : Bw hp noD (.hs n 2 0 len) (osl l) := bw_list hn (by simp [hl]) orows_uni
end
def readL (p : Prg) (b : Nat) (s : Stm) : List (Int × Int) := s.reads.map fun x => nameOp p b x 0
def workL (s : Stm) : List (Int × Int) :=
  if s.kind = 0 then [(1, s.a)] else if s.kind = 2 then [(14, 0)] else if s.kind = 3 then [(15, s.a)] else if s.kind = 4 then [(16, s.a)] else if s.kind = 5 then [(17, (s.reads.length : Int) - 1)]
  else if s.kind = 6 then [(18, s.b)] else if s.kind = 7 then [(19, 0)] else if s.kind = 8 then [(20, 0)] else []
def setL (p : Prg) (b : Nat) (s : Stm) : List (Int × Int) := if s.kind = 11 then [nameOp p b s.to 2] else if 0 ≤ s.kind ∧ s.kind ≤ 6 then [nameOp p b s.to 1] else []
def stmtL (p : Prg) (b : Nat) (s : Stm) : List (Int × Int) := (0, 0) :: (readL p b s ++ (workL s ++ setL p b s))
def bodyL (p : Prg) (b : Nat) (ss : List Stm) : List (Int × Int) := ss.flatMap (stmtL p b)
def opsL (p : Prg) (b : Nat) : List (Int × Int) := match p[b]? with | some k => bodyL p b k.body | none => []
theorem placeIn_at {xs : List Int} {x : Int} (h : x ∈ xs) : ∃ i : Nat, placeIn xs x = i ∧ i < xs.length ∧ xs[i]? = some x := by
  have h0 := placeIn_nonneg.2 h
  unfold placeIn at h0 ⊢
  cases hf : xs.findIdx? (· == x) with
  | none => rw [hf] at h0; simp at h0
  | some i =>
    obtain ⟨h1, h2, _⟩ := List.findIdx?_eq_some_iff_getElem.1 hf
    refine ⟨i, rfl, h1, ?_⟩
    rw [gE h1]
    simpa using h2
theorem outerF_local {p : Prg} {x : Int} {b : Nat} : ∀ (n : Nat) (j : Int), outerF p x n j = b → ∃ k, p[b]? = some k ∧ isLocal b k x = true ∧ x ∉ k.dc 9
  | 0, _, h => by simp only [outerF] at h; omega
  | n + 1, j, h => by
    simp only [outerF] at h
    split at h
    · omega
    · split at h
      · omega
      · rename_i q hq
        split at h
        · exact outerF_local n _ h
        · split at h
          · omega
          · rename_i hd
            split at h
            · rename_i hl
              have hj : j.toNat = b := by omega
              rw [hj] at hq hl
              exact ⟨q, hq, hl, hd⟩
            · exact outerF_local n _ h
theorem owner_self {p : Prg} {x : Int} {b : Nat} {k : Blk} (hk : p[b]? = some k) (hl : isLocal b k x = true) (hd : x ∉ k.dc 9) : owner p b x = b := by
  have hb : b ≠ 0 := by
    rintro rfl
    simp [isLocal] at hl
  simp [owner, hk, hl, hd, hb]
theorem outerF_le {p : Prg} {x : Int} (hh : Heads p) : ∀ (n : Nat) (j : Int), outerF p x n j = -1 ∨ outerF p x n j ≤ j
  | 0, _ => .inl rfl
  | n + 1, j => by
    simp only [outerF]
    split
    · exact .inl rfl
    · split
      · exact .inl rfl
      · rename_i q hq
        have h1 := (hh _ q hq).2.1
        have ih := outerF_le hh (x := x) n q.parent
        split
        · rcases ih with e | e
          · exact .inl e
          · exact .inr (by omega)
        · split
          · exact .inl rfl
          · split
            · exact .inr (Int.le_refl _)
            · rcases ih with e | e
              · exact .inl e
              · exact .inr (by omega)
end Go.Hm
end
section
namespace Go.Hm
open Go Go.RowKit
structure Cod where
  kind : Int
  params : List Int
  fasts : List Int
  cells : List Int
  frees : List Int
  ops : List (Int × Int)
  deriving DecidableEq, Inhabited
def noCode : Cod := ⟨0, [], [], [], [], []⟩
@[simp] theorem noCode_kind : noCode.kind = 0 := rfl
@[simp] theorem noCode_params : noCode.params = [] := rfl
@[simp] theorem noCode_fasts : noCode.fasts = [] := rfl
@[simp] theorem noCode_cells : noCode.cells = [] := rfl
@[simp] theorem noCode_frees : noCode.frees = [] := rfl
@[simp] theorem noCode_ops : noCode.ops = [] := rfl
def codeL (p : Prg) (b : Nat) : Cod := match p[b]? with | some k => ⟨k.kind, k.params, fastsL p b, cellsL p b, freesL p b, opsL p b⟩ | none => noCode
def codesTo (p : Prg) (n : Nat) : List Cod := (List.range n).map (codeL p)
@[simp] theorem codesTo_zero {p : Prg} : codesTo p 0 = [] := rfl
abbrev Cod.row (c : Cod) : List AV := [iv c.kind, isl c.params, isl c.fasts, isl c.cells, isl c.frees, osl c.ops]
abbrev Cod.av (c : Cod) : AV := .agg c.row
def kcrows (cs : List Cod) : List (List AV) := cs.map Cod.row
abbrev csl (cs : List Cod) : AV := .sl 6 (kcrows cs)
def Cod.own (n : Nm) (i : Nat) (c : Cod) : List AV :=
  [iv c.kind, .hs (.c n i 1) 1 0 c.params.length, .hs (.c n i 2) 1 0 c.fasts.length, .hs (.c n i 3) 1 0 c.cells.length, .hs (.c n i 4) 1 0 c.frees.length, .hs (.c n i 5) 2 0 c.ops.length]
@[simp] theorem Cod.own_eq {n : Nm} {i : Nat} {c : Cod} : c.own n i = [iv c.kind, .hs (.c n i 1) 1 0 c.params.length, .hs (.c n i 2) 1 0 c.fasts.length, .hs (.c n i 3) 1 0 c.cells.length, .hs (.c n i 4) 1 0 c.frees.length, .hs (.c n i 5) 2 0 c.ops.length] := rfl
structure OwnK (hp : Nm → Option AO) (n : Nm) (i : Nat) (c : Cod) : Prop where
  params : hp (.c n i 1) = some (.row 1 (irows c.params))
  fasts : hp (.c n i 2) = some (.row 1 (irows c.fasts))
  cells : hp (.c n i 3) = some (.row 1 (irows c.cells))
  frees : hp (.c n i 4) = some (.row 1 (irows c.frees))
  ops : hp (.c n i 5) = some (.row 2 (orows c.ops))
def kdRows (n : Nm) (cs : List Cod) : List (List AV) := cs.mapIdx fun i c => c.own n i
structure OwnC (hp : Nm → Option AO) (n : Nm) (cs : List Cod) : Prop where
  top : hp n = some (.row 6 (kdRows n cs))
  each : ∀ (i : Nat) c, cs[i]? = some c → OwnK hp n i c
section
variable {cs : List Cod} {i a b d l : Nat} {n q k1 : Nm} {c : Cod}
@[simp] theorem kcrows_len : (kcrows cs).length = cs.length := by simp [kcrows]
@[simp] theorem kcrows_get : (kcrows cs)[i]? = (cs[i]?).map Cod.row := by simp [kcrows]
@[simp] theorem kdRows_len : (kdRows n cs).length = cs.length := by simp [kdRows]
@[simp] theorem kdRows_get : (kdRows n cs)[i]? = (cs[i]?).map (fun c => c.own n i) := by simp [kdRows]
@[simp] theorem kdRows_nil : kdRows n [] = [] := rfl
end
theorem bw_code {hp : Nm → Option AO} {n : Nm} {i : Nat} {c : Cod} (h : OwnK hp n i c) : ∀ (j : Nat) a a', (c.own n i)[j]? = some a → c.row[j]? = some a' → Bw hp noD a a'
  | 0, a, a', ha, ha' => by obtain rfl := Option.some.inj ha; obtain rfl := Option.some.inj ha'; exact .refl _
  | 1, a, a', ha, ha' => by obtain rfl := Option.some.inj ha; obtain rfl := Option.some.inj ha'; exact bw_ints h.params rfl
  | 2, a, a', ha, ha' => by obtain rfl := Option.some.inj ha; obtain rfl := Option.some.inj ha'; exact bw_ints h.fasts rfl
  | 3, a, a', ha, ha' => by obtain rfl := Option.some.inj ha; obtain rfl := Option.some.inj ha'; exact bw_ints h.cells rfl
  | 4, a, a', ha, ha' => by obtain rfl := Option.some.inj ha; obtain rfl := Option.some.inj ha'; exact bw_ints h.frees rfl
  | 5, a, a', ha, ha' => by obtain rfl := Option.some.inj ha; obtain rfl := Option.some.inj ha'; exact bw_ords h.ops rfl
  | j + 6, a, a', ha, _ => by simp [Cod.own] at ha
theorem bw_codeA {hp : Nm → Option AO} {n : Nm} {i : Nat} {c : Cod} (h : OwnK hp n i c) : Bw hp noD (.agg (c.own n i)) c.av := .agg _ _ rfl (bw_code h)
theorem bw_codes {hp : Nm → Option AO} {n : Nm} {len : Nat} {cs : List Cod} (h : OwnC hp n cs) (hl : len = cs.length) : Bw hp noD (.hs n 6 0 len) (csl cs) := by
  subst hl
  refine .hs n 6 0 cs.length (kdRows n cs) (kcrows cs) rfl h.top (by simp) (by simp) (by simp [kcrows]) fun i r r' hr hr' j a a' ha ha' => ?_
  rw [Nat.zero_add, kdRows_get] at hr
  rw [kcrows_get] at hr'
  obtain ⟨x, hx, rfl⟩ := Option.map_eq_some_iff.1 hr
  rw [hx] at hr'
  obtain rfl := Option.some.inj hr'
  exact bw_code (h.each i x hx) j a a' ha ha'
theorem OwnK.hcln {H' : Nm → Option AO} {n : Nm} {i : Nat} {c : Cod} (h : OwnK H' n i c) : OwnK (hcln H') n i c :=
  ⟨hcln_row h.params (by simp), hcln_row h.fasts (by simp), hcln_row h.cells (by simp), hcln_row h.frees (by simp), hcln_row h.ops (by simp)⟩
theorem OwnC.hcln {H' : Nm → Option AO} {n : Nm} {cs : List Cod} (h : OwnC H' n cs) : OwnC (hcln H') n cs := by
  refine ⟨hcln_row h.top ?_, fun i c hc => (h.each i c hc).hcln⟩
  simp only [kdRows, List.all_eq_true]
  intro r hr
  obtain ⟨i, hi⟩ := List.getElem?_of_mem hr
  rw [List.getElem?_mapIdx] at hi
  obtain ⟨x, _, rfl⟩ := Option.map_eq_some_iff.1 hi
  simp [Cod.own]
section
variable {X : Ctx} {st : St} {K : St → Prop} {E : AV → St → Prop} {dst : Option Nat} {f f' : FuncId} {args : Array Operand} {Ts : Array TypeId} {ty : TypeId} {pos : String} {aft : Array Edge} {g : Option (Nat × Bool)} {P : Program} {gl : Nat → Option (List AV)} {az : List AV} {R : Nm → AV → (Nm → Option AO) → Prop}
theorem o_idc (_hF : FnOk P gl f' az R) (_hf : f = f') (h : SemOp X ⟨dst, .call ⟨.value (.func f), args, Ts⟩, ty, pos, aft, g⟩ K E st) : SemOp X ⟨dst, .call ⟨.value (.func f), args, Ts⟩, ty, pos, aft, g⟩ K E st := h
end
def AV.isHs : AV → Bool
  | .hs _ _ _ _ => true
  | _ => false
@[simp] theorem isHs_hs {n : Nm} {z lo len : Nat} : (AV.hs n z lo len).isHs = true := rfl
@[simp] theorem isHs_sc {v : Value} : (AV.sc v).isHs = false := rfl
section
variable {X : Ctx} {st st' : St} {K : St → Prop} {E : AV → St → Prop} {d : Nat} {ty : TypeId} {pos : String} {aft : Array Edge} {g : Option (Nat × Bool)}
theorem x_appendM {T F : TypeId} {s x : Operand} {z len : Nat} {n : Nm} {rows0 rows2 : List (List AV)} (hd : d < X.n := by first | (simp; done) | fail) (hT : tapp X.P T = some F := by simp [fx]; first | done | rfl) (hz : tsz X.P F = z := by simp [fx]; first | done | rfl) (hs : ev st s = .hs n z 0 len := by simp [fx]; first | done | rfl | exact ⟨rfl, rfl⟩ | exact ⟨rfl, rfl, rfl⟩)
    (hn : st.hp n = some (.row z rows0) := by simp [fx]; first | done | rfl) (hle : len ≤ rows0.length := by first | (simp [fx]; done) | (simp [fx]; omega) | omega)
    (hx : srcRows st z (ev st x) = some rows2 := by simp [fx]; first | done | rfl) (hm : (rows2.any fun r => r.any AV.isHs) = true := by first | (simp; done) | fail) (hlen : len + rows2.length ≤ 4294967296 := by first | (simp [fx]; done) | (simp [fx]; omega) | omega)
    (hq : Hm.canon (prcL (.s d) len rows2) ((apSt d z (len + rows2.length) (some n) (rows0.take len ++ rows2) st).mvc n (.s d)) = st' := by simp [fx]; first | done | rfl | exact (Bool.not_not _).symm) (h : K st') :
    SemOp X ⟨some d, .call ⟨.builtin .append, #[s, x], #[T, T]⟩, ty, pos, aft, g⟩ K E st := o_appendC hd hT hz hs hn hle hx hlen hq h
end
section
variable {X : Ctx} {st : St} {K : St → Prop} {E : AV → St → Prop} {d : Nat} {ty : TypeId} {pos : String} {aft : Array Edge} {g : Option (Nat × Bool)} {f : Nat} {args : Array Operand} {Ts : Array TypeId} {az avs : List AV}
theorem kx_call {x : AV} (hd : d < X.n := by first | (simp; done) | fail) (ha : args.toList.map (ev st) = avs := by simp [fx]; first | done | rfl | exact (Bool.not_not _).symm)
    (hB : BwL st.hp noD avs az := by
      first
      | ((repeat' (first | exact .nil | refine .cons ?_ ?_ | exact .refl _ | exact bw_ints (by simp [fx]; first | done | rfl) (by first | (simp [fx]; done) | (simp [fx]; omega) | omega) | exact bw_list (by simp [fx]; first | done | rfl) (by first | (simp [fx]; done) | (simp [fx]; omega) | omega) (by first | (simp; done) | fail) | exact bw_ords (by simp [fx]; first | done | rfl) (by first | (simp [fx]; done) | (simp [fx]; omega) | omega) | exact bw_stms (by simp [fx]; first | done | rfl) (by first | (simp [fx]; done) | (simp [fx]; omega) | omega) | exact bw_scopes ⟨(by first | (simp [hc1]; done) | fail), fun j k hj hk => (by first | (simp [hc2 j k hj hk]; done) | fail)⟩ hh rfl | exact bw_sc ⟨(by first | (simp [hc1]; done) | fail), fun j k hj hk => (by first | (simp [hc2 j k hj hk]; done) | fail)⟩ hh hk | exact bw_agg1 (bw_prog ⟨(by first | (simp [a1]; done) | fail), fun j r hj => (by first | (simp [a2 j r hj]; done) | fail), fun j r hj => (by first | (simp [a3 j r hj]; done) | fail)⟩ rfl) | exact bw_agg1 (bw_prog ⟨(by first | (simp [b1]; done) | fail), fun j r hj => (by first | (simp [b2 j r hj]; done) | fail), fun j r hj => (by first | (simp [b3 j r hj]; done) | fail)⟩ rfl) | exact bw_agg1 (bw_prog ⟨(by first | (simp [ho1]; done) | fail), fun j r hj => (by first | (simp [ho2 j r hj]; done) | fail), fun j r hj => (by first | (simp [ho3 j r hj]; done) | fail)⟩ rfl) | exact bw_codeA ⟨(by first | (simp [o1]; done) | fail), (by first | (simp [o2]; done) | fail), (by first | (simp [o3]; done) | fail), (by first | (simp [o4]; done) | fail), (by first | (simp [o5]; done) | fail)⟩ | exact bw_codeA ⟨(by first | (simp [q1]; done) | fail), (by first | (simp [q2]; done) | fail), (by first | (simp [q3]; done) | fail), (by first | (simp [q4]; done) | fail), (by first | (simp [q5]; done) | fail)⟩ | exact bw_codes ⟨(by first | (simp [kt]; done) | fail), fun i c hc => ⟨(by first | (simp [(ke i c hc).params]; done) | fail), (by first | (simp [(ke i c hc).fasts]; done) | fail), (by first | (simp [(ke i c hc).cells]; done) | fail), (by first | (simp [(ke i c hc).frees]; done) | fail), (by first | (simp [(ke i c hc).ops]; done) | fail)⟩⟩ rfl | exact bw_codes ⟨(by first | (simp [mt]; done) | fail), fun i c hc => ⟨(by first | (simp [(me i c hc).params]; done) | fail), (by first | (simp [(me i c hc).fasts]; done) | fail), (by first | (simp [(me i c hc).cells]; done) | fail), (by first | (simp [(me i c hc).frees]; done) | fail), (by first | (simp [(me i c hc).ops]; done) | fail)⟩⟩ rfl | exact bw_codes ⟨(by first | (simp [nt]; done) | fail), fun i c hc => ⟨(by first | (simp [(ne i c hc).params]; done) | fail), (by first | (simp [(ne i c hc).fasts]; done) | fail), (by first | (simp [(ne i c hc).cells]; done) | fail), (by first | (simp [(ne i c hc).frees]; done) | fail), (by first | (simp [(ne i c hc).ops]; done) | fail)⟩⟩ rfl)); done)
      | fail)
    (hF : FnOk X.P X.gl f az (fun _ y _ => y = x)) (hc : x.cln = true := by first | (simp [fx]; done) | fail) (h : K ((st.kill (.s d)).put (some d) x)) :
    SemOp X ⟨some d, .call ⟨.value (.func f), args, Ts⟩, ty, pos, aft, g⟩ K E st := o_call hd ha hB hF hc h
theorem kx_callh {z n : Nat} {rows : List (List AV)} (hd : d < X.n := by first | (simp; done) | fail) (ha : args.toList.map (ev st) = avs := by simp [fx]; first | done | rfl | exact (Bool.not_not _).symm)
    (hB : BwL st.hp noD avs az := by
      first
      | ((repeat' (first | exact .nil | refine .cons ?_ ?_ | exact .refl _ | exact bw_ints (by simp [fx]; first | done | rfl) (by first | (simp [fx]; done) | (simp [fx]; omega) | omega) | exact bw_list (by simp [fx]; first | done | rfl) (by first | (simp [fx]; done) | (simp [fx]; omega) | omega) (by first | (simp; done) | fail) | exact bw_ords (by simp [fx]; first | done | rfl) (by first | (simp [fx]; done) | (simp [fx]; omega) | omega) | exact bw_stms (by simp [fx]; first | done | rfl) (by first | (simp [fx]; done) | (simp [fx]; omega) | omega) | exact bw_scopes ⟨(by first | (simp [hc1]; done) | fail), fun j k hj hk => (by first | (simp [hc2 j k hj hk]; done) | fail)⟩ hh rfl | exact bw_sc ⟨(by first | (simp [hc1]; done) | fail), fun j k hj hk => (by first | (simp [hc2 j k hj hk]; done) | fail)⟩ hh hk | exact bw_agg1 (bw_prog ⟨(by first | (simp [a1]; done) | fail), fun j r hj => (by first | (simp [a2 j r hj]; done) | fail), fun j r hj => (by first | (simp [a3 j r hj]; done) | fail)⟩ rfl) | exact bw_agg1 (bw_prog ⟨(by first | (simp [b1]; done) | fail), fun j r hj => (by first | (simp [b2 j r hj]; done) | fail), fun j r hj => (by first | (simp [b3 j r hj]; done) | fail)⟩ rfl) | exact bw_agg1 (bw_prog ⟨(by first | (simp [ho1]; done) | fail), fun j r hj => (by first | (simp [ho2 j r hj]; done) | fail), fun j r hj => (by first | (simp [ho3 j r hj]; done) | fail)⟩ rfl) | exact bw_codeA ⟨(by first | (simp [o1]; done) | fail), (by first | (simp [o2]; done) | fail), (by first | (simp [o3]; done) | fail), (by first | (simp [o4]; done) | fail), (by first | (simp [o5]; done) | fail)⟩ | exact bw_codeA ⟨(by first | (simp [q1]; done) | fail), (by first | (simp [q2]; done) | fail), (by first | (simp [q3]; done) | fail), (by first | (simp [q4]; done) | fail), (by first | (simp [q5]; done) | fail)⟩ | exact bw_codes ⟨(by first | (simp [kt]; done) | fail), fun i c hc => ⟨(by first | (simp [(ke i c hc).params]; done) | fail), (by first | (simp [(ke i c hc).fasts]; done) | fail), (by first | (simp [(ke i c hc).cells]; done) | fail), (by first | (simp [(ke i c hc).frees]; done) | fail), (by first | (simp [(ke i c hc).ops]; done) | fail)⟩⟩ rfl | exact bw_codes ⟨(by first | (simp [mt]; done) | fail), fun i c hc => ⟨(by first | (simp [(me i c hc).params]; done) | fail), (by first | (simp [(me i c hc).fasts]; done) | fail), (by first | (simp [(me i c hc).cells]; done) | fail), (by first | (simp [(me i c hc).frees]; done) | fail), (by first | (simp [(me i c hc).ops]; done) | fail)⟩⟩ rfl | exact bw_codes ⟨(by first | (simp [nt]; done) | fail), fun i c hc => ⟨(by first | (simp [(ne i c hc).params]; done) | fail), (by first | (simp [(ne i c hc).fasts]; done) | fail), (by first | (simp [(ne i c hc).cells]; done) | fail), (by first | (simp [(ne i c hc).frees]; done) | fail), (by first | (simp [(ne i c hc).ops]; done) | fail)⟩⟩ rfl)); done)
      | fail)
    (hF : FnOk X.P X.gl f az (fun r y H' => y = .hs r z 0 n ∧ H' r = some (.row z rows))) (hc : rows.all (fun r => r.all AV.cln) = true := by first | (simp; done) | fail)
    (h : K (((st.kill (.s d)).setO (.s d) (.row z rows)).put (some d) (.hs (.s d) z 0 n))) : SemOp X ⟨some d, .call ⟨.value (.func f), args, Ts⟩, ty, pos, aft, g⟩ K E st := o_callh hd ha hB hF hc h
theorem kx_callg {R : Nm → AV → (Nm → Option AO) → Prop} (hd : d < X.n := by first | (simp; done) | fail) (ha : args.toList.map (ev st) = avs := by simp [fx]; first | done | rfl | exact (Bool.not_not _).symm)
    (hB : BwL st.hp noD avs az := by
      first
      | ((repeat' (first | exact .nil | refine .cons ?_ ?_ | exact .refl _ | exact bw_ints (by simp [fx]; first | done | rfl) (by first | (simp [fx]; done) | (simp [fx]; omega) | omega) | exact bw_list (by simp [fx]; first | done | rfl) (by first | (simp [fx]; done) | (simp [fx]; omega) | omega) (by first | (simp; done) | fail) | exact bw_ords (by simp [fx]; first | done | rfl) (by first | (simp [fx]; done) | (simp [fx]; omega) | omega) | exact bw_stms (by simp [fx]; first | done | rfl) (by first | (simp [fx]; done) | (simp [fx]; omega) | omega) | exact bw_scopes ⟨(by first | (simp [hc1]; done) | fail), fun j k hj hk => (by first | (simp [hc2 j k hj hk]; done) | fail)⟩ hh rfl | exact bw_sc ⟨(by first | (simp [hc1]; done) | fail), fun j k hj hk => (by first | (simp [hc2 j k hj hk]; done) | fail)⟩ hh hk | exact bw_agg1 (bw_prog ⟨(by first | (simp [a1]; done) | fail), fun j r hj => (by first | (simp [a2 j r hj]; done) | fail), fun j r hj => (by first | (simp [a3 j r hj]; done) | fail)⟩ rfl) | exact bw_agg1 (bw_prog ⟨(by first | (simp [b1]; done) | fail), fun j r hj => (by first | (simp [b2 j r hj]; done) | fail), fun j r hj => (by first | (simp [b3 j r hj]; done) | fail)⟩ rfl) | exact bw_agg1 (bw_prog ⟨(by first | (simp [ho1]; done) | fail), fun j r hj => (by first | (simp [ho2 j r hj]; done) | fail), fun j r hj => (by first | (simp [ho3 j r hj]; done) | fail)⟩ rfl) | exact bw_codeA ⟨(by first | (simp [o1]; done) | fail), (by first | (simp [o2]; done) | fail), (by first | (simp [o3]; done) | fail), (by first | (simp [o4]; done) | fail), (by first | (simp [o5]; done) | fail)⟩ | exact bw_codeA ⟨(by first | (simp [q1]; done) | fail), (by first | (simp [q2]; done) | fail), (by first | (simp [q3]; done) | fail), (by first | (simp [q4]; done) | fail), (by first | (simp [q5]; done) | fail)⟩ | exact bw_codes ⟨(by first | (simp [kt]; done) | fail), fun i c hc => ⟨(by first | (simp [(ke i c hc).params]; done) | fail), (by first | (simp [(ke i c hc).fasts]; done) | fail), (by first | (simp [(ke i c hc).cells]; done) | fail), (by first | (simp [(ke i c hc).frees]; done) | fail), (by first | (simp [(ke i c hc).ops]; done) | fail)⟩⟩ rfl | exact bw_codes ⟨(by first | (simp [mt]; done) | fail), fun i c hc => ⟨(by first | (simp [(me i c hc).params]; done) | fail), (by first | (simp [(me i c hc).fasts]; done) | fail), (by first | (simp [(me i c hc).cells]; done) | fail), (by first | (simp [(me i c hc).frees]; done) | fail), (by first | (simp [(me i c hc).ops]; done) | fail)⟩⟩ rfl | exact bw_codes ⟨(by first | (simp [nt]; done) | fail), fun i c hc => ⟨(by first | (simp [(ne i c hc).params]; done) | fail), (by first | (simp [(ne i c hc).fasts]; done) | fail), (by first | (simp [(ne i c hc).cells]; done) | fail), (by first | (simp [(ne i c hc).frees]; done) | fail), (by first | (simp [(ne i c hc).ops]; done) | fail)⟩⟩ rfl)); done)
      | fail)
    (hF : FnOk X.P X.gl f az R) (h : ∀ y H', R (.s d) y H' → y.cln = true ∧ K (((st.kill (.s d)).addH d (hcln H')).put (some d) y)) :
    SemOp X ⟨some d, .call ⟨.value (.func f), args, Ts⟩, ty, pos, aft, g⟩ K E st := o_callg hd ha hB hF h
end
structure KTag (p : Prop) : Prop where
  h : p
theorem k_run {G G' : Prop} (k : G') (h : KTag G' → G := by
  intro kk
  repeat' (first
    | refine w_seq ?_ | refine w_block ?_ | refine w_skip ?_ | refine w_label ?_ | refine w_reg fun K hK => ?_
    | ((with_reducible refine s_end hK ?_); clear hK K) | (with_reducible refine s_end hK ?_)
    | (with_reducible first | refine then_normal ?_ | refine in_normal ?_ | refine then_exit ?_ | refine in_exit ?_ | refine then_ret ?_ | refine in_ret ?_ | refine s_nil ?_ | refine in_other (by decide) ?_)
    | refine w_exit ?_
    | refine w_ret ?_
    | (with_reducible refine s_none ?_)
    | ((with_reducible refine g_id ?_); refine x_guard (h := ?_))
    | (with_reducible first | refine gx_tt ?_ | refine gx_ff ?_ | refine x_tf (h := ?_) | refine x_ft (h := ?_) | refine x_u (h := ?_) | refine x_assign (h := ?_) | refine x_box (h := ?_) | refine x_alloc (h := ?_) | refine x_store0 (h := ?_) | refine x_append0 (h := ?_) | refine x_appendM (h := ?_) | refine x_append (h := ?_) | refine x_store (h := ?_) | refine x_make (h := ?_) | refine x_build (h := ?_))
    | ((with_reducible refine o_idc c1 rfl ?_); refine kx_call (hF := c1) (h := ?_))
    | ((with_reducible refine o_idc c2 rfl ?_); refine kx_call (hF := c2) (h := ?_))
    | ((with_reducible refine o_idc c3 rfl ?_); refine kx_call (hF := c3) (h := ?_))
    | ((with_reducible refine o_idc c4 rfl ?_); refine kx_call (hF := c4) (h := ?_))
    | ((with_reducible refine o_idc c5 rfl ?_); refine kx_call (hF := c5) (h := ?_))
    | ((with_reducible refine o_idc c6 rfl ?_); refine kx_call (hF := c6) (h := ?_))
    | ((with_reducible refine o_idc d1 rfl ?_); refine kx_callh (hF := d1) (h := ?_))
    | ((with_reducible refine o_idc d2 rfl ?_); refine kx_callh (hF := d2) (h := ?_))
    | ((with_reducible refine o_idc d3 rfl ?_); refine kx_callh (hF := d3) (h := ?_))
    | ((with_reducible refine o_idc d4 rfl ?_); refine kx_callh (hF := d4) (h := ?_))
    | ((with_reducible refine o_idc e1 rfl ?_); refine kx_callg (hF := e1) (h := ?_))
    | ((with_reducible refine o_idc e2 rfl ?_); refine kx_callg (hF := e2) (h := ?_))
    | (with_reducible refine x_q (h := ?_))
    | (with_reducible refine gx_s (fun ht => ?_) (fun ht => ?_))
    | refine x_condt (h1 := ?_) | refine x_condf (h1 := ?_)
    | ((with_reducible refine a_end hK ?_); clear hK K) | (with_reducible refine a_end hK ?_)
    | ((with_reducible refine a_id ?_); first | refine xa_q (h := ?_) | refine xa_qt (h := ?_) | refine xa_qf (h := ?_) | refine xa_qu (h := ?_))
    | ((with_reducible refine a_id ?_); refine xa_gq (h1 := fun ht => ?_) (h2 := fun ht => ?_))
    | refine a_l rfl ?_ | refine a_l2 ?_ ?_ | (with_reducible refine And.intro ?_ ?_) | exact st_nil | refine xa_st (h2 := ?_)
    | fail)
  first | exact kk.h | (revert hK; revert K; exact kk.h)) : G := h ⟨k⟩
theorem k_rund {G G' : Prop} (k : G') (h : KTag G' → G := by
  intro kk K hK
  repeat' (first
    | refine w_seq ?_ | refine w_block ?_ | refine w_skip ?_ | refine w_label ?_ | refine w_reg fun K hK => ?_
    | ((with_reducible refine s_end hK ?_); clear hK K) | (with_reducible refine s_end hK ?_)
    | (with_reducible first | refine then_normal ?_ | refine in_normal ?_ | refine then_exit ?_ | refine in_exit ?_ | refine then_ret ?_ | refine in_ret ?_ | refine s_nil ?_ | refine in_other (by decide) ?_)
    | refine w_exit ?_
    | refine w_ret ?_
    | (with_reducible refine s_none ?_)
    | ((with_reducible refine g_id ?_); refine x_guard (h := ?_))
    | (with_reducible first | refine gx_tt ?_ | refine gx_ff ?_ | refine x_tf (h := ?_) | refine x_ft (h := ?_) | refine x_u (h := ?_) | refine x_assign (h := ?_) | refine x_box (h := ?_) | refine x_alloc (h := ?_) | refine x_store0 (h := ?_) | refine x_append0 (h := ?_) | refine x_appendM (h := ?_) | refine x_append (h := ?_) | refine x_store (h := ?_) | refine x_make (h := ?_) | refine x_build (h := ?_))
    | ((with_reducible refine o_idc c1 rfl ?_); refine kx_call (hF := c1) (h := ?_))
    | ((with_reducible refine o_idc c2 rfl ?_); refine kx_call (hF := c2) (h := ?_))
    | ((with_reducible refine o_idc c3 rfl ?_); refine kx_call (hF := c3) (h := ?_))
    | ((with_reducible refine o_idc c4 rfl ?_); refine kx_call (hF := c4) (h := ?_))
    | ((with_reducible refine o_idc c5 rfl ?_); refine kx_call (hF := c5) (h := ?_))
    | ((with_reducible refine o_idc c6 rfl ?_); refine kx_call (hF := c6) (h := ?_))
    | ((with_reducible refine o_idc d1 rfl ?_); refine kx_callh (hF := d1) (h := ?_))
    | ((with_reducible refine o_idc d2 rfl ?_); refine kx_callh (hF := d2) (h := ?_))
    | ((with_reducible refine o_idc d3 rfl ?_); refine kx_callh (hF := d3) (h := ?_))
    | ((with_reducible refine o_idc d4 rfl ?_); refine kx_callh (hF := d4) (h := ?_))
    | ((with_reducible refine o_idc e1 rfl ?_); refine kx_callg (hF := e1) (h := ?_))
    | ((with_reducible refine o_idc e2 rfl ?_); refine kx_callg (hF := e2) (h := ?_))
    | (with_reducible refine x_q (h := ?_))
    | (with_reducible refine gx_s (fun ht => ?_) (fun ht => ?_))
    | refine x_condt (h1 := ?_) | refine x_condf (h1 := ?_)
    | ((with_reducible refine a_end hK ?_); clear hK K) | (with_reducible refine a_end hK ?_)
    | ((with_reducible refine a_id ?_); first | refine xa_q (h := ?_) | refine xa_qt (h := ?_) | refine xa_qf (h := ?_) | refine xa_qu (h := ?_))
    | ((with_reducible refine a_id ?_); refine xa_gq (h1 := fun ht => ?_) (h2 := fun ht => ?_))
    | refine a_l rfl ?_ | refine a_l2 ?_ ?_ | (with_reducible refine And.intro ?_ ?_) | exact st_nil | refine xa_st (h2 := ?_)
    | fail)
  first | exact kk.h | (revert hK; revert K; exact kk.h)) : G := h ⟨k⟩
end Go.Hm
end
section
namespace Go.Hm
open Go Go.RowKit Go.ChangeShapes Go.WideShapes Go.Deep
end Go.Hm
end
