/-
  Own texts, joined by mkclaim.py: Hm92.
-/
import Derived.Test.YtcbkblboonkfhaaGreatS17
set_option linter.unusedSimpArgs false
set_option linter.unusedVariables false
set_option maxRecDepth 100000
set_option maxHeartbeats 4000000

section
namespace Go.Hm
open Go Go.RowKit
def shRows (P Q : Nm) (p : Prg) (b : Nat) (L : List Stm) : List (List AV) := p.mapIdx fun i k => [iv k.kind, iv k.parent, .hs (.c P i 2) 1 0 k.params.length, if i = b then .hs (.c Q b 3) 4 0 L.length else .hs (.c P i 3) 4 0 k.body.length]
section
variable {P Q : Nm} {p : Prg} {b i a len : Nat} {L : List Stm} {f : Nm → Option Nm} {hp : Nm → Option AO}
@[simp] theorem shRows_len : (shRows P Q p b L).length = p.length := by simp [shRows]
@[simp] theorem shRows_get : (shRows P Q p b L)[i]? = (p[i]?).map fun k => [iv k.kind, iv k.parent, .hs (.c P i 2) 1 0 k.params.length, if i = b then .hs (.c Q b 3) 4 0 L.length else .hs (.c P i 3) 4 0 k.body.length] := by simp [shRows]
theorem shRows_put {m : Nm} (hl : len = L.length) (h : ∀ i j, f (.c P i j) = some (.c P i j)) (hm : f m = some (.c Q b 3)) : (rowsSet (pRows P p) b 3 [.hs m 4 0 len]).map (fun r => r.map (AV.tr f)) = shRows P Q p b L := by
  subst hl
  apply List.ext_getElem?
  intro i
  simp only [rowsSet, List.getElem?_modify, List.getElem?_map, pRows_get, shRows_get]
  cases hi : p[i]? with
  | none => simp
  | some k =>
    by_cases e : b = i
    · subst e
      simp [hm, h]
    · simp [e, h, show ¬ i = b from fun e' => e e'.symm]
theorem bw_share {k : Blk} (hk : p[b]? = some k) (hq : hp Q = some (.row 4 (shRows P Q p b L))) (h1 : ∀ (i : Nat) k, p[i]? = some k → hp (.c P i 2) = some (.row 1 (irows k.params))) (h2 : ∀ (i : Nat) k, p[i]? = some k → hp (.c P i 3) = some (.row 4 (srows k.body))) (h3 : hp (.c Q b 3) = some (.row 4 (srows L))) (hl : len = p.length) : Bw hp noD (.hs Q 4 0 len) (ksl (setBody p b L)) := by
  refine bw_progN hq (by simp) (by simp [hl]) fun i k' hk' => ?_
  have hi : i < p.length := by
    have := (gS hk').1
    rwa [setBody_len] at this
  obtain ⟨q, hq'⟩ : ∃ q, p[i]? = some q := ⟨_, gE hi⟩
  rw [setBody_get hq'] at hk'
  obtain rfl := Option.some.inj hk'
  by_cases e : b = i
  · subst e
    exact ⟨.c P b 2, .c Q b 3, by simp [hq'], by simp [h1 b q hq'], by simpa using h3⟩
  · exact ⟨.c P i 2, .c P i 3, by simp [hq', e, show ¬ i = b from fun e' => e e'.symm], by simp [h1 i q hq', e], by simp [h2 i q hq', e]⟩
theorem idleT_row {r : List Int} (h : (idleT p)[b]? = some r) : r.length ≤ 12 ∨ ∃ k, p[b]? = some k ∧ 12 < k.body.length := by
  obtain ⟨hb, rfl⟩ := idleT_get h
  obtain ⟨k, hk⟩ : ∃ k, p[b]? = some k := ⟨_, gE hb⟩
  by_cases hk12 : k.body.length ≤ 12
  · left
    rw [idleRow_eq hk]
    exact Nat.le_trans idleTo_len hk12
  · exact .inr ⟨k, hk, by omega⟩
end
end Go.Hm
end
