/-
  Own texts, joined by mkclaim.py: Kz, Ks.
-/
import Derived.Test.YtmpbjmihjelhgaaDoorM32
set_option linter.unusedSimpArgs false
set_option linter.unusedVariables false

section
/-
  What is known of the heights of a block's orders.
-/
set_option maxRecDepth 100000
set_option maxHeartbeats 1000000
set_option linter.unusedSimpArgs false
namespace Go.Proofs.YtmpbjmihjelhgaaDoor
open Go Go.Hm Go.Proofs

/-- what is known of the heights of a block's orders -/
structure HgtOk (L : List Int) (ops : List (Int × Int)) : Prop where
  len : L.length = ops.length
  small : ops.length ≤ 60
  at' : ∀ (i : Nat) v o, L[i]? = some v → ops[i]? = some o → 0 ≤ v ∧ v ≤ 2 ∧ (o.1 = 0 → v = 0)
  last : ∀ n, L.length = n + 1 → L[n]? = some 0
theorem heights_ok {p : Prg} {b : Int} (hs : Sml p) : HgtOk (heightsG p b) (codeG p b).ops := by
  cases hb : blkAt p b
  · have h1 : heightsG p b = [] := by simp [heightsG, hb]
    have h2 : codeG p b = noCode := by simp [codeG, hb]
    rw [h1, h2]
    exact ⟨rfl, by simp, fun i v o h => by simp at h, fun n h => by simp at h⟩
  · obtain ⟨B, k, rfl, hk, hP, _⟩ := blkAt_parts hs hb
    have h1 : codeG p B = codeL p B := by simp [codeG, hb]
    have hops : (codeL p B).ops = opsL p B := by simp [codeL, hk]
    have h2 : heightsG p B = heightsL (opsL p B) := by simp [heightsG, hb]
    have hlev := opsL_lev (b := B) hP.sh
    rw [h1, hops, h2]
    have hget : ∀ i, i < (opsL p B).length → (heightsL (opsL p B))[i]? = some (sumO ((opsL p B).take (i + 1))) := fun i hi => by simp [heightsL, hi]
    refine ⟨by simp [heightsL], opsL_len hP.sh, fun i v o hv ho => ?_, fun n hn => ?_⟩
    · have hi := (List.getElem?_eq_some_iff.1 ho).1
      rw [hget i hi] at hv
      obtain rfl := Option.some.inj hv
      exact hlev.at' i o ho
    · have hl : (opsL p B).length = n + 1 := by simpa [heightsL] using hn
      rw [hget n (by omega), ← hl, List.take_length, hlev.sum]
end Go.Proofs.YtmpbjmihjelhgaaDoor
end

section
/-
  The law that statements leave nothing behind.
-/
set_option maxRecDepth 100000
set_option maxHeartbeats 4000000
set_option linter.unusedSimpArgs false
namespace Go.Proofs.YtmpbjmihjelhgaaDoor
open Go Go.Hm Go.Proofs

end Go.Proofs.YtmpbjmihjelhgaaDoor
end
