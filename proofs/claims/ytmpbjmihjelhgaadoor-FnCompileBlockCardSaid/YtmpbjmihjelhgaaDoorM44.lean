/-
  Own texts, joined by mkclaim.py: Kw, Kx.
-/
import Derived.Test.YtmpbjmihjelhgaaDoorM32
import Derived.Test.YtmpbjmihjelhgaaDoorM27
import Derived.Test.YtmpbjmihjelhgaaDoorM25
set_option linter.unusedSimpArgs false
set_option linter.unusedVariables false

section
/-
  The program's FastsOf, CellsOf, FreesOf and SymbolOf of valid programs, and join: what they are.
-/
set_option maxRecDepth 100000
set_option maxHeartbeats 2000000
set_option linter.unusedSimpArgs false
namespace Go.Proofs.YtmpbjmihjelhgaaDoor
open Go Go.Hm Go.Proofs

theorem FastsOf_fn (gl) (p : Prg) (b : Nat) (k : Blk) (hk : p[b]? = some k) (hs : Sml p) (hv : progOk p = true) : FnOk Tryd.prog gl 26 [pav p, iv b] (fun r y H' => y = .hs r 1 0 (fastsL p b).length ∧ H' r = some (.row 1 (irows (fastsL p b)))) := by
  have hbl := (List.getElem?_eq_some_iff.1 hk).1
  have hp := (lookP_of hs hv).sh
  have hh := hp.heads
  refine FnOk.of_sem Tryd.func26 rfl (by kernel_rfl) (rs := [.tmp 4]) rfl Tryd.ntmps26 (Nat.le_of_ble_eq_true rfl) fun C w g root => ?_
  have fx := And.intro hv <| hbl
  have c1 := impl_ValidProgram_fn gl p hs
  have c2 := impl_isBlock_fn gl p b
  have e1 := scopesOf_fn gl p hs hh hp.names
  refine k_run ?_
  clear fx c1 c2 e1
  rintro K hK y H' ⟨rfl, hO⟩
  obtain ⟨hc1, hc2⟩ := hO.hcln
  refine ⟨by simp, ?_⟩
  have fx :=  hc1
  have d1 := fastsOfA_fn gl p hp b k hk
  refine k_run ?_
  clear fx d1
  exact e_list (t := 4) (by first | (simp []; done) | (simp []; rfl)) (by first | (simp []; done) | (simp []; rfl)) (by simp)
theorem CellsOf_fn (gl) (p : Prg) (b : Nat) (k : Blk) (hk : p[b]? = some k) (hs : Sml p) (hv : progOk p = true) : FnOk Tryd.prog gl 28 [pav p, iv b] (fun r y H' => y = .hs r 1 0 (cellsL p b).length ∧ H' r = some (.row 1 (irows (cellsL p b)))) := by
  have hbl := (List.getElem?_eq_some_iff.1 hk).1
  have hp := (lookP_of hs hv).sh
  have hh := hp.heads
  refine FnOk.of_sem Tryd.func28 rfl (by kernel_rfl) (rs := [.tmp 4]) rfl Tryd.ntmps28 (Nat.le_of_ble_eq_true rfl) fun C w g root => ?_
  have fx := And.intro hv <| hbl
  have c1 := impl_ValidProgram_fn gl p hs
  have c2 := impl_isBlock_fn gl p b
  have e1 := scopesOf_fn gl p hs hh hp.names
  refine k_run ?_
  clear fx c1 c2 e1
  rintro K hK y H' ⟨rfl, hO⟩
  obtain ⟨hc1, hc2⟩ := hO.hcln
  refine ⟨by simp, ?_⟩
  have fx :=  hc1
  have c1 := cellSet_fn gl p hp b k hk
  have d1 := cellsList_fn gl p b
  refine k_run ?_
  clear fx c1 d1
  exact e_list (t := 4) (by first | (simp []; done) | (simp []; rfl)) (by first | (simp []; done) | (simp []; rfl)) (by simp)
theorem FreesOf_fn (gl) (p : Prg) (b : Nat) (k : Blk) (hk : p[b]? = some k) (hs : Sml p) (hv : progOk p = true) : FnOk Tryd.prog gl 29 [pav p, iv b] (fun r y H' => y = .hs r 1 0 (freesL p b).length ∧ H' r = some (.row 1 (irows (freesL p b)))) := by
  have hbl := (List.getElem?_eq_some_iff.1 hk).1
  have hp := (lookP_of hs hv).sh
  have hh := hp.heads
  refine FnOk.of_sem Tryd.func29 rfl (by kernel_rfl) (rs := [.tmp 4]) rfl Tryd.ntmps29 (Nat.le_of_ble_eq_true rfl) fun C w g root => ?_
  have fx := And.intro hv <| hbl
  have c1 := impl_ValidProgram_fn gl p hs
  have c2 := impl_isBlock_fn gl p b
  have e1 := scopesOf_fn gl p hs hh hp.names
  refine k_run ?_
  clear fx c1 c2 e1
  rintro K hK y H' ⟨rfl, hO⟩
  obtain ⟨hc1, hc2⟩ := hO.hcln
  refine ⟨by simp, ?_⟩
  have fx :=  hc1
  have d1 := freesOf_fn gl p hp b hbl
  refine k_run ?_
  clear fx d1
  exact e_list (t := 4) (by first | (simp []; done) | (simp []; rfl)) (by first | (simp []; done) | (simp []; rfl)) (by simp)
end Go.Proofs.YtmpbjmihjelhgaaDoor
end

section
/-
  The law that names are loaded from where they are.
-/
set_option maxRecDepth 100000
set_option maxHeartbeats 4000000
set_option linter.unusedSimpArgs false
namespace Go.Proofs.YtmpbjmihjelhgaaDoor
open Go Go.Hm Go.Proofs

end Go.Proofs.YtmpbjmihjelhgaaDoor
end
