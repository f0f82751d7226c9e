/-
  Own texts, joined by mkclaim.py: Lr.
-/
import Derived.Test.YtmpbjmihjelhgaaDoorM14
import Derived.Test.YtmpbjmihjelhgaaDoorM10
import Derived.WalkKit
import Derived.ProofKit
import Derived.OpenShut
set_option linter.unusedSimpArgs false
set_option linter.unusedVariables false

section
/-
  How a program is read that is handed to a law. Own work.
-/
namespace Go.Proofs.YtmpbjmihjelhgaaDoor
open Go.ChangeShapes Go.WideShapes Go.ChangeAt Go.RowKit Go.Deep Go.Hm

theorem law_u3 : Tryd.prog.underlying 3 = some (.int .i64) := by kernel_rfl
theorem law_c3 : Tryd.prog.cellsOf 3 = 1 := by kernel_rfl
theorem law_b3 : Tryd.prog.bytesOf 3 = 8 := by kernel_rfl
theorem law_u145 : Tryd.prog.underlying 157 = some (.struct #[{ name := "Kind", type := 3, offset := 0, embedded := false, tag := "", pkgPath := "", byteOffset := 0 }, { name := "To", type := 3, offset := 1, embedded := false, tag := "", pkgPath := "", byteOffset := 8 }, { name := "A", type := 3, offset := 2, embedded := false, tag := "", pkgPath := "", byteOffset := 16 }, { name := "B", type := 3, offset := 3, embedded := false, tag := "", pkgPath := "", byteOffset := 24 }]) := by kernel_rfl
theorem law_o145 : oneCellFields Tryd.prog #[{ name := "Kind", type := 3, offset := 0, embedded := false, tag := "", pkgPath := "", byteOffset := 0 }, { name := "To", type := 3, offset := 1, embedded := false, tag := "", pkgPath := "", byteOffset := 8 }, { name := "A", type := 3, offset := 2, embedded := false, tag := "", pkgPath := "", byteOffset := 16 }, { name := "B", type := 3, offset := 3, embedded := false, tag := "", pkgPath := "", byteOffset := 24 }] = true := by kernel_rfl
theorem law_c145 : Tryd.prog.cellsOf 157 = 4 := by kernel_rfl
theorem law_b145 : Tryd.prog.bytesOf 157 = 32 := by kernel_rfl
theorem law_u90 : Tryd.prog.underlying 116 = some (.struct #[{ name := "Kind", type := 3, offset := 0, embedded := false, tag := "", pkgPath := "", byteOffset := 0 }, { name := "Parent", type := 3, offset := 1, embedded := false, tag := "", pkgPath := "", byteOffset := 8 }, { name := "Params", type := 34, offset := 2, embedded := false, tag := "", pkgPath := "", byteOffset := 16 }, { name := "Body", type := 114, offset := 3, embedded := false, tag := "", pkgPath := "", byteOffset := 40 }]) := by kernel_rfl
theorem law_o90 : oneCellFields Tryd.prog #[{ name := "Kind", type := 3, offset := 0, embedded := false, tag := "", pkgPath := "", byteOffset := 0 }, { name := "Parent", type := 3, offset := 1, embedded := false, tag := "", pkgPath := "", byteOffset := 8 }, { name := "Params", type := 34, offset := 2, embedded := false, tag := "", pkgPath := "", byteOffset := 16 }, { name := "Body", type := 114, offset := 3, embedded := false, tag := "", pkgPath := "", byteOffset := 40 }] = true := by kernel_rfl
theorem law_c90 : Tryd.prog.cellsOf 116 = 4 := by kernel_rfl
theorem law_b90 : Tryd.prog.bytesOf 116 = 64 := by kernel_rfl
theorem law_u24 : Tryd.prog.underlying 41 = some (.struct #[{ name := "Blocks", type := 39, offset := 0, embedded := false, tag := "", pkgPath := "", byteOffset := 0 }]) := by kernel_rfl
theorem law_o24 : oneCellFields Tryd.prog #[{ name := "Blocks", type := 39, offset := 0, embedded := false, tag := "", pkgPath := "", byteOffset := 0 }] = true := by kernel_rfl
theorem law_c24 : Tryd.prog.cellsOf 41 = 1 := by kernel_rfl
theorem law_u41 : Tryd.prog.underlying 34 = some (.slice 3) := by kernel_rfl
theorem law_u88 : Tryd.prog.underlying 114 = some (.slice 157) := by kernel_rfl
theorem law_u22 : Tryd.prog.underlying 39 = some (.slice 116) := by kernel_rfl
set_option maxRecDepth 100000 in
theorem rd_program {H : Type} {enc : TypeId × Value → H} {w : World} {r : Reach} {b0 : Nat} {v : Value} {d : DataW H} {p : List MemPlace} (hv : Value.okWide Tryd.prog w r b0 41 v) (h : DataW.Trod enc Tryd.prog w 0 (fun _ => true) true 41 v d p)
    (hw : ∀ m ∈ d.weights Tryd.prog 41, m ≤ reachBytes) : ∃ x : Prg, Big x ∧ RV (g0 w) w v (pav x) := by
  refine rd_prog (P := Tryd.prog) (w := w) (tp := (41 : TypeId)) (v := v) (d := d) (p := p) (r := r) (q0 := b0) (enc := enc) law_u3 law_c3 (by rw [law_b3]; decide) law_u145 law_o145 law_c145 (by rw [law_b145]; decide) rfl rfl rfl rfl law_u41 law_u88 law_u90 law_o90 law_c90 (by rw [law_b90]; decide) rfl rfl rfl rfl law_u22 law_u24 law_o24 law_c24 rfl ?_ ?_ ?_
  · assumption
  · assumption
  · assumption

theorem law_own : ownKnob Tryd.prog.godebug = none := by kernel_rfl
theorem law_laid : laidOutB Tryd.prog = true := by kernel_rfl
theorem law_bool : Tryd.prog.underlying 4 = some .bool := by kernel_rfl

end Go.Proofs.YtmpbjmihjelhgaaDoor
end
