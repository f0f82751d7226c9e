/-
  Own texts, joined by merge.py: Lr.
-/
import Derived.Test.YtopgafhjmbfaoaaAF
import Derived.Test.YtopgafhjmbfaoaaA6
import Derived.WalkKit
import Derived.ProofKit
import Derived.OpenShut

section
/-
  How a program is read that is handed to a law. Own work.
-/
namespace Go.Proofs.Ytopgafhjmbfaoaa
open Go.ChangeShapes Go.WideShapes Go.ChangeAt Go.RowKit Go.Deep Go.Hm

theorem law_u3 : Try.prog.underlying 3 = some (.int .i64) := by kernel_rfl
theorem law_c3 : Try.prog.cellsOf 3 = 1 := by kernel_rfl
theorem law_b3 : Try.prog.bytesOf 3 = 8 := by kernel_rfl
theorem law_u145 : Try.prog.underlying 145 = some (.struct #[{ name := "Kind", type := 3, offset := 0, embedded := false, tag := "", pkgPath := "", byteOffset := 0 }, { name := "To", type := 3, offset := 1, embedded := false, tag := "", pkgPath := "", byteOffset := 8 }, { name := "A", type := 3, offset := 2, embedded := false, tag := "", pkgPath := "", byteOffset := 16 }, { name := "B", type := 3, offset := 3, embedded := false, tag := "", pkgPath := "", byteOffset := 24 }]) := by kernel_rfl
theorem law_o145 : oneCellFields Try.prog #[{ name := "Kind", type := 3, offset := 0, embedded := false, tag := "", pkgPath := "", byteOffset := 0 }, { name := "To", type := 3, offset := 1, embedded := false, tag := "", pkgPath := "", byteOffset := 8 }, { name := "A", type := 3, offset := 2, embedded := false, tag := "", pkgPath := "", byteOffset := 16 }, { name := "B", type := 3, offset := 3, embedded := false, tag := "", pkgPath := "", byteOffset := 24 }] = true := by kernel_rfl
theorem law_c145 : Try.prog.cellsOf 145 = 4 := by kernel_rfl
theorem law_b145 : Try.prog.bytesOf 145 = 32 := by kernel_rfl
theorem law_u90 : Try.prog.underlying 90 = some (.struct #[{ name := "Kind", type := 3, offset := 0, embedded := false, tag := "", pkgPath := "", byteOffset := 0 }, { name := "Parent", type := 3, offset := 1, embedded := false, tag := "", pkgPath := "", byteOffset := 8 }, { name := "Params", type := 41, offset := 2, embedded := false, tag := "", pkgPath := "", byteOffset := 16 }, { name := "Body", type := 88, offset := 3, embedded := false, tag := "", pkgPath := "", byteOffset := 40 }]) := by kernel_rfl
theorem law_o90 : oneCellFields Try.prog #[{ name := "Kind", type := 3, offset := 0, embedded := false, tag := "", pkgPath := "", byteOffset := 0 }, { name := "Parent", type := 3, offset := 1, embedded := false, tag := "", pkgPath := "", byteOffset := 8 }, { name := "Params", type := 41, offset := 2, embedded := false, tag := "", pkgPath := "", byteOffset := 16 }, { name := "Body", type := 88, offset := 3, embedded := false, tag := "", pkgPath := "", byteOffset := 40 }] = true := by kernel_rfl
theorem law_c90 : Try.prog.cellsOf 90 = 4 := by kernel_rfl
theorem law_b90 : Try.prog.bytesOf 90 = 64 := by kernel_rfl
theorem law_u24 : Try.prog.underlying 24 = some (.struct #[{ name := "Blocks", type := 22, offset := 0, embedded := false, tag := "", pkgPath := "", byteOffset := 0 }]) := by kernel_rfl
theorem law_o24 : oneCellFields Try.prog #[{ name := "Blocks", type := 22, offset := 0, embedded := false, tag := "", pkgPath := "", byteOffset := 0 }] = true := by kernel_rfl
theorem law_c24 : Try.prog.cellsOf 24 = 1 := by kernel_rfl
theorem law_u41 : Try.prog.underlying 41 = some (.slice 3) := by kernel_rfl
theorem law_u88 : Try.prog.underlying 88 = some (.slice 145) := by kernel_rfl
theorem law_u22 : Try.prog.underlying 22 = some (.slice 90) := by kernel_rfl
set_option maxRecDepth 100000 in
theorem rd_program {H : Type} {enc : TypeId × Value → H} {w : World} {r : Reach} {b0 : Nat} {v : Value} {d : DataW H} {p : List MemPlace} (hv : Value.okWide Try.prog w r b0 24 v) (h : DataW.Trod enc Try.prog w 0 (fun _ => true) true 24 v d p)
    (hw : ∀ m ∈ d.weights Try.prog 24, m ≤ reachBytes) : ∃ x : Prg, Big x ∧ RV (g0 w) w v (pav x) := by
  refine rd_prog (P := Try.prog) (w := w) (tp := (24 : TypeId)) (v := v) (d := d) (p := p) (r := r) (q0 := b0) (enc := enc) law_u3 law_c3 (by rw [law_b3]; decide) law_u145 law_o145 law_c145 (by rw [law_b145]; decide) rfl rfl rfl rfl law_u41 law_u88 law_u90 law_o90 law_c90 (by rw [law_b90]; decide) rfl rfl rfl rfl law_u22 law_u24 law_o24 law_c24 rfl ?_ ?_ ?_
  · assumption
  · assumption
  · assumption

theorem law_own : ownKnob Try.prog.godebug = none := by kernel_rfl
theorem law_laid : laidOutB Try.prog = true := by kernel_rfl
theorem law_bool : Try.prog.underlying 4 = some .bool := by kernel_rfl

end Go.Proofs.Ytopgafhjmbfaoaa
end
