/-
  DERIVED. GIVEN WITH THE SEED: THE CARDS: each row of YtbgmnmnoaamgkaaGreatDoorRows.lean that lists a variable, with what it lists TIED to the program's text (the seventh form; the later family's looks); each row that meets fmt, with fmt's text TOLD by the authors' own Lean function (tested against real Go, not proved from fmt's source: count such statements apart). THE CARD IS WHAT COUNTS. Prove the row's statement (the work); the ties are given (YtbgmnmnoaamgkaaGreatDoorTie.lean); close each card by the builder's one call (the guide's Derived/Test/ToyasCard.lean, 'card_holds'). Laid BY PROGRAM, IN A SANDBOX (cutbox-door.mjs). By AI agents, Wed Nov 11 2026. No macro, syntax, notation, axiom, sorry.
-/
import Derived.Test.YtbgmnmnoaamgkaaGreatDoorRows
import GoSem.ClaimSeven
namespace Go.Proofs.YtbgmnmnoaamgkaaGreatDoor
namespace Rows

/-- THE TIED CARD OF 'laws.FnExactCellsMade'. -/
def fnExactCellsMadeCard : Claim7 := { stood := { row := fnExactCellsMadeRow, standIns := [], harness := (true, "f6756d63a4073c431efe5170520b0f6c2268769456443bfc8cc82c4991f7f657"), looks := true }, kinds := [], alts := [], laidByText := true, laidKinds := [.data], laidTests := true, laidLooks := .later }
def FnExactCellsMadeCardSaid : Prop := Claim7.holds Tryz.pinned (.plain (OpenSpec.ofChange fnExactCellsMadeSpec)) fnExactCellsMadeCard

/-- THE TIED CARD OF 'laws.FnExactFramesMade'. -/
def fnExactFramesMadeCard : Claim7 := { stood := { row := fnExactFramesMadeRow, standIns := [], harness := (true, "f6756d63a4073c431efe5170520b0f6c2268769456443bfc8cc82c4991f7f657"), looks := true }, kinds := [], alts := [], laidByText := true, laidKinds := [.data], laidTests := true, laidLooks := .later }
def FnExactFramesMadeCardSaid : Prop := Claim7.holds Tryz.pinned (.plain (OpenSpec.ofChange fnExactFramesMadeSpec)) fnExactFramesMadeCard

/-- THE TIED CARD OF 'laws.FnFramesMade'. -/
def fnFramesMadeCard : Claim7 := { stood := { row := fnFramesMadeRow, standIns := [], harness := (true, "f6756d63a4073c431efe5170520b0f6c2268769456443bfc8cc82c4991f7f657"), looks := true }, kinds := [], alts := [], laidByText := true, laidKinds := [.data], laidTests := true, laidLooks := .later }
def FnFramesMadeCardSaid : Prop := Claim7.holds Tryz.pinned (.plain (OpenSpec.ofChange fnFramesMadeSpec)) fnFramesMadeCard

/-- THE TIED CARD OF 'laws.FnCellsMade'. -/
def fnCellsMadeCard : Claim7 := { stood := { row := fnCellsMadeRow, standIns := [], harness := (true, "f6756d63a4073c431efe5170520b0f6c2268769456443bfc8cc82c4991f7f657"), looks := true }, kinds := [], alts := [], laidByText := true, laidKinds := [.data], laidTests := true, laidLooks := .later }
def FnCellsMadeCardSaid : Prop := Claim7.holds Tryz.pinned (.plain (OpenSpec.ofChange fnCellsMadeSpec)) fnCellsMadeCard

/-- THE TIED CARD OF 'laws.FnExactTraceByCode'. -/
def fnExactTraceByCodeCard : Claim7 := { stood := { row := fnExactTraceByCodeRow, standIns := [], harness := (true, "f6756d63a4073c431efe5170520b0f6c2268769456443bfc8cc82c4991f7f657"), looks := true }, kinds := [], alts := [], laidByText := true, laidKinds := [.data], laidTests := true, laidLooks := .later }
def FnExactTraceByCodeCardSaid : Prop := Claim7.holds Tryz.pinned (.plain (OpenSpec.ofChange fnExactTraceByCodeSpec)) fnExactTraceByCodeCard

/-- THE TIED CARD OF 'laws.FnExactRunCode'. -/
def fnExactRunCodeCard : Claim7 := { stood := { row := fnExactRunCodeRow, standIns := [], harness := (true, "f6756d63a4073c431efe5170520b0f6c2268769456443bfc8cc82c4991f7f657"), looks := true }, kinds := [], alts := [], laidByText := true, laidKinds := [.data], laidTests := true, laidLooks := .later }
def FnExactRunCodeCardSaid : Prop := Claim7.holds Tryz.pinned (.plain (OpenSpec.ofChange fnExactRunCodeSpec)) fnExactRunCodeCard

/-- THE TIED CARD OF 'laws.FnTraceByCode'. -/
def fnTraceByCodeCard : Claim7 := { stood := { row := fnTraceByCodeRow, standIns := [], harness := (true, "f6756d63a4073c431efe5170520b0f6c2268769456443bfc8cc82c4991f7f657"), looks := true }, kinds := [], alts := [], laidByText := true, laidKinds := [.data], laidTests := true, laidLooks := .later }
def FnTraceByCodeCardSaid : Prop := Claim7.holds Tryz.pinned (.plain (OpenSpec.ofChange fnTraceByCodeSpec)) fnTraceByCodeCard

/-- THE TIED CARD OF 'laws.FnRunCode'. -/
def fnRunCodeCard : Claim7 := { stood := { row := fnRunCodeRow, standIns := [], harness := (true, "f6756d63a4073c431efe5170520b0f6c2268769456443bfc8cc82c4991f7f657"), looks := true }, kinds := [], alts := [], laidByText := true, laidKinds := [.data], laidTests := true, laidLooks := .later }
def FnRunCodeCardSaid : Prop := Claim7.holds Tryz.pinned (.plain (OpenSpec.ofChange fnRunCodeSpec)) fnRunCodeCard

/-- THE SECOND FORM's CARD OF 'laws.FnExactCellsMade'. -/
def fnExactCellsMadeUptoCard : Claim7 := { stood := { row := fnExactCellsMadeUptoRow, standIns := [], harness := (true, "f6756d63a4073c431efe5170520b0f6c2268769456443bfc8cc82c4991f7f657"), looks := true }, kinds := [], alts := [], laidByText := true, laidKinds := [.data], laidTests := true, laidLooks := .later }
def FnExactCellsMadeUptoCardSaid : Prop := Claim7.holds Tryz.pinned (.plain (OpenSpec.upto fnExactCellsMadeSpec)) fnExactCellsMadeUptoCard

/-- THE SECOND FORM's CARD OF 'laws.FnExactFramesMade'. -/
def fnExactFramesMadeUptoCard : Claim7 := { stood := { row := fnExactFramesMadeUptoRow, standIns := [], harness := (true, "f6756d63a4073c431efe5170520b0f6c2268769456443bfc8cc82c4991f7f657"), looks := true }, kinds := [], alts := [], laidByText := true, laidKinds := [.data], laidTests := true, laidLooks := .later }
def FnExactFramesMadeUptoCardSaid : Prop := Claim7.holds Tryz.pinned (.plain (OpenSpec.upto fnExactFramesMadeSpec)) fnExactFramesMadeUptoCard

/-- THE SECOND FORM's CARD OF 'laws.FnFramesMade'. -/
def fnFramesMadeUptoCard : Claim7 := { stood := { row := fnFramesMadeUptoRow, standIns := [], harness := (true, "f6756d63a4073c431efe5170520b0f6c2268769456443bfc8cc82c4991f7f657"), looks := true }, kinds := [], alts := [], laidByText := true, laidKinds := [.data], laidTests := true, laidLooks := .later }
def FnFramesMadeUptoCardSaid : Prop := Claim7.holds Tryz.pinned (.plain (OpenSpec.upto fnFramesMadeSpec)) fnFramesMadeUptoCard

/-- THE SECOND FORM's CARD OF 'laws.FnCellsMade'. -/
def fnCellsMadeUptoCard : Claim7 := { stood := { row := fnCellsMadeUptoRow, standIns := [], harness := (true, "f6756d63a4073c431efe5170520b0f6c2268769456443bfc8cc82c4991f7f657"), looks := true }, kinds := [], alts := [], laidByText := true, laidKinds := [.data], laidTests := true, laidLooks := .later }
def FnCellsMadeUptoCardSaid : Prop := Claim7.holds Tryz.pinned (.plain (OpenSpec.upto fnCellsMadeSpec)) fnCellsMadeUptoCard

/-- THE SECOND FORM's CARD OF 'laws.FnExactTraceByCode'. -/
def fnExactTraceByCodeUptoCard : Claim7 := { stood := { row := fnExactTraceByCodeUptoRow, standIns := [], harness := (true, "f6756d63a4073c431efe5170520b0f6c2268769456443bfc8cc82c4991f7f657"), looks := true }, kinds := [], alts := [], laidByText := true, laidKinds := [.data], laidTests := true, laidLooks := .later }
def FnExactTraceByCodeUptoCardSaid : Prop := Claim7.holds Tryz.pinned (.plain (OpenSpec.upto fnExactTraceByCodeSpec)) fnExactTraceByCodeUptoCard

/-- THE SECOND FORM's CARD OF 'laws.FnExactRunCode'. -/
def fnExactRunCodeUptoCard : Claim7 := { stood := { row := fnExactRunCodeUptoRow, standIns := [], harness := (true, "f6756d63a4073c431efe5170520b0f6c2268769456443bfc8cc82c4991f7f657"), looks := true }, kinds := [], alts := [], laidByText := true, laidKinds := [.data], laidTests := true, laidLooks := .later }
def FnExactRunCodeUptoCardSaid : Prop := Claim7.holds Tryz.pinned (.plain (OpenSpec.upto fnExactRunCodeSpec)) fnExactRunCodeUptoCard

/-- THE SECOND FORM's CARD OF 'laws.FnTraceByCode'. -/
def fnTraceByCodeUptoCard : Claim7 := { stood := { row := fnTraceByCodeUptoRow, standIns := [], harness := (true, "f6756d63a4073c431efe5170520b0f6c2268769456443bfc8cc82c4991f7f657"), looks := true }, kinds := [], alts := [], laidByText := true, laidKinds := [.data], laidTests := true, laidLooks := .later }
def FnTraceByCodeUptoCardSaid : Prop := Claim7.holds Tryz.pinned (.plain (OpenSpec.upto fnTraceByCodeSpec)) fnTraceByCodeUptoCard

/-- THE SECOND FORM's CARD OF 'laws.FnRunCode'. -/
def fnRunCodeUptoCard : Claim7 := { stood := { row := fnRunCodeUptoRow, standIns := [], harness := (true, "f6756d63a4073c431efe5170520b0f6c2268769456443bfc8cc82c4991f7f657"), looks := true }, kinds := [], alts := [], laidByText := true, laidKinds := [.data], laidTests := true, laidLooks := .later }
def FnRunCodeUptoCardSaid : Prop := Claim7.holds Tryz.pinned (.plain (OpenSpec.upto fnRunCodeSpec)) fnRunCodeUptoCard
end Rows
end Go.Proofs.YtbgmnmnoaamgkaaGreatDoor
