/-
  DERIVED. GIVEN WITH THE SEED: THE CARDS: each row of YtdnebaieamppbaaGreatDoorRows.lean that lists a variable, with what it lists TIED to the program's text (the seventh form; the later family's looks); each row that meets fmt, with fmt's text TOLD by the authors' own Lean function (tested against real Go, not proved from fmt's source: count such statements apart). THE CARD IS WHAT COUNTS. Prove the row's statement (the work); the ties are given (YtdnebaieamppbaaGreatDoorTie.lean); close each card by the builder's one call (the guide's Derived/Test/ToyasCard.lean, 'card_holds'). Laid BY PROGRAM, IN A SANDBOX (cutbox-door.mjs). By AI agents, Wed Nov 11 2026. No macro, syntax, notation, axiom, sorry.
-/
import Derived.Test.YtdnebaieamppbaaGreatDoorRows
import GoSem.ClaimSeven
namespace Go.Proofs.YtdnebaieamppbaaGreatDoor
namespace Rows

/-- THE TIED CARD OF 'laws.FnTraceByCode'. -/
def fnTraceByCodeCard : Claim7 := { stood := { row := fnTraceByCodeRow, standIns := [], harness := (true, "0d9c960fbb666b6cc73923f44c79f902fcd93667a549c7f1eca2e3e1fe50e702"), looks := true }, kinds := [], alts := [], laidByText := true, laidKinds := [.data], laidTests := true, laidLooks := .later }
def FnTraceByCodeCardSaid : Prop := Claim7.holds Tryz.pinned (.plain (OpenSpec.ofChange fnTraceByCodeSpec)) fnTraceByCodeCard

/-- THE TIED CARD OF 'laws.FnRunCode'. -/
def fnRunCodeCard : Claim7 := { stood := { row := fnRunCodeRow, standIns := [], harness := (true, "0d9c960fbb666b6cc73923f44c79f902fcd93667a549c7f1eca2e3e1fe50e702"), looks := true }, kinds := [], alts := [], laidByText := true, laidKinds := [.data], laidTests := true, laidLooks := .later }
def FnRunCodeCardSaid : Prop := Claim7.holds Tryz.pinned (.plain (OpenSpec.ofChange fnRunCodeSpec)) fnRunCodeCard

/-- THE TIED CARD OF 'laws.FnExactViewsByCode'. -/
def fnExactViewsByCodeCard : Claim7 := { stood := { row := fnExactViewsByCodeRow, standIns := [], harness := (true, "0d9c960fbb666b6cc73923f44c79f902fcd93667a549c7f1eca2e3e1fe50e702"), looks := true }, kinds := [], alts := [], laidByText := true, laidKinds := [.data], laidTests := true, laidLooks := .later }
def FnExactViewsByCodeCardSaid : Prop := Claim7.holds Tryz.pinned (.plain (OpenSpec.ofChange fnExactViewsByCodeSpec)) fnExactViewsByCodeCard

/-- THE TIED CARD OF 'laws.FnViewsByCode'. -/
def fnViewsByCodeCard : Claim7 := { stood := { row := fnViewsByCodeRow, standIns := [], harness := (true, "0d9c960fbb666b6cc73923f44c79f902fcd93667a549c7f1eca2e3e1fe50e702"), looks := true }, kinds := [], alts := [], laidByText := true, laidKinds := [.data], laidTests := true, laidLooks := .later }
def FnViewsByCodeCardSaid : Prop := Claim7.holds Tryz.pinned (.plain (OpenSpec.ofChange fnViewsByCodeSpec)) fnViewsByCodeCard

/-- THE TIED CARD OF 'laws.FnDeepestRun'. -/
def fnDeepestRunCard : Claim7 := { stood := { row := fnDeepestRunRow, standIns := [], harness := (true, "0d9c960fbb666b6cc73923f44c79f902fcd93667a549c7f1eca2e3e1fe50e702"), looks := true }, kinds := [], alts := [], laidByText := true, laidKinds := [.data], laidTests := true, laidLooks := .later }
def FnDeepestRunCardSaid : Prop := Claim7.holds Tryz.pinned (.plain (OpenSpec.ofChange fnDeepestRunSpec)) fnDeepestRunCard

/-- THE TIED CARD OF 'laws.FnRenameIn'. -/
def fnRenameInCard : Claim7 := { stood := { row := fnRenameInRow, standIns := [], harness := (true, "0d9c960fbb666b6cc73923f44c79f902fcd93667a549c7f1eca2e3e1fe50e702"), looks := true }, kinds := [], alts := [], laidByText := true, laidKinds := [.data], laidTests := true, laidLooks := .later }
def FnRenameInCardSaid : Prop := Claim7.holds Tryz.pinned (.plain (OpenSpec.ofChange fnRenameInSpec)) fnRenameInCard

/-- THE SECOND FORM's CARD OF 'laws.FnTraceByCode'. -/
def fnTraceByCodeUptoCard : Claim7 := { stood := { row := fnTraceByCodeUptoRow, standIns := [], harness := (true, "0d9c960fbb666b6cc73923f44c79f902fcd93667a549c7f1eca2e3e1fe50e702"), looks := true }, kinds := [], alts := [], laidByText := true, laidKinds := [.data], laidTests := true, laidLooks := .later }
def FnTraceByCodeUptoCardSaid : Prop := Claim7.holds Tryz.pinned (.plain (OpenSpec.upto fnTraceByCodeSpec)) fnTraceByCodeUptoCard

/-- THE SECOND FORM's CARD OF 'laws.FnRunCode'. -/
def fnRunCodeUptoCard : Claim7 := { stood := { row := fnRunCodeUptoRow, standIns := [], harness := (true, "0d9c960fbb666b6cc73923f44c79f902fcd93667a549c7f1eca2e3e1fe50e702"), looks := true }, kinds := [], alts := [], laidByText := true, laidKinds := [.data], laidTests := true, laidLooks := .later }
def FnRunCodeUptoCardSaid : Prop := Claim7.holds Tryz.pinned (.plain (OpenSpec.upto fnRunCodeSpec)) fnRunCodeUptoCard

/-- THE SECOND FORM's CARD OF 'laws.FnExactViewsByCode'. -/
def fnExactViewsByCodeUptoCard : Claim7 := { stood := { row := fnExactViewsByCodeUptoRow, standIns := [], harness := (true, "0d9c960fbb666b6cc73923f44c79f902fcd93667a549c7f1eca2e3e1fe50e702"), looks := true }, kinds := [], alts := [], laidByText := true, laidKinds := [.data], laidTests := true, laidLooks := .later }
def FnExactViewsByCodeUptoCardSaid : Prop := Claim7.holds Tryz.pinned (.plain (OpenSpec.upto fnExactViewsByCodeSpec)) fnExactViewsByCodeUptoCard

/-- THE SECOND FORM's CARD OF 'laws.FnViewsByCode'. -/
def fnViewsByCodeUptoCard : Claim7 := { stood := { row := fnViewsByCodeUptoRow, standIns := [], harness := (true, "0d9c960fbb666b6cc73923f44c79f902fcd93667a549c7f1eca2e3e1fe50e702"), looks := true }, kinds := [], alts := [], laidByText := true, laidKinds := [.data], laidTests := true, laidLooks := .later }
def FnViewsByCodeUptoCardSaid : Prop := Claim7.holds Tryz.pinned (.plain (OpenSpec.upto fnViewsByCodeSpec)) fnViewsByCodeUptoCard

/-- THE SECOND FORM's CARD OF 'laws.FnDeepestRun'. -/
def fnDeepestRunUptoCard : Claim7 := { stood := { row := fnDeepestRunUptoRow, standIns := [], harness := (true, "0d9c960fbb666b6cc73923f44c79f902fcd93667a549c7f1eca2e3e1fe50e702"), looks := true }, kinds := [], alts := [], laidByText := true, laidKinds := [.data], laidTests := true, laidLooks := .later }
def FnDeepestRunUptoCardSaid : Prop := Claim7.holds Tryz.pinned (.plain (OpenSpec.upto fnDeepestRunSpec)) fnDeepestRunUptoCard

/-- THE SECOND FORM's CARD OF 'laws.FnRenameIn'. -/
def fnRenameInUptoCard : Claim7 := { stood := { row := fnRenameInUptoRow, standIns := [], harness := (true, "0d9c960fbb666b6cc73923f44c79f902fcd93667a549c7f1eca2e3e1fe50e702"), looks := true }, kinds := [], alts := [], laidByText := true, laidKinds := [.data], laidTests := true, laidLooks := .later }
def FnRenameInUptoCardSaid : Prop := Claim7.holds Tryz.pinned (.plain (OpenSpec.upto fnRenameInSpec)) fnRenameInUptoCard
end Rows
end Go.Proofs.YtdnebaieamppbaaGreatDoor
