/-
  DERIVED. GIVEN WITH THE SEED: THE CARDS: each row of YtjgpejikjhojcaaGreatDoorRows.lean that lists a variable, with what it lists TIED to the program's text (the seventh form; the later family's looks); each row that meets fmt, with fmt's text TOLD by the authors' own Lean function (tested against real Go, not proved from fmt's source: count such statements apart). THE CARD IS WHAT COUNTS. Prove the row's statement (the work); the ties are given (YtjgpejikjhojcaaGreatDoorTie.lean); close each card by the builder's one call (the guide's Derived/Test/ToyasCard.lean, 'card_holds'). Laid BY PROGRAM, IN A SANDBOX (cutbox-door.mjs). By AI agents, Wed Nov 11 2026. No macro, syntax, notation, axiom, sorry.
-/
import Derived.Test.YtjgpejikjhojcaaGreatDoorRows
import GoSem.ClaimSeven
namespace Go.Proofs.YtjgpejikjhojcaaGreatDoor
namespace Rows

/-- THE TIED CARD OF 'laws.FnExactRunDesk'. -/
def fnExactRunDeskCard : Claim7 := { stood := { row := fnExactRunDeskRow, standIns := [], harness := (true, "67b7d0e17bc007df7ac84f6da02f82c887526c7c192150e0a08fb1ad10d47985"), looks := true }, kinds := [], alts := [], laidByText := true, laidKinds := [.data, .data, .data, .data, .data, .data, .data, .pinned], laidTests := true, laidLooks := .later }
def FnExactRunDeskCardSaid : Prop := Claim7.holds Tryz.pinned (.plain (OpenSpec.ofChange fnExactRunDeskSpec)) fnExactRunDeskCard

/-- THE TIED CARD OF 'laws.FnRunText'. -/
def fnRunTextCard : Claim7 := { stood := { row := fnRunTextRow, standIns := [], harness := (true, "67b7d0e17bc007df7ac84f6da02f82c887526c7c192150e0a08fb1ad10d47985"), looks := true }, kinds := [], alts := [], laidByText := true, laidKinds := [.data, .data, .data, .data, .data, .data, .data, .pinned], laidTests := true, laidLooks := .later }
def FnRunTextCardSaid : Prop := Claim7.holds Tryz.pinned (.plain (OpenSpec.ofChange fnRunTextSpec)) fnRunTextCard

/-- THE TIED CARD OF 'laws.FnRunDesk'. -/
def fnRunDeskCard : Claim7 := { stood := { row := fnRunDeskRow, standIns := [], harness := (true, "67b7d0e17bc007df7ac84f6da02f82c887526c7c192150e0a08fb1ad10d47985"), looks := true }, kinds := [], alts := [], laidByText := true, laidKinds := [.data, .data, .data, .data, .data, .data, .data, .pinned], laidTests := true, laidLooks := .later }
def FnRunDeskCardSaid : Prop := Claim7.holds Tryz.pinned (.plain (OpenSpec.ofChange fnRunDeskSpec)) fnRunDeskCard

/-- THE SECOND FORM's CARD OF 'laws.FnExactRunDesk'. -/
def fnExactRunDeskUptoCard : Claim7 := { stood := { row := fnExactRunDeskUptoRow, standIns := [], harness := (true, "67b7d0e17bc007df7ac84f6da02f82c887526c7c192150e0a08fb1ad10d47985"), looks := true }, kinds := [], alts := [], laidByText := true, laidKinds := [.data, .data, .data, .data, .data, .data, .data, .pinned], laidTests := true, laidLooks := .later }
def FnExactRunDeskUptoCardSaid : Prop := Claim7.holds Tryz.pinned (.plain (OpenSpec.upto fnExactRunDeskSpec)) fnExactRunDeskUptoCard

/-- THE SECOND FORM's CARD OF 'laws.FnRunText'. -/
def fnRunTextUptoCard : Claim7 := { stood := { row := fnRunTextUptoRow, standIns := [], harness := (true, "67b7d0e17bc007df7ac84f6da02f82c887526c7c192150e0a08fb1ad10d47985"), looks := true }, kinds := [], alts := [], laidByText := true, laidKinds := [.data, .data, .data, .data, .data, .data, .data, .pinned], laidTests := true, laidLooks := .later }
def FnRunTextUptoCardSaid : Prop := Claim7.holds Tryz.pinned (.plain (OpenSpec.upto fnRunTextSpec)) fnRunTextUptoCard

/-- THE SECOND FORM's CARD OF 'laws.FnRunDesk'. -/
def fnRunDeskUptoCard : Claim7 := { stood := { row := fnRunDeskUptoRow, standIns := [], harness := (true, "67b7d0e17bc007df7ac84f6da02f82c887526c7c192150e0a08fb1ad10d47985"), looks := true }, kinds := [], alts := [], laidByText := true, laidKinds := [.data, .data, .data, .data, .data, .data, .data, .pinned], laidTests := true, laidLooks := .later }
def FnRunDeskUptoCardSaid : Prop := Claim7.holds Tryz.pinned (.plain (OpenSpec.upto fnRunDeskSpec)) fnRunDeskUptoCard
end Rows
end Go.Proofs.YtjgpejikjhojcaaGreatDoor
