/-
  DERIVED. GIVEN WITH THE SEED: THE CARDS: each row of YtmaoicgfcngciaaGreatDoorRows.lean that lists a variable, with what it lists TIED to the program's text (the seventh form; the later family's looks); each row that meets fmt, with fmt's text TOLD by the authors' own Lean function (tested against real Go, not proved from fmt's source: count such statements apart). THE CARD IS WHAT COUNTS. Prove the row's statement (the work); the ties are given (YtmaoicgfcngciaaGreatDoorTie.lean); close each card by the builder's one call (the guide's Derived/Test/ToyasCard.lean, 'card_holds'). Laid BY PROGRAM, IN A SANDBOX (cutbox-door.mjs). By AI agents, Wed Nov 11 2026. No macro, syntax, notation, axiom, sorry.
-/
import Derived.Test.YtmaoicgfcngciaaGreatDoorRows
import GoSem.ClaimSeven
namespace Go.Proofs.YtmaoicgfcngciaaGreatDoor
namespace Rows

/-- THE TIED CARD OF 'laws.FnExactParseProgram'. -/
def fnExactParseProgramCard : Claim7 := { stood := { row := fnExactParseProgramRow, standIns := [], harness := (true, "936dd4710ba2472c8d7f4766cf9716e1055dc36c94e2dc9e2efa5b91776d7a6b"), looks := true }, kinds := [], alts := [], laidByText := true, laidKinds := [.data, .data, .pinned], laidTests := true, laidLooks := .later }
def FnExactParseProgramCardSaid : Prop := Claim7.holds Tryz.pinned (.plain (OpenSpec.ofChange fnExactParseProgramSpec)) fnExactParseProgramCard

/-- THE TIED CARD OF 'laws.FnExactShowCode'. -/
def fnExactShowCodeCard : Claim7 := { stood := { row := fnExactShowCodeRow, standIns := [], harness := (true, "936dd4710ba2472c8d7f4766cf9716e1055dc36c94e2dc9e2efa5b91776d7a6b"), looks := true }, kinds := [], alts := [], laidByText := true, laidKinds := [.data, .data, .data, .data, .data], laidTests := true, laidLooks := .later }
def FnExactShowCodeCardSaid : Prop := Claim7.holds Tryz.pinned (.plain (OpenSpec.ofChange fnExactShowCodeSpec)) fnExactShowCodeCard

/-- THE TIED CARD OF 'laws.FnFormatProgram'. -/
def fnFormatProgramCard : Claim7 := { stood := { row := fnFormatProgramRow, standIns := [], harness := (true, "936dd4710ba2472c8d7f4766cf9716e1055dc36c94e2dc9e2efa5b91776d7a6b"), looks := true }, kinds := [], alts := [], laidByText := true, laidKinds := [.data, .data, .data, .data, .data, .pinned], laidTests := true, laidLooks := .later }
def FnFormatProgramCardSaid : Prop := Claim7.holds Tryz.pinned (.plain (OpenSpec.ofChange fnFormatProgramSpec)) fnFormatProgramCard

/-- THE TIED CARD OF 'laws.FnParseProgram'. -/
def fnParseProgramCard : Claim7 := { stood := { row := fnParseProgramRow, standIns := [], harness := (true, "936dd4710ba2472c8d7f4766cf9716e1055dc36c94e2dc9e2efa5b91776d7a6b"), looks := true }, kinds := [], alts := [], laidByText := true, laidKinds := [.data, .data, .data, .data, .data, .pinned], laidTests := true, laidLooks := .later }
def FnParseProgramCardSaid : Prop := Claim7.holds Tryz.pinned (.plain (OpenSpec.ofChange fnParseProgramSpec)) fnParseProgramCard

/-- THE TIED CARD OF 'laws.FnShowCode'. -/
def fnShowCodeCard : Claim7 := { stood := { row := fnShowCodeRow, standIns := [], harness := (true, "936dd4710ba2472c8d7f4766cf9716e1055dc36c94e2dc9e2efa5b91776d7a6b"), looks := true }, kinds := [], alts := [], laidByText := true, laidKinds := [.data, .data, .data, .data, .data, .data, .pinned], laidTests := true, laidLooks := .later }
def FnShowCodeCardSaid : Prop := Claim7.holds Tryz.pinned (.plain (OpenSpec.ofChange fnShowCodeSpec)) fnShowCodeCard

/-- THE TIED CARD OF 'laws.FnExactRunText'. -/
def fnExactRunTextCard : Claim7 := { stood := { row := fnExactRunTextRow, standIns := [], harness := (true, "936dd4710ba2472c8d7f4766cf9716e1055dc36c94e2dc9e2efa5b91776d7a6b"), looks := true }, kinds := [], alts := [], laidByText := true, laidKinds := [.data, .data, .data, .data, .data, .data, .pinned], laidTests := true, laidLooks := .later }
def FnExactRunTextCardSaid : Prop := Claim7.holds Tryz.pinned (.plain (OpenSpec.ofChange fnExactRunTextSpec)) fnExactRunTextCard

/-- THE SECOND FORM's CARD OF 'laws.FnExactParseProgram'. -/
def fnExactParseProgramUptoCard : Claim7 := { stood := { row := fnExactParseProgramUptoRow, standIns := [], harness := (true, "936dd4710ba2472c8d7f4766cf9716e1055dc36c94e2dc9e2efa5b91776d7a6b"), looks := true }, kinds := [], alts := [], laidByText := true, laidKinds := [.data, .data, .pinned], laidTests := true, laidLooks := .later }
def FnExactParseProgramUptoCardSaid : Prop := Claim7.holds Tryz.pinned (.plain (OpenSpec.upto fnExactParseProgramSpec)) fnExactParseProgramUptoCard

/-- THE SECOND FORM's CARD OF 'laws.FnExactShowCode'. -/
def fnExactShowCodeUptoCard : Claim7 := { stood := { row := fnExactShowCodeUptoRow, standIns := [], harness := (true, "936dd4710ba2472c8d7f4766cf9716e1055dc36c94e2dc9e2efa5b91776d7a6b"), looks := true }, kinds := [], alts := [], laidByText := true, laidKinds := [.data, .data, .data, .data, .data], laidTests := true, laidLooks := .later }
def FnExactShowCodeUptoCardSaid : Prop := Claim7.holds Tryz.pinned (.plain (OpenSpec.upto fnExactShowCodeSpec)) fnExactShowCodeUptoCard

/-- THE SECOND FORM's CARD OF 'laws.FnFormatProgram'. -/
def fnFormatProgramUptoCard : Claim7 := { stood := { row := fnFormatProgramUptoRow, standIns := [], harness := (true, "936dd4710ba2472c8d7f4766cf9716e1055dc36c94e2dc9e2efa5b91776d7a6b"), looks := true }, kinds := [], alts := [], laidByText := true, laidKinds := [.data, .data, .data, .data, .data, .pinned], laidTests := true, laidLooks := .later }
def FnFormatProgramUptoCardSaid : Prop := Claim7.holds Tryz.pinned (.plain (OpenSpec.upto fnFormatProgramSpec)) fnFormatProgramUptoCard

/-- THE SECOND FORM's CARD OF 'laws.FnParseProgram'. -/
def fnParseProgramUptoCard : Claim7 := { stood := { row := fnParseProgramUptoRow, standIns := [], harness := (true, "936dd4710ba2472c8d7f4766cf9716e1055dc36c94e2dc9e2efa5b91776d7a6b"), looks := true }, kinds := [], alts := [], laidByText := true, laidKinds := [.data, .data, .data, .data, .data, .pinned], laidTests := true, laidLooks := .later }
def FnParseProgramUptoCardSaid : Prop := Claim7.holds Tryz.pinned (.plain (OpenSpec.upto fnParseProgramSpec)) fnParseProgramUptoCard

/-- THE SECOND FORM's CARD OF 'laws.FnShowCode'. -/
def fnShowCodeUptoCard : Claim7 := { stood := { row := fnShowCodeUptoRow, standIns := [], harness := (true, "936dd4710ba2472c8d7f4766cf9716e1055dc36c94e2dc9e2efa5b91776d7a6b"), looks := true }, kinds := [], alts := [], laidByText := true, laidKinds := [.data, .data, .data, .data, .data, .data, .pinned], laidTests := true, laidLooks := .later }
def FnShowCodeUptoCardSaid : Prop := Claim7.holds Tryz.pinned (.plain (OpenSpec.upto fnShowCodeSpec)) fnShowCodeUptoCard

/-- THE SECOND FORM's CARD OF 'laws.FnExactRunText'. -/
def fnExactRunTextUptoCard : Claim7 := { stood := { row := fnExactRunTextUptoRow, standIns := [], harness := (true, "936dd4710ba2472c8d7f4766cf9716e1055dc36c94e2dc9e2efa5b91776d7a6b"), looks := true }, kinds := [], alts := [], laidByText := true, laidKinds := [.data, .data, .data, .data, .data, .data, .pinned], laidTests := true, laidLooks := .later }
def FnExactRunTextUptoCardSaid : Prop := Claim7.holds Tryz.pinned (.plain (OpenSpec.upto fnExactRunTextSpec)) fnExactRunTextUptoCard
end Rows
end Go.Proofs.YtmaoicgfcngciaaGreatDoor
