/-
  DERIVED. GIVEN WITH THE SEED: THE CARDS: each row of YtmaoicgfcngciaaDoorRows.lean that lists a variable, with what it lists TIED to the program's text (the seventh form; the later family's looks); each row that meets fmt, with fmt's text TOLD by the authors' own Lean function (tested against real Go, not proved from fmt's source: count such statements apart). THE CARD IS WHAT COUNTS. Prove the row's statement (the work); the ties are given (YtmaoicgfcngciaaDoorTie.lean); close each card by the builder's one call (the guide's Derived/Test/ToyasCard.lean, 'card_holds'). Laid BY PROGRAM, IN A SANDBOX (cutbox-door.mjs). By AI agents, Wed Nov 11 2026. No macro, syntax, notation, axiom, sorry.
-/
import Derived.Test.YtmaoicgfcngciaaDoorRows
import GoSem.ClaimSeven
namespace Go.Proofs.YtmaoicgfcngciaaDoor
namespace Rows

/-- THE TIED CARD OF 'laws.FnExactFormatProgram'. -/
def fnExactFormatProgramCard : Claim7 := { stood := { row := fnExactFormatProgramRow, standIns := [], harness := (true, "e3a9bee64bd5e42673da1f2d355e8b466652ae6ce76a28811e34ab0c47e42878"), looks := true }, kinds := [], alts := [], laidByText := true, laidKinds := [.data, .data, .data, .data], laidTests := true, laidLooks := .later }
def FnExactFormatProgramCardSaid : Prop := Claim7.holds Tryd.pinned (.plain (OpenSpec.ofChange fnExactFormatProgramSpec)) fnExactFormatProgramCard

/-- THE TIED CARD OF 'laws.FnReadCode'. -/
def fnReadCodeCard : Claim7 := { stood := { row := fnReadCodeRow, standIns := [], harness := (true, "e3a9bee64bd5e42673da1f2d355e8b466652ae6ce76a28811e34ab0c47e42878"), looks := true }, kinds := [], alts := [], laidByText := true, laidKinds := [.data, .data, .pinned], laidTests := true, laidLooks := .later }
def FnReadCodeCardSaid : Prop := Claim7.holds Tryd.pinned (.plain (OpenSpec.ofChange fnReadCodeSpec)) fnReadCodeCard

/-- THE SECOND FORM's CARD OF 'laws.FnExactFormatProgram'. -/
def fnExactFormatProgramUptoCard : Claim7 := { stood := { row := fnExactFormatProgramUptoRow, standIns := [], harness := (true, "e3a9bee64bd5e42673da1f2d355e8b466652ae6ce76a28811e34ab0c47e42878"), looks := true }, kinds := [], alts := [], laidByText := true, laidKinds := [.data, .data, .data, .data], laidTests := true, laidLooks := .later }
def FnExactFormatProgramUptoCardSaid : Prop := Claim7.holds Tryd.pinned (.plain (OpenSpec.upto fnExactFormatProgramSpec)) fnExactFormatProgramUptoCard

/-- THE SECOND FORM's CARD OF 'laws.FnReadCode'. -/
def fnReadCodeUptoCard : Claim7 := { stood := { row := fnReadCodeUptoRow, standIns := [], harness := (true, "e3a9bee64bd5e42673da1f2d355e8b466652ae6ce76a28811e34ab0c47e42878"), looks := true }, kinds := [], alts := [], laidByText := true, laidKinds := [.data, .data, .pinned], laidTests := true, laidLooks := .later }
def FnReadCodeUptoCardSaid : Prop := Claim7.holds Tryd.pinned (.plain (OpenSpec.upto fnReadCodeSpec)) fnReadCodeUptoCard
end Rows
end Go.Proofs.YtmaoicgfcngciaaDoor
