/-
  DERIVED. GIVEN WITH THE SEED: THE CARDS: each row of YtnnpbiamlalnmaaGreatDoorRows.lean that lists a variable, with what it lists TIED to the program's text (the seventh form; the later family's looks); each row that meets fmt, with fmt's text TOLD by the authors' own Lean function (tested against real Go, not proved from fmt's source: count such statements apart). THE CARD IS WHAT COUNTS. Prove the row's statement (the work); the ties are given (YtnnpbiamlalnmaaGreatDoorTie.lean); close each card by the builder's one call (the guide's Derived/Test/ToyasCard.lean, 'card_holds'). Laid BY PROGRAM, IN A SANDBOX (cutbox-door.mjs). By AI agents, Wed Nov 11 2026. No macro, syntax, notation, axiom, sorry.
-/
import Derived.Test.YtnnpbiamlalnmaaGreatDoorRows
import GoSem.ClaimSeven
namespace Go.Proofs.YtnnpbiamlalnmaaGreatDoor
namespace Rows

/-- THE TIED CARD OF 'laws.FnExactCompileBlock'. -/
def fnExactCompileBlockCard : Claim7 := { stood := { row := fnExactCompileBlockRow, standIns := [], harness := (true, "0813c77762c3b6aba8f16f097cf82a4ee1cf4775e8a687a8195f858454209add"), looks := true }, kinds := [], alts := [], laidByText := true, laidKinds := [.data], laidTests := true, laidLooks := .later }
def FnExactCompileBlockCardSaid : Prop := Claim7.holds Tryz.pinned (.plain (OpenSpec.ofChange fnExactCompileBlockSpec)) fnExactCompileBlockCard

/-- THE TIED CARD OF 'laws.FnExactCompileAll'. -/
def fnExactCompileAllCard : Claim7 := { stood := { row := fnExactCompileAllRow, standIns := [], harness := (true, "0813c77762c3b6aba8f16f097cf82a4ee1cf4775e8a687a8195f858454209add"), looks := true }, kinds := [], alts := [], laidByText := true, laidKinds := [.data], laidTests := true, laidLooks := .later }
def FnExactCompileAllCardSaid : Prop := Claim7.holds Tryz.pinned (.plain (OpenSpec.ofChange fnExactCompileAllSpec)) fnExactCompileAllCard

/-- THE SECOND FORM's CARD OF 'laws.FnExactCompileBlock'. -/
def fnExactCompileBlockUptoCard : Claim7 := { stood := { row := fnExactCompileBlockUptoRow, standIns := [], harness := (true, "0813c77762c3b6aba8f16f097cf82a4ee1cf4775e8a687a8195f858454209add"), looks := true }, kinds := [], alts := [], laidByText := true, laidKinds := [.data], laidTests := true, laidLooks := .later }
def FnExactCompileBlockUptoCardSaid : Prop := Claim7.holds Tryz.pinned (.plain (OpenSpec.upto fnExactCompileBlockSpec)) fnExactCompileBlockUptoCard

/-- THE SECOND FORM's CARD OF 'laws.FnExactCompileAll'. -/
def fnExactCompileAllUptoCard : Claim7 := { stood := { row := fnExactCompileAllUptoRow, standIns := [], harness := (true, "0813c77762c3b6aba8f16f097cf82a4ee1cf4775e8a687a8195f858454209add"), looks := true }, kinds := [], alts := [], laidByText := true, laidKinds := [.data], laidTests := true, laidLooks := .later }
def FnExactCompileAllUptoCardSaid : Prop := Claim7.holds Tryz.pinned (.plain (OpenSpec.upto fnExactCompileAllSpec)) fnExactCompileAllUptoCard
end Rows
end Go.Proofs.YtnnpbiamlalnmaaGreatDoor
