/-
  DERIVED. GIVEN WITH THE SEED: THE CARDS: each row of YtmpbjmihjelhgaaDoorRows.lean that lists a variable, with what it lists TIED to the program's text (the seventh form; the later family's looks); each row that meets fmt, with fmt's text TOLD by the authors' own Lean function (tested against real Go, not proved from fmt's source: count such statements apart). THE CARD IS WHAT COUNTS. Prove the row's statement (the work); the ties are given (YtmpbjmihjelhgaaDoorTie.lean); close each card by the builder's one call (the guide's Derived/Test/ToyasCard.lean, 'card_holds'). Laid BY PROGRAM, IN A SANDBOX (cutbox-door.mjs). By AI agents, Wed Nov 11 2026. No macro, syntax, notation, axiom, sorry.
-/
import Derived.Test.YtmpbjmihjelhgaaDoorRows
import GoSem.ClaimSeven
namespace Go.Proofs.YtmpbjmihjelhgaaDoor
namespace Rows

/-- THE TIED CARD OF 'laws.FnDropOp'. -/
def fnDropOpCard : Claim7 := { stood := { row := fnDropOpRow, standIns := [], harness := (true, "8dd3d975687ab439144902cb065db732af6c6260cbe9cdce70584ae0acfb9f57"), looks := true }, kinds := [], alts := [], laidByText := true, laidKinds := [.data], laidTests := true, laidLooks := .later }
def FnDropOpCardSaid : Prop := Claim7.holds Tryd.pinned (.plain (OpenSpec.ofChange fnDropOpSpec)) fnDropOpCard

/-- THE TIED CARD OF 'laws.FnStoreOp'. -/
def fnStoreOpCard : Claim7 := { stood := { row := fnStoreOpRow, standIns := [], harness := (true, "8dd3d975687ab439144902cb065db732af6c6260cbe9cdce70584ae0acfb9f57"), looks := true }, kinds := [], alts := [], laidByText := true, laidKinds := [.data], laidTests := true, laidLooks := .later }
def FnStoreOpCardSaid : Prop := Claim7.holds Tryd.pinned (.plain (OpenSpec.ofChange fnStoreOpSpec)) fnStoreOpCard

/-- THE TIED CARD OF 'laws.FnLoadOp'. -/
def fnLoadOpCard : Claim7 := { stood := { row := fnLoadOpRow, standIns := [], harness := (true, "8dd3d975687ab439144902cb065db732af6c6260cbe9cdce70584ae0acfb9f57"), looks := true }, kinds := [], alts := [], laidByText := true, laidKinds := [.data], laidTests := true, laidLooks := .later }
def FnLoadOpCardSaid : Prop := Claim7.holds Tryd.pinned (.plain (OpenSpec.ofChange fnLoadOpSpec)) fnLoadOpCard

/-- THE TIED CARD OF 'laws.FnExactLineOf'. -/
def fnExactLineOfCard : Claim7 := { stood := { row := fnExactLineOfRow, standIns := [], harness := (true, "8dd3d975687ab439144902cb065db732af6c6260cbe9cdce70584ae0acfb9f57"), looks := true }, kinds := [], alts := [], laidByText := true, laidKinds := [.data], laidTests := true, laidLooks := .later }
def FnExactLineOfCardSaid : Prop := Claim7.holds Tryd.pinned (.plain (OpenSpec.ofChange fnExactLineOfSpec)) fnExactLineOfCard

/-- THE TIED CARD OF 'laws.FnLineOf'. -/
def fnLineOfCard : Claim7 := { stood := { row := fnLineOfRow, standIns := [], harness := (true, "8dd3d975687ab439144902cb065db732af6c6260cbe9cdce70584ae0acfb9f57"), looks := true }, kinds := [], alts := [], laidByText := true, laidKinds := [.data], laidTests := true, laidLooks := .later }
def FnLineOfCardSaid : Prop := Claim7.holds Tryd.pinned (.plain (OpenSpec.ofChange fnLineOfSpec)) fnLineOfCard

/-- THE TIED CARD OF 'laws.FnCompileBlock'. -/
def fnCompileBlockCard : Claim7 := { stood := { row := fnCompileBlockRow, standIns := [], harness := (true, "8dd3d975687ab439144902cb065db732af6c6260cbe9cdce70584ae0acfb9f57"), looks := true }, kinds := [], alts := [], laidByText := true, laidKinds := [.data], laidTests := true, laidLooks := .later }
def FnCompileBlockCardSaid : Prop := Claim7.holds Tryd.pinned (.plain (OpenSpec.ofChange fnCompileBlockSpec)) fnCompileBlockCard

/-- THE TIED CARD OF 'laws.FnHeightsOf'. -/
def fnHeightsOfCard : Claim7 := { stood := { row := fnHeightsOfRow, standIns := [], harness := (true, "8dd3d975687ab439144902cb065db732af6c6260cbe9cdce70584ae0acfb9f57"), looks := true }, kinds := [], alts := [], laidByText := true, laidKinds := [.data, .data], laidTests := true, laidLooks := .later }
def FnHeightsOfCardSaid : Prop := Claim7.holds Tryd.pinned (.plain (OpenSpec.ofChange fnHeightsOfSpec)) fnHeightsOfCard

/-- THE TIED CARD OF 'laws.FnCompileAll'. -/
def fnCompileAllCard : Claim7 := { stood := { row := fnCompileAllRow, standIns := [], harness := (true, "8dd3d975687ab439144902cb065db732af6c6260cbe9cdce70584ae0acfb9f57"), looks := true }, kinds := [], alts := [], laidByText := true, laidKinds := [.data], laidTests := true, laidLooks := .later }
def FnCompileAllCardSaid : Prop := Claim7.holds Tryd.pinned (.plain (OpenSpec.ofChange fnCompileAllSpec)) fnCompileAllCard

/-- THE TIED CARD OF 'laws.FnExactHeightsOf'. -/
def fnExactHeightsOfCard : Claim7 := { stood := { row := fnExactHeightsOfRow, standIns := [], harness := (true, "8dd3d975687ab439144902cb065db732af6c6260cbe9cdce70584ae0acfb9f57"), looks := true }, kinds := [], alts := [], laidByText := true, laidKinds := [.data, .data], laidTests := true, laidLooks := .later }
def FnExactHeightsOfCardSaid : Prop := Claim7.holds Tryd.pinned (.plain (OpenSpec.ofChange fnExactHeightsOfSpec)) fnExactHeightsOfCard

/-- THE SECOND FORM's CARD OF 'laws.FnDropOp'. -/
def fnDropOpUptoCard : Claim7 := { stood := { row := fnDropOpUptoRow, standIns := [], harness := (true, "8dd3d975687ab439144902cb065db732af6c6260cbe9cdce70584ae0acfb9f57"), looks := true }, kinds := [], alts := [], laidByText := true, laidKinds := [.data], laidTests := true, laidLooks := .later }
def FnDropOpUptoCardSaid : Prop := Claim7.holds Tryd.pinned (.plain (OpenSpec.upto fnDropOpSpec)) fnDropOpUptoCard

/-- THE SECOND FORM's CARD OF 'laws.FnStoreOp'. -/
def fnStoreOpUptoCard : Claim7 := { stood := { row := fnStoreOpUptoRow, standIns := [], harness := (true, "8dd3d975687ab439144902cb065db732af6c6260cbe9cdce70584ae0acfb9f57"), looks := true }, kinds := [], alts := [], laidByText := true, laidKinds := [.data], laidTests := true, laidLooks := .later }
def FnStoreOpUptoCardSaid : Prop := Claim7.holds Tryd.pinned (.plain (OpenSpec.upto fnStoreOpSpec)) fnStoreOpUptoCard

/-- THE SECOND FORM's CARD OF 'laws.FnLoadOp'. -/
def fnLoadOpUptoCard : Claim7 := { stood := { row := fnLoadOpUptoRow, standIns := [], harness := (true, "8dd3d975687ab439144902cb065db732af6c6260cbe9cdce70584ae0acfb9f57"), looks := true }, kinds := [], alts := [], laidByText := true, laidKinds := [.data], laidTests := true, laidLooks := .later }
def FnLoadOpUptoCardSaid : Prop := Claim7.holds Tryd.pinned (.plain (OpenSpec.upto fnLoadOpSpec)) fnLoadOpUptoCard

/-- THE SECOND FORM's CARD OF 'laws.FnExactLineOf'. -/
def fnExactLineOfUptoCard : Claim7 := { stood := { row := fnExactLineOfUptoRow, standIns := [], harness := (true, "8dd3d975687ab439144902cb065db732af6c6260cbe9cdce70584ae0acfb9f57"), looks := true }, kinds := [], alts := [], laidByText := true, laidKinds := [.data], laidTests := true, laidLooks := .later }
def FnExactLineOfUptoCardSaid : Prop := Claim7.holds Tryd.pinned (.plain (OpenSpec.upto fnExactLineOfSpec)) fnExactLineOfUptoCard

/-- THE SECOND FORM's CARD OF 'laws.FnLineOf'. -/
def fnLineOfUptoCard : Claim7 := { stood := { row := fnLineOfUptoRow, standIns := [], harness := (true, "8dd3d975687ab439144902cb065db732af6c6260cbe9cdce70584ae0acfb9f57"), looks := true }, kinds := [], alts := [], laidByText := true, laidKinds := [.data], laidTests := true, laidLooks := .later }
def FnLineOfUptoCardSaid : Prop := Claim7.holds Tryd.pinned (.plain (OpenSpec.upto fnLineOfSpec)) fnLineOfUptoCard

/-- THE SECOND FORM's CARD OF 'laws.FnCompileBlock'. -/
def fnCompileBlockUptoCard : Claim7 := { stood := { row := fnCompileBlockUptoRow, standIns := [], harness := (true, "8dd3d975687ab439144902cb065db732af6c6260cbe9cdce70584ae0acfb9f57"), looks := true }, kinds := [], alts := [], laidByText := true, laidKinds := [.data], laidTests := true, laidLooks := .later }
def FnCompileBlockUptoCardSaid : Prop := Claim7.holds Tryd.pinned (.plain (OpenSpec.upto fnCompileBlockSpec)) fnCompileBlockUptoCard

/-- THE SECOND FORM's CARD OF 'laws.FnHeightsOf'. -/
def fnHeightsOfUptoCard : Claim7 := { stood := { row := fnHeightsOfUptoRow, standIns := [], harness := (true, "8dd3d975687ab439144902cb065db732af6c6260cbe9cdce70584ae0acfb9f57"), looks := true }, kinds := [], alts := [], laidByText := true, laidKinds := [.data, .data], laidTests := true, laidLooks := .later }
def FnHeightsOfUptoCardSaid : Prop := Claim7.holds Tryd.pinned (.plain (OpenSpec.upto fnHeightsOfSpec)) fnHeightsOfUptoCard

/-- THE SECOND FORM's CARD OF 'laws.FnCompileAll'. -/
def fnCompileAllUptoCard : Claim7 := { stood := { row := fnCompileAllUptoRow, standIns := [], harness := (true, "8dd3d975687ab439144902cb065db732af6c6260cbe9cdce70584ae0acfb9f57"), looks := true }, kinds := [], alts := [], laidByText := true, laidKinds := [.data], laidTests := true, laidLooks := .later }
def FnCompileAllUptoCardSaid : Prop := Claim7.holds Tryd.pinned (.plain (OpenSpec.upto fnCompileAllSpec)) fnCompileAllUptoCard

/-- THE SECOND FORM's CARD OF 'laws.FnExactHeightsOf'. -/
def fnExactHeightsOfUptoCard : Claim7 := { stood := { row := fnExactHeightsOfUptoRow, standIns := [], harness := (true, "8dd3d975687ab439144902cb065db732af6c6260cbe9cdce70584ae0acfb9f57"), looks := true }, kinds := [], alts := [], laidByText := true, laidKinds := [.data, .data], laidTests := true, laidLooks := .later }
def FnExactHeightsOfUptoCardSaid : Prop := Claim7.holds Tryd.pinned (.plain (OpenSpec.upto fnExactHeightsOfSpec)) fnExactHeightsOfUptoCard
end Rows
end Go.Proofs.YtmpbjmihjelhgaaDoor
