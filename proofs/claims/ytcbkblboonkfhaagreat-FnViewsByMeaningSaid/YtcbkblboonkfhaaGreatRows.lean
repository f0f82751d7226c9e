/-
  No cell of these rows narrows 'for every input' (looked for: loops, veiled, ifaces, maps, wideKeys, modest, calm, conditions, laid).
  DERIVED. THE GIVEN ROWS OF THIS SEAT. 7 by the template 'for every input the law returns true; each argument reads behind the call as it read before'; 0 by the template 'total and deterministic' (their statements: YtcbkblboonkfhaaGreatTotals.lean).
  GIVEN WITH THE SEED: the statements are not yours to turn. If you find one false, say at which input.
  Laid BY PROGRAM, IN A SANDBOX (cutbox-rows.mjs): the forced cells as the released guide's own fill.sh prints them over the translation d27021bb32c5d379… (all of the seat's roots in one cut). By AI agents, Wed Nov 11 2026. No macro, syntax, notation, axiom, sorry.
-/
import Derived.Test.YtcbkblboonkfhaaGreatChecked
import GoSem.Claim
import GoSem.ClaimJoined
import GoSem.ClaimMapViews
import Derived.JoinedTies
import Derived.KernelRfl
namespace Go.Proofs.YtcbkblboonkfhaaGreat
/- THE CELL 'sum', in the pinned program and in every row, IS THE sha256 OF THE DUMP (.gsa) THAT YtcbkblboonkfhaaGreatProg.lean LOADS. Nothing in Lean hashes anything: it is a label: what it is worth is what the hold of that sum in a sandbox is worth. -/
noncomputable def Tryz.pinned : Pinned := { name := "ytcbkblboonkfhaagreat", sum := "d27021bb32c5d37976b8050593dd8482c9342f7a3e147142a1ca22691fe60a37", checked := Tryz.checked }
namespace Rows
def none {H : Type} : Left H := { results := [], args := [] }

/-- 'laws.FnExactDeepestRun': WHATEVER THE INPUT: true; the input reads as it did. -/
def fnExactDeepestRunSpec : ChangeSpec := { name := "fnExactDeepestRun", fn := fun _ => fun
  | [d1, d2] => { results := [.lit (.bool true)], args := [d1, d2] }
  | _ => none }
def fnExactDeepestRunRow : OpenClaim := { program := "ytcbkblboonkfhaagreat", sum := "d27021bb32c5d37976b8050593dd8482c9342f7a3e147142a1ca22691fe60a37", func := "loop.example/closurecells/laws.FnExactDeepestRun", spec := "fnExactDeepestRun", inPlace := ["maps.clone"], unfollowed := true, recurses := true, apart := false }
def FnExactDeepestRunSaid : Prop := fnExactDeepestRunRow.holds Tryz.pinned (OpenSpec.ofChange fnExactDeepestRunSpec)

/-- ITS FALSE NEIGHBOUR: 'it returns false'. Refute it at one input. -/
def fnExactDeepestRunWrong : ChangeSpec := { name := "fnExactDeepestRun", fn := fun _ => fun
  | [d1, d2] => { results := [.lit (.bool false)], args := [d1, d2] }
  | _ => none }
def FnExactDeepestRunWrongFalsely : Prop := fnExactDeepestRunRow.holds Tryz.pinned (OpenSpec.ofChange fnExactDeepestRunWrong)

/-- 'laws.FnSameMeaning': WHATEVER THE INPUT: true; the input reads as it did. -/
def fnSameMeaningSpec : ChangeSpec := { name := "fnSameMeaning", fn := fun _ => fun
  | [d] => { results := [.lit (.bool true)], args := [d] }
  | _ => none }
def fnSameMeaningRow : OpenClaim := { program := "ytcbkblboonkfhaagreat", sum := "d27021bb32c5d37976b8050593dd8482c9342f7a3e147142a1ca22691fe60a37", func := "loop.example/closurecells/laws.FnSameMeaning", spec := "fnSameMeaning", inPlace := ["maps.clone"], unfollowed := true, recurses := true, apart := false }
def FnSameMeaningSaid : Prop := fnSameMeaningRow.holds Tryz.pinned (OpenSpec.ofChange fnSameMeaningSpec)

/-- ITS FALSE NEIGHBOUR: 'it returns false'. Refute it at one input. -/
def fnSameMeaningWrong : ChangeSpec := { name := "fnSameMeaning", fn := fun _ => fun
  | [d] => { results := [.lit (.bool false)], args := [d] }
  | _ => none }
def FnSameMeaningWrongFalsely : Prop := fnSameMeaningRow.holds Tryz.pinned (OpenSpec.ofChange fnSameMeaningWrong)

/-- 'laws.FnIdleDeclarations': WHATEVER THE INPUT: true; the input reads as it did. -/
def fnIdleDeclarationsSpec : ChangeSpec := { name := "fnIdleDeclarations", fn := fun _ => fun
  | [d] => { results := [.lit (.bool true)], args := [d] }
  | _ => none }
def fnIdleDeclarationsRow : OpenClaim := { program := "ytcbkblboonkfhaagreat", sum := "d27021bb32c5d37976b8050593dd8482c9342f7a3e147142a1ca22691fe60a37", func := "loop.example/closurecells/laws.FnIdleDeclarations", spec := "fnIdleDeclarations", inPlace := ["maps.clone"], unfollowed := true, recurses := true, apart := false }
def FnIdleDeclarationsSaid : Prop := fnIdleDeclarationsRow.holds Tryz.pinned (OpenSpec.ofChange fnIdleDeclarationsSpec)

/-- ITS FALSE NEIGHBOUR: 'it returns false'. Refute it at one input. -/
def fnIdleDeclarationsWrong : ChangeSpec := { name := "fnIdleDeclarations", fn := fun _ => fun
  | [d] => { results := [.lit (.bool false)], args := [d] }
  | _ => none }
def FnIdleDeclarationsWrongFalsely : Prop := fnIdleDeclarationsRow.holds Tryz.pinned (OpenSpec.ofChange fnIdleDeclarationsWrong)

/-- 'laws.FnLeanProgram': WHATEVER THE INPUT: true; the input reads as it did. -/
def fnLeanProgramSpec : ChangeSpec := { name := "fnLeanProgram", fn := fun _ => fun
  | [d] => { results := [.lit (.bool true)], args := [d] }
  | _ => none }
def fnLeanProgramRow : OpenClaim := { program := "ytcbkblboonkfhaagreat", sum := "d27021bb32c5d37976b8050593dd8482c9342f7a3e147142a1ca22691fe60a37", func := "loop.example/closurecells/laws.FnLeanProgram", spec := "fnLeanProgram", inPlace := ["maps.clone"], unfollowed := true, recurses := true, apart := false }
def FnLeanProgramSaid : Prop := fnLeanProgramRow.holds Tryz.pinned (OpenSpec.ofChange fnLeanProgramSpec)

/-- ITS FALSE NEIGHBOUR: 'it returns false'. Refute it at one input. -/
def fnLeanProgramWrong : ChangeSpec := { name := "fnLeanProgram", fn := fun _ => fun
  | [d] => { results := [.lit (.bool false)], args := [d] }
  | _ => none }
def FnLeanProgramWrongFalsely : Prop := fnLeanProgramRow.holds Tryz.pinned (OpenSpec.ofChange fnLeanProgramWrong)

/-- 'laws.FnFullProgram': WHATEVER THE INPUT: true; the input reads as it did. -/
def fnFullProgramSpec : ChangeSpec := { name := "fnFullProgram", fn := fun _ => fun
  | [d] => { results := [.lit (.bool true)], args := [d] }
  | _ => none }
def fnFullProgramRow : OpenClaim := { program := "ytcbkblboonkfhaagreat", sum := "d27021bb32c5d37976b8050593dd8482c9342f7a3e147142a1ca22691fe60a37", func := "loop.example/closurecells/laws.FnFullProgram", spec := "fnFullProgram", inPlace := ["maps.clone"], unfollowed := true, recurses := true, apart := false }
def FnFullProgramSaid : Prop := fnFullProgramRow.holds Tryz.pinned (OpenSpec.ofChange fnFullProgramSpec)

/-- ITS FALSE NEIGHBOUR: 'it returns false'. Refute it at one input. -/
def fnFullProgramWrong : ChangeSpec := { name := "fnFullProgram", fn := fun _ => fun
  | [d] => { results := [.lit (.bool false)], args := [d] }
  | _ => none }
def FnFullProgramWrongFalsely : Prop := fnFullProgramRow.holds Tryz.pinned (OpenSpec.ofChange fnFullProgramWrong)

/-- 'laws.FnExactViewsByMeaning': WHATEVER THE INPUT: true; the input reads as it did. -/
def fnExactViewsByMeaningSpec : ChangeSpec := { name := "fnExactViewsByMeaning", fn := fun _ => fun
  | [d1, d2] => { results := [.lit (.bool true)], args := [d1, d2] }
  | _ => none }
def fnExactViewsByMeaningRow : OpenClaim := { program := "ytcbkblboonkfhaagreat", sum := "d27021bb32c5d37976b8050593dd8482c9342f7a3e147142a1ca22691fe60a37", func := "loop.example/closurecells/laws.FnExactViewsByMeaning", spec := "fnExactViewsByMeaning", inPlace := ["maps.clone"], unfollowed := true, recurses := true, apart := false }
def FnExactViewsByMeaningSaid : Prop := fnExactViewsByMeaningRow.holds Tryz.pinned (OpenSpec.ofChange fnExactViewsByMeaningSpec)

/-- ITS FALSE NEIGHBOUR: 'it returns false'. Refute it at one input. -/
def fnExactViewsByMeaningWrong : ChangeSpec := { name := "fnExactViewsByMeaning", fn := fun _ => fun
  | [d1, d2] => { results := [.lit (.bool false)], args := [d1, d2] }
  | _ => none }
def FnExactViewsByMeaningWrongFalsely : Prop := fnExactViewsByMeaningRow.holds Tryz.pinned (OpenSpec.ofChange fnExactViewsByMeaningWrong)

/-- 'laws.FnViewsByMeaning': WHATEVER THE INPUT: true; the input reads as it did. -/
def fnViewsByMeaningSpec : ChangeSpec := { name := "fnViewsByMeaning", fn := fun _ => fun
  | [d] => { results := [.lit (.bool true)], args := [d] }
  | _ => none }
def fnViewsByMeaningRow : OpenClaim := { program := "ytcbkblboonkfhaagreat", sum := "d27021bb32c5d37976b8050593dd8482c9342f7a3e147142a1ca22691fe60a37", func := "loop.example/closurecells/laws.FnViewsByMeaning", spec := "fnViewsByMeaning", inPlace := ["maps.clone"], unfollowed := true, recurses := true, apart := false }
def FnViewsByMeaningSaid : Prop := fnViewsByMeaningRow.holds Tryz.pinned (OpenSpec.ofChange fnViewsByMeaningSpec)

/-- ITS FALSE NEIGHBOUR: 'it returns false'. Refute it at one input. -/
def fnViewsByMeaningWrong : ChangeSpec := { name := "fnViewsByMeaning", fn := fun _ => fun
  | [d] => { results := [.lit (.bool false)], args := [d] }
  | _ => none }
def FnViewsByMeaningWrongFalsely : Prop := fnViewsByMeaningRow.holds Tryz.pinned (OpenSpec.ofChange fnViewsByMeaningWrong)

/- THE SECOND FORM. 'bulk': how many values and letters a reading holds, each counted each time it is reached (what is shared counts as often as it is met; a slice's spare places count too). A statement '..UptoSaid' is the law's where the arguments, and the package variables that the reading takes, are together of bulk at most 1048576: NARROWER than '..Said'. Prove '..Said' where nothing that the law and all that it calls make is longer than what came in: it says more and counts as full. Else prove '..UptoSaid'. A law counts once. -/
mutual
def uptoBulk {H : Type} : DataW H → Nat
  | .lit (.string bytes) => bytes.length + 1
  | .lit _ => 1
  | .nil => 1
  | .ptr d => uptoBulk d + 1
  | .slice elems spare => uptoBulkAll elems + uptoBulkAll spare + 1
  | .agg parts => uptoBulkAll parts + 1
  | .iface _ d => uptoBulk d + 1
  | .map entries => uptoBulkEntries entries + 1
  | .held _ => 1
def uptoBulkAll {H : Type} : List (DataW H) → Nat
  | [] => 0
  | d :: r => uptoBulk d + uptoBulkAll r
def uptoBulkEntries {H : Type} : List (Lit × DataW H) → Nat
  | [] => 0
  | x :: r => uptoBulkEntry x + uptoBulkEntries r
def uptoBulkEntry {H : Type} : Lit × DataW H → Nat
  | (.string bytes, d) => bytes.length + uptoBulk d + 1
  | (_, d) => uptoBulk d + 1
 end
def uptoSmall : (H : Type) → List (DataW H) → Bool := fun _ ds => decide (uptoBulkAll ds ≤ 1048576)
def OpenSpec.upto (s : _root_.Go.ChangeSpec) : _root_.Go.OpenSpec := { _root_.Go.OpenSpec.ofChange s with cond := some uptoSmall }

/-- 'laws.FnExactDeepestRun', WHERE WHAT IT READS IS OF BULK AT MOST 1048576: true; the input reads as it did. -/
def fnExactDeepestRunUptoRow : OpenClaim := { program := "ytcbkblboonkfhaagreat", sum := "d27021bb32c5d37976b8050593dd8482c9342f7a3e147142a1ca22691fe60a37", func := "loop.example/closurecells/laws.FnExactDeepestRun", spec := "fnExactDeepestRun", inPlace := ["maps.clone"], unfollowed := true, recurses := true, apart := false, narrowed := true }
def FnExactDeepestRunUptoSaid : Prop := fnExactDeepestRunUptoRow.holds Tryz.pinned (OpenSpec.upto fnExactDeepestRunSpec)

/-- 'laws.FnSameMeaning', WHERE WHAT IT READS IS OF BULK AT MOST 1048576: true; the input reads as it did. -/
def fnSameMeaningUptoRow : OpenClaim := { program := "ytcbkblboonkfhaagreat", sum := "d27021bb32c5d37976b8050593dd8482c9342f7a3e147142a1ca22691fe60a37", func := "loop.example/closurecells/laws.FnSameMeaning", spec := "fnSameMeaning", inPlace := ["maps.clone"], unfollowed := true, recurses := true, apart := false, narrowed := true }
def FnSameMeaningUptoSaid : Prop := fnSameMeaningUptoRow.holds Tryz.pinned (OpenSpec.upto fnSameMeaningSpec)

/-- 'laws.FnIdleDeclarations', WHERE WHAT IT READS IS OF BULK AT MOST 1048576: true; the input reads as it did. -/
def fnIdleDeclarationsUptoRow : OpenClaim := { program := "ytcbkblboonkfhaagreat", sum := "d27021bb32c5d37976b8050593dd8482c9342f7a3e147142a1ca22691fe60a37", func := "loop.example/closurecells/laws.FnIdleDeclarations", spec := "fnIdleDeclarations", inPlace := ["maps.clone"], unfollowed := true, recurses := true, apart := false, narrowed := true }
def FnIdleDeclarationsUptoSaid : Prop := fnIdleDeclarationsUptoRow.holds Tryz.pinned (OpenSpec.upto fnIdleDeclarationsSpec)

/-- 'laws.FnLeanProgram', WHERE WHAT IT READS IS OF BULK AT MOST 1048576: true; the input reads as it did. -/
def fnLeanProgramUptoRow : OpenClaim := { program := "ytcbkblboonkfhaagreat", sum := "d27021bb32c5d37976b8050593dd8482c9342f7a3e147142a1ca22691fe60a37", func := "loop.example/closurecells/laws.FnLeanProgram", spec := "fnLeanProgram", inPlace := ["maps.clone"], unfollowed := true, recurses := true, apart := false, narrowed := true }
def FnLeanProgramUptoSaid : Prop := fnLeanProgramUptoRow.holds Tryz.pinned (OpenSpec.upto fnLeanProgramSpec)

/-- 'laws.FnFullProgram', WHERE WHAT IT READS IS OF BULK AT MOST 1048576: true; the input reads as it did. -/
def fnFullProgramUptoRow : OpenClaim := { program := "ytcbkblboonkfhaagreat", sum := "d27021bb32c5d37976b8050593dd8482c9342f7a3e147142a1ca22691fe60a37", func := "loop.example/closurecells/laws.FnFullProgram", spec := "fnFullProgram", inPlace := ["maps.clone"], unfollowed := true, recurses := true, apart := false, narrowed := true }
def FnFullProgramUptoSaid : Prop := fnFullProgramUptoRow.holds Tryz.pinned (OpenSpec.upto fnFullProgramSpec)

/-- 'laws.FnExactViewsByMeaning', WHERE WHAT IT READS IS OF BULK AT MOST 1048576: true; the input reads as it did. -/
def fnExactViewsByMeaningUptoRow : OpenClaim := { program := "ytcbkblboonkfhaagreat", sum := "d27021bb32c5d37976b8050593dd8482c9342f7a3e147142a1ca22691fe60a37", func := "loop.example/closurecells/laws.FnExactViewsByMeaning", spec := "fnExactViewsByMeaning", inPlace := ["maps.clone"], unfollowed := true, recurses := true, apart := false, narrowed := true }
def FnExactViewsByMeaningUptoSaid : Prop := fnExactViewsByMeaningUptoRow.holds Tryz.pinned (OpenSpec.upto fnExactViewsByMeaningSpec)

/-- 'laws.FnViewsByMeaning', WHERE WHAT IT READS IS OF BULK AT MOST 1048576: true; the input reads as it did. -/
def fnViewsByMeaningUptoRow : OpenClaim := { program := "ytcbkblboonkfhaagreat", sum := "d27021bb32c5d37976b8050593dd8482c9342f7a3e147142a1ca22691fe60a37", func := "loop.example/closurecells/laws.FnViewsByMeaning", spec := "fnViewsByMeaning", inPlace := ["maps.clone"], unfollowed := true, recurses := true, apart := false, narrowed := true }
def FnViewsByMeaningUptoSaid : Prop := fnViewsByMeaningUptoRow.holds Tryz.pinned (OpenSpec.upto fnViewsByMeaningSpec)

end Rows
end Go.Proofs.YtcbkblboonkfhaaGreat
