/-
  No cell of these rows narrows 'for every input' (looked for: loops, veiled, ifaces, maps, wideKeys, modest, calm, conditions, laid).
  DERIVED. THE GIVEN ROWS OF THIS SEAT. 4 by the template 'for every input the law returns true; each argument reads behind the call as it read before'; 0 by the template 'total and deterministic' (their statements: YtopgafhjmbfaoaaTotals.lean).
  GIVEN WITH THE SEED: the statements are not yours to turn. If you find one false, say at which input.
  Laid BY PROGRAM, IN A SANDBOX (cutbox-rows.mjs): the forced cells as the released guide's own fill.sh prints them over the translation 9fe250329c249f61… (all of the seat's roots in one cut). By AI agents, Wed Nov 11 2026. No macro, syntax, notation, axiom, sorry.
-/
import Derived.Test.YtopgafhjmbfaoaaChecked
import GoSem.Claim
import GoSem.ClaimJoined
import GoSem.ClaimMapViews
import Derived.JoinedTies
import Derived.KernelRfl
namespace Go.Proofs.Ytopgafhjmbfaoaa
/- THE CELL 'sum', in the pinned program and in every row, IS THE sha256 OF THE DUMP (.gsa) THAT YtopgafhjmbfaoaaProg.lean LOADS. Nothing in Lean hashes anything: it is a label: what it is worth is what the hold of that sum in a sandbox is worth. -/
noncomputable def Try.pinned : Pinned := { name := "ytopgafhjmbfaoaa", sum := "9fe250329c249f611952199c98fa0bfeec10176e9c8740ef7c915c28e7863846", checked := Try.checked }
namespace Rows
def none {H : Type} : Left H := { results := [], args := [] }

/-- 'laws.FnExactFullProgram': WHATEVER THE INPUT: true; the input reads as it did. -/
def fnExactFullProgramSpec : ChangeSpec := { name := "fnExactFullProgram", fn := fun _ => fun
  | [d] => { results := [.lit (.bool true)], args := [d] }
  | _ => none }
def fnExactFullProgramRow : OpenClaim := { program := "ytopgafhjmbfaoaa", sum := "9fe250329c249f611952199c98fa0bfeec10176e9c8740ef7c915c28e7863846", func := "loop.example/closurecells/laws.FnExactFullProgram", spec := "fnExactFullProgram", unfollowed := true, recurses := true, apart := false }
def FnExactFullProgramSaid : Prop := fnExactFullProgramRow.holds Try.pinned (OpenSpec.ofChange fnExactFullProgramSpec)

/-- ITS FALSE NEIGHBOUR: 'it returns false'. Refute it at one input. -/
def fnExactFullProgramWrong : ChangeSpec := { name := "fnExactFullProgram", fn := fun _ => fun
  | [d] => { results := [.lit (.bool false)], args := [d] }
  | _ => none }
def FnExactFullProgramWrongFalsely : Prop := fnExactFullProgramRow.holds Try.pinned (OpenSpec.ofChange fnExactFullProgramWrong)

/-- 'laws.FnExactRenameIn': WHATEVER THE INPUT: true; the input reads as it did. -/
def fnExactRenameInSpec : ChangeSpec := { name := "fnExactRenameIn", fn := fun _ => fun
  | [d1, d2, d3, d4] => { results := [.lit (.bool true)], args := [d1, d2, d3, d4] }
  | _ => none }
def fnExactRenameInRow : OpenClaim := { program := "ytopgafhjmbfaoaa", sum := "9fe250329c249f611952199c98fa0bfeec10176e9c8740ef7c915c28e7863846", func := "loop.example/closurecells/laws.FnExactRenameIn", spec := "fnExactRenameIn", unfollowed := true, recurses := true, apart := false }
def FnExactRenameInSaid : Prop := fnExactRenameInRow.holds Try.pinned (OpenSpec.ofChange fnExactRenameInSpec)

/-- ITS FALSE NEIGHBOUR: 'it returns false'. Refute it at one input. -/
def fnExactRenameInWrong : ChangeSpec := { name := "fnExactRenameIn", fn := fun _ => fun
  | [d1, d2, d3, d4] => { results := [.lit (.bool false)], args := [d1, d2, d3, d4] }
  | _ => none }
def FnExactRenameInWrongFalsely : Prop := fnExactRenameInRow.holds Try.pinned (OpenSpec.ofChange fnExactRenameInWrong)

/-- 'laws.FnRenameInBack': WHATEVER THE INPUT: true; the input reads as it did. -/
def fnRenameInBackSpec : ChangeSpec := { name := "fnRenameInBack", fn := fun _ => fun
  | [d] => { results := [.lit (.bool true)], args := [d] }
  | _ => none }
def fnRenameInBackRow : OpenClaim := { program := "ytopgafhjmbfaoaa", sum := "9fe250329c249f611952199c98fa0bfeec10176e9c8740ef7c915c28e7863846", func := "loop.example/closurecells/laws.FnRenameInBack", spec := "fnRenameInBack", unfollowed := true, recurses := true, apart := false }
def FnRenameInBackSaid : Prop := fnRenameInBackRow.holds Try.pinned (OpenSpec.ofChange fnRenameInBackSpec)

/-- ITS FALSE NEIGHBOUR: 'it returns false'. Refute it at one input. -/
def fnRenameInBackWrong : ChangeSpec := { name := "fnRenameInBack", fn := fun _ => fun
  | [d] => { results := [.lit (.bool false)], args := [d] }
  | _ => none }
def FnRenameInBackWrongFalsely : Prop := fnRenameInBackRow.holds Try.pinned (OpenSpec.ofChange fnRenameInBackWrong)

/-- 'laws.FnExactLeanProgram': WHATEVER THE INPUT: true; the input reads as it did. -/
def fnExactLeanProgramSpec : ChangeSpec := { name := "fnExactLeanProgram", fn := fun _ => fun
  | [d] => { results := [.lit (.bool true)], args := [d] }
  | _ => none }
def fnExactLeanProgramRow : OpenClaim := { program := "ytopgafhjmbfaoaa", sum := "9fe250329c249f611952199c98fa0bfeec10176e9c8740ef7c915c28e7863846", func := "loop.example/closurecells/laws.FnExactLeanProgram", spec := "fnExactLeanProgram", unfollowed := true, recurses := true, apart := false }
def FnExactLeanProgramSaid : Prop := fnExactLeanProgramRow.holds Try.pinned (OpenSpec.ofChange fnExactLeanProgramSpec)

/-- ITS FALSE NEIGHBOUR: 'it returns false'. Refute it at one input. -/
def fnExactLeanProgramWrong : ChangeSpec := { name := "fnExactLeanProgram", fn := fun _ => fun
  | [d] => { results := [.lit (.bool false)], args := [d] }
  | _ => none }
def FnExactLeanProgramWrongFalsely : Prop := fnExactLeanProgramRow.holds Try.pinned (OpenSpec.ofChange fnExactLeanProgramWrong)

/- THE SECOND FORM. 'bulk': how many values and letters a reading holds, each counted each time it is reached (what is shared counts as often as it is met; a slice's spare places count too). A statement '..UptoSaid' is the law's where the arguments, and the package variables that the reading takes, are together of bulk at most 1048576: NARROWER than '..Said'. Prove '..Said' where nothing that the law and all that it calls make is longer than what came in: it says more and counts as full. Else prove '..UptoSaid'. A law counts once. -/
mutual
def uptoBulk {H : Type} : DataW H → Nat
  | .lit (.string bytes) => bytes.length + 1
  | .lit _ => 1
  | .nil => 1
  | .ptr d => uptoBulk d + 1
  | .slice elems spare => uptoBulkAll elems + uptoBulkAll spare + 1
  | .agg parts => uptoBulkAll parts + 1
  | .iface _ d => uptoBulk d + 1
  | .map entries => uptoBulkEntries entries + 1
  | .held _ => 1
def uptoBulkAll {H : Type} : List (DataW H) → Nat
  | [] => 0
  | d :: r => uptoBulk d + uptoBulkAll r
def uptoBulkEntries {H : Type} : List (Lit × DataW H) → Nat
  | [] => 0
  | x :: r => uptoBulkEntry x + uptoBulkEntries r
def uptoBulkEntry {H : Type} : Lit × DataW H → Nat
  | (.string bytes, d) => bytes.length + uptoBulk d + 1
  | (_, d) => uptoBulk d + 1
 end
def uptoSmall : (H : Type) → List (DataW H) → Bool := fun _ ds => decide (uptoBulkAll ds ≤ 1048576)
def OpenSpec.upto (s : _root_.Go.ChangeSpec) : _root_.Go.OpenSpec := { _root_.Go.OpenSpec.ofChange s with cond := some uptoSmall }

/-- 'laws.FnExactFullProgram', WHERE WHAT IT READS IS OF BULK AT MOST 1048576: true; the input reads as it did. -/
def fnExactFullProgramUptoRow : OpenClaim := { program := "ytopgafhjmbfaoaa", sum := "9fe250329c249f611952199c98fa0bfeec10176e9c8740ef7c915c28e7863846", func := "loop.example/closurecells/laws.FnExactFullProgram", spec := "fnExactFullProgram", unfollowed := true, recurses := true, apart := false, narrowed := true }
def FnExactFullProgramUptoSaid : Prop := fnExactFullProgramUptoRow.holds Try.pinned (OpenSpec.upto fnExactFullProgramSpec)

/-- 'laws.FnExactRenameIn', WHERE WHAT IT READS IS OF BULK AT MOST 1048576: true; the input reads as it did. -/
def fnExactRenameInUptoRow : OpenClaim := { program := "ytopgafhjmbfaoaa", sum := "9fe250329c249f611952199c98fa0bfeec10176e9c8740ef7c915c28e7863846", func := "loop.example/closurecells/laws.FnExactRenameIn", spec := "fnExactRenameIn", unfollowed := true, recurses := true, apart := false, narrowed := true }
def FnExactRenameInUptoSaid : Prop := fnExactRenameInUptoRow.holds Try.pinned (OpenSpec.upto fnExactRenameInSpec)

/-- 'laws.FnRenameInBack', WHERE WHAT IT READS IS OF BULK AT MOST 1048576: true; the input reads as it did. -/
def fnRenameInBackUptoRow : OpenClaim := { program := "ytopgafhjmbfaoaa", sum := "9fe250329c249f611952199c98fa0bfeec10176e9c8740ef7c915c28e7863846", func := "loop.example/closurecells/laws.FnRenameInBack", spec := "fnRenameInBack", unfollowed := true, recurses := true, apart := false, narrowed := true }
def FnRenameInBackUptoSaid : Prop := fnRenameInBackUptoRow.holds Try.pinned (OpenSpec.upto fnRenameInBackSpec)

/-- 'laws.FnExactLeanProgram', WHERE WHAT IT READS IS OF BULK AT MOST 1048576: true; the input reads as it did. -/
def fnExactLeanProgramUptoRow : OpenClaim := { program := "ytopgafhjmbfaoaa", sum := "9fe250329c249f611952199c98fa0bfeec10176e9c8740ef7c915c28e7863846", func := "loop.example/closurecells/laws.FnExactLeanProgram", spec := "fnExactLeanProgram", unfollowed := true, recurses := true, apart := false, narrowed := true }
def FnExactLeanProgramUptoSaid : Prop := fnExactLeanProgramUptoRow.holds Try.pinned (OpenSpec.upto fnExactLeanProgramSpec)

end Rows
end Go.Proofs.Ytopgafhjmbfaoaa
