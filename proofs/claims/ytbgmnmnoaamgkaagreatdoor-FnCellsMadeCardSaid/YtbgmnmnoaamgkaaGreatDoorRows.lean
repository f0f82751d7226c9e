/-
  NARROWER THAN 'FOR EVERY INPUT', by the rows' own cells (each row's printed sentence says how): FnExactCellsMade: laid · FnExactFramesMade: laid · FnFramesMade: laid · FnCellsMade: laid · FnExactTraceByCode: laid · FnExactRunCode: laid · FnTraceByCode: laid · FnRunCode: laid.
  DERIVED. THE GIVEN ROWS OF THIS SEAT. 8 by the template 'for every input the law returns true; each argument reads behind the call as it read before'; 0 by the template 'total and deterministic' (their statements: YtbgmnmnoaamgkaaGreatDoorTotals.lean).
  GIVEN WITH THE SEED: the statements are not yours to turn. If you find one false, say at which input.
  Laid BY PROGRAM, IN A SANDBOX (cutbox-rows.mjs): the forced cells as the released guide's own fill.sh prints them over the translation d6a4f9017bd552c9… (all of the seat's roots in one cut). By AI agents, Wed Nov 11 2026. No macro, syntax, notation, axiom, sorry.
-/
import Derived.Test.YtbgmnmnoaamgkaaGreatDoorChecked
import GoSem.Claim
import GoSem.ClaimJoined
import GoSem.ClaimMapViews
import Derived.JoinedTies
import Derived.KernelRfl
namespace Go.Proofs.YtbgmnmnoaamgkaaGreatDoor
/- THE CELL 'sum', in the pinned program and in every row, IS THE sha256 OF THE DUMP (.gsa) THAT YtbgmnmnoaamgkaaGreatDoorProg.lean LOADS. Nothing in Lean hashes anything: it is a label: what it is worth is what the hold of that sum in a sandbox is worth. -/
noncomputable def Tryz.pinned : Pinned := { name := "ytbgmnmnoaamgkaagreatdoor", sum := "d6a4f9017bd552c9dba0a23c119dbd265fa9e0e6ea3cd58e687381f4def27ba7", checked := Tryz.checked }
namespace Rows
def none {H : Type} : Left H := { results := [], args := [] }

/- WHAT THE LISTED PACKAGE-LEVEL VARIABLES READ AS WHEN THE CALL BEGINS. Each datum BY PROGRAM (the guide's laid-datum.mjs) off the statement by which the dump's own 'gosem.cut.vars' lays the variable. In a bare row this is a premise. The card (YtbgmnmnoaamgkaaGreatDoorCards.lean) ties it to the program's text. -/
def laid_loop_example_closurecells_impl_loadCodes {H : Type} : DataW H := .agg [.lit (.int .i64 8), .lit (.int .i64 5), .lit (.int .i64 11), .lit (.int .i64 5), .lit (.int .i64 2)]

/-- 'laws.FnExactCellsMade': WHATEVER THE INPUT: true; the input reads as it did. -/
def fnExactCellsMadeSpec : ChangeSpec := { name := "fnExactCellsMade", vars := ["loop.example/closurecells/impl.loadCodes"], fn := fun _ => fun
  | [d1, d2, g1] => { results := [.lit (.bool true)], args := [d1, d2], vars := [g1] }
  | _ => none }
def fnExactCellsMadeRow : OpenClaim := { program := "ytbgmnmnoaamgkaagreatdoor", sum := "d6a4f9017bd552c9dba0a23c119dbd265fa9e0e6ea3cd58e687381f4def27ba7", func := "loop.example/closurecells/laws.FnExactCellsMade", spec := "fnExactCellsMade", unfollowed := true, recurses := true, named := ["loop.example/closurecells/impl.loadCodes"], apart := false, laid := [("loop.example/closurecells/impl.loadCodes", laid_loop_example_closurecells_impl_loadCodes)] }
def FnExactCellsMadeSaid : Prop := fnExactCellsMadeRow.holds Tryz.pinned (OpenSpec.ofChange fnExactCellsMadeSpec)

/-- ITS FALSE NEIGHBOUR: 'it returns false'. Refute it at one input. -/
def fnExactCellsMadeWrong : ChangeSpec := { name := "fnExactCellsMade", vars := ["loop.example/closurecells/impl.loadCodes"], fn := fun _ => fun
  | [d1, d2, g1] => { results := [.lit (.bool false)], args := [d1, d2], vars := [g1] }
  | _ => none }
def FnExactCellsMadeWrongFalsely : Prop := fnExactCellsMadeRow.holds Tryz.pinned (OpenSpec.ofChange fnExactCellsMadeWrong)

/-- 'laws.FnExactFramesMade': WHATEVER THE INPUT: true; the input reads as it did. -/
def fnExactFramesMadeSpec : ChangeSpec := { name := "fnExactFramesMade", vars := ["loop.example/closurecells/impl.loadCodes"], fn := fun _ => fun
  | [d1, d2, g1] => { results := [.lit (.bool true)], args := [d1, d2], vars := [g1] }
  | _ => none }
def fnExactFramesMadeRow : OpenClaim := { program := "ytbgmnmnoaamgkaagreatdoor", sum := "d6a4f9017bd552c9dba0a23c119dbd265fa9e0e6ea3cd58e687381f4def27ba7", func := "loop.example/closurecells/laws.FnExactFramesMade", spec := "fnExactFramesMade", unfollowed := true, recurses := true, named := ["loop.example/closurecells/impl.loadCodes"], apart := false, laid := [("loop.example/closurecells/impl.loadCodes", laid_loop_example_closurecells_impl_loadCodes)] }
def FnExactFramesMadeSaid : Prop := fnExactFramesMadeRow.holds Tryz.pinned (OpenSpec.ofChange fnExactFramesMadeSpec)

/-- ITS FALSE NEIGHBOUR: 'it returns false'. Refute it at one input. -/
def fnExactFramesMadeWrong : ChangeSpec := { name := "fnExactFramesMade", vars := ["loop.example/closurecells/impl.loadCodes"], fn := fun _ => fun
  | [d1, d2, g1] => { results := [.lit (.bool false)], args := [d1, d2], vars := [g1] }
  | _ => none }
def FnExactFramesMadeWrongFalsely : Prop := fnExactFramesMadeRow.holds Tryz.pinned (OpenSpec.ofChange fnExactFramesMadeWrong)

/-- 'laws.FnFramesMade': WHATEVER THE INPUT: true; the input reads as it did. -/
def fnFramesMadeSpec : ChangeSpec := { name := "fnFramesMade", vars := ["loop.example/closurecells/impl.loadCodes"], fn := fun _ => fun
  | [d, g1] => { results := [.lit (.bool true)], args := [d], vars := [g1] }
  | _ => none }
def fnFramesMadeRow : OpenClaim := { program := "ytbgmnmnoaamgkaagreatdoor", sum := "d6a4f9017bd552c9dba0a23c119dbd265fa9e0e6ea3cd58e687381f4def27ba7", func := "loop.example/closurecells/laws.FnFramesMade", spec := "fnFramesMade", unfollowed := true, recurses := true, named := ["loop.example/closurecells/impl.loadCodes"], apart := false, laid := [("loop.example/closurecells/impl.loadCodes", laid_loop_example_closurecells_impl_loadCodes)] }
def FnFramesMadeSaid : Prop := fnFramesMadeRow.holds Tryz.pinned (OpenSpec.ofChange fnFramesMadeSpec)

/-- ITS FALSE NEIGHBOUR: 'it returns false'. Refute it at one input. -/
def fnFramesMadeWrong : ChangeSpec := { name := "fnFramesMade", vars := ["loop.example/closurecells/impl.loadCodes"], fn := fun _ => fun
  | [d, g1] => { results := [.lit (.bool false)], args := [d], vars := [g1] }
  | _ => none }
def FnFramesMadeWrongFalsely : Prop := fnFramesMadeRow.holds Tryz.pinned (OpenSpec.ofChange fnFramesMadeWrong)

/-- 'laws.FnCellsMade': WHATEVER THE INPUT: true; the input reads as it did. -/
def fnCellsMadeSpec : ChangeSpec := { name := "fnCellsMade", vars := ["loop.example/closurecells/impl.loadCodes"], fn := fun _ => fun
  | [d, g1] => { results := [.lit (.bool true)], args := [d], vars := [g1] }
  | _ => none }
def fnCellsMadeRow : OpenClaim := { program := "ytbgmnmnoaamgkaagreatdoor", sum := "d6a4f9017bd552c9dba0a23c119dbd265fa9e0e6ea3cd58e687381f4def27ba7", func := "loop.example/closurecells/laws.FnCellsMade", spec := "fnCellsMade", unfollowed := true, recurses := true, named := ["loop.example/closurecells/impl.loadCodes"], apart := false, laid := [("loop.example/closurecells/impl.loadCodes", laid_loop_example_closurecells_impl_loadCodes)] }
def FnCellsMadeSaid : Prop := fnCellsMadeRow.holds Tryz.pinned (OpenSpec.ofChange fnCellsMadeSpec)

/-- ITS FALSE NEIGHBOUR: 'it returns false'. Refute it at one input. -/
def fnCellsMadeWrong : ChangeSpec := { name := "fnCellsMade", vars := ["loop.example/closurecells/impl.loadCodes"], fn := fun _ => fun
  | [d, g1] => { results := [.lit (.bool false)], args := [d], vars := [g1] }
  | _ => none }
def FnCellsMadeWrongFalsely : Prop := fnCellsMadeRow.holds Tryz.pinned (OpenSpec.ofChange fnCellsMadeWrong)

/-- 'laws.FnExactTraceByCode': WHATEVER THE INPUT: true; the input reads as it did. -/
def fnExactTraceByCodeSpec : ChangeSpec := { name := "fnExactTraceByCode", vars := ["loop.example/closurecells/impl.loadCodes"], fn := fun _ => fun
  | [d1, d2, g1] => { results := [.lit (.bool true)], args := [d1, d2], vars := [g1] }
  | _ => none }
def fnExactTraceByCodeRow : OpenClaim := { program := "ytbgmnmnoaamgkaagreatdoor", sum := "d6a4f9017bd552c9dba0a23c119dbd265fa9e0e6ea3cd58e687381f4def27ba7", func := "loop.example/closurecells/laws.FnExactTraceByCode", spec := "fnExactTraceByCode", unfollowed := true, recurses := true, named := ["loop.example/closurecells/impl.loadCodes"], apart := false, laid := [("loop.example/closurecells/impl.loadCodes", laid_loop_example_closurecells_impl_loadCodes)] }
def FnExactTraceByCodeSaid : Prop := fnExactTraceByCodeRow.holds Tryz.pinned (OpenSpec.ofChange fnExactTraceByCodeSpec)

/-- ITS FALSE NEIGHBOUR: 'it returns false'. Refute it at one input. -/
def fnExactTraceByCodeWrong : ChangeSpec := { name := "fnExactTraceByCode", vars := ["loop.example/closurecells/impl.loadCodes"], fn := fun _ => fun
  | [d1, d2, g1] => { results := [.lit (.bool false)], args := [d1, d2], vars := [g1] }
  | _ => none }
def FnExactTraceByCodeWrongFalsely : Prop := fnExactTraceByCodeRow.holds Tryz.pinned (OpenSpec.ofChange fnExactTraceByCodeWrong)

/-- 'laws.FnExactRunCode': WHATEVER THE INPUT: true; the input reads as it did. -/
def fnExactRunCodeSpec : ChangeSpec := { name := "fnExactRunCode", vars := ["loop.example/closurecells/impl.loadCodes"], fn := fun _ => fun
  | [d1, d2, g1] => { results := [.lit (.bool true)], args := [d1, d2], vars := [g1] }
  | _ => none }
def fnExactRunCodeRow : OpenClaim := { program := "ytbgmnmnoaamgkaagreatdoor", sum := "d6a4f9017bd552c9dba0a23c119dbd265fa9e0e6ea3cd58e687381f4def27ba7", func := "loop.example/closurecells/laws.FnExactRunCode", spec := "fnExactRunCode", unfollowed := true, recurses := true, named := ["loop.example/closurecells/impl.loadCodes"], apart := false, laid := [("loop.example/closurecells/impl.loadCodes", laid_loop_example_closurecells_impl_loadCodes)] }
def FnExactRunCodeSaid : Prop := fnExactRunCodeRow.holds Tryz.pinned (OpenSpec.ofChange fnExactRunCodeSpec)

/-- ITS FALSE NEIGHBOUR: 'it returns false'. Refute it at one input. -/
def fnExactRunCodeWrong : ChangeSpec := { name := "fnExactRunCode", vars := ["loop.example/closurecells/impl.loadCodes"], fn := fun _ => fun
  | [d1, d2, g1] => { results := [.lit (.bool false)], args := [d1, d2], vars := [g1] }
  | _ => none }
def FnExactRunCodeWrongFalsely : Prop := fnExactRunCodeRow.holds Tryz.pinned (OpenSpec.ofChange fnExactRunCodeWrong)

/-- 'laws.FnTraceByCode': WHATEVER THE INPUT: true; the input reads as it did. -/
def fnTraceByCodeSpec : ChangeSpec := { name := "fnTraceByCode", vars := ["loop.example/closurecells/impl.loadCodes"], fn := fun _ => fun
  | [d, g1] => { results := [.lit (.bool true)], args := [d], vars := [g1] }
  | _ => none }
def fnTraceByCodeRow : OpenClaim := { program := "ytbgmnmnoaamgkaagreatdoor", sum := "d6a4f9017bd552c9dba0a23c119dbd265fa9e0e6ea3cd58e687381f4def27ba7", func := "loop.example/closurecells/laws.FnTraceByCode", spec := "fnTraceByCode", inPlace := ["maps.clone"], unfollowed := true, recurses := true, named := ["loop.example/closurecells/impl.loadCodes"], apart := false, laid := [("loop.example/closurecells/impl.loadCodes", laid_loop_example_closurecells_impl_loadCodes)] }
def FnTraceByCodeSaid : Prop := fnTraceByCodeRow.holds Tryz.pinned (OpenSpec.ofChange fnTraceByCodeSpec)

/-- ITS FALSE NEIGHBOUR: 'it returns false'. Refute it at one input. -/
def fnTraceByCodeWrong : ChangeSpec := { name := "fnTraceByCode", vars := ["loop.example/closurecells/impl.loadCodes"], fn := fun _ => fun
  | [d, g1] => { results := [.lit (.bool false)], args := [d], vars := [g1] }
  | _ => none }
def FnTraceByCodeWrongFalsely : Prop := fnTraceByCodeRow.holds Tryz.pinned (OpenSpec.ofChange fnTraceByCodeWrong)

/-- 'laws.FnRunCode': WHATEVER THE INPUT: true; the input reads as it did. -/
def fnRunCodeSpec : ChangeSpec := { name := "fnRunCode", vars := ["loop.example/closurecells/impl.loadCodes"], fn := fun _ => fun
  | [d, g1] => { results := [.lit (.bool true)], args := [d], vars := [g1] }
  | _ => none }
def fnRunCodeRow : OpenClaim := { program := "ytbgmnmnoaamgkaagreatdoor", sum := "d6a4f9017bd552c9dba0a23c119dbd265fa9e0e6ea3cd58e687381f4def27ba7", func := "loop.example/closurecells/laws.FnRunCode", spec := "fnRunCode", inPlace := ["maps.clone"], unfollowed := true, recurses := true, named := ["loop.example/closurecells/impl.loadCodes"], apart := false, laid := [("loop.example/closurecells/impl.loadCodes", laid_loop_example_closurecells_impl_loadCodes)] }
def FnRunCodeSaid : Prop := fnRunCodeRow.holds Tryz.pinned (OpenSpec.ofChange fnRunCodeSpec)

/-- ITS FALSE NEIGHBOUR: 'it returns false'. Refute it at one input. -/
def fnRunCodeWrong : ChangeSpec := { name := "fnRunCode", vars := ["loop.example/closurecells/impl.loadCodes"], fn := fun _ => fun
  | [d, g1] => { results := [.lit (.bool false)], args := [d], vars := [g1] }
  | _ => none }
def FnRunCodeWrongFalsely : Prop := fnRunCodeRow.holds Tryz.pinned (OpenSpec.ofChange fnRunCodeWrong)

/- THE SECOND FORM. 'bulk': how many values and letters a reading holds, each counted each time it is reached (what is shared counts as often as it is met; a slice's spare places count too). A statement '..UptoSaid' is the law's where the arguments, and the package variables that the reading takes, are together of bulk at most 1048576: NARROWER than '..Said'. Prove '..Said' where nothing that the law and all that it calls make is longer than what came in: it says more and counts as full. Else prove '..UptoSaid'. A law counts once. -/
mutual
def uptoBulk {H : Type} : DataW H → Nat
  | .lit (.string bytes) => bytes.length + 1
  | .lit _ => 1
  | .nil => 1
  | .ptr d => uptoBulk d + 1
  | .slice elems spare => uptoBulkAll elems + uptoBulkAll spare + 1
  | .agg parts => uptoBulkAll parts + 1
  | .iface _ d => uptoBulk d + 1
  | .map entries => uptoBulkEntries entries + 1
  | .held _ => 1
def uptoBulkAll {H : Type} : List (DataW H) → Nat
  | [] => 0
  | d :: r => uptoBulk d + uptoBulkAll r
def uptoBulkEntries {H : Type} : List (Lit × DataW H) → Nat
  | [] => 0
  | x :: r => uptoBulkEntry x + uptoBulkEntries r
def uptoBulkEntry {H : Type} : Lit × DataW H → Nat
  | (.string bytes, d) => bytes.length + uptoBulk d + 1
  | (_, d) => uptoBulk d + 1
 end
def uptoSmall : (H : Type) → List (DataW H) → Bool := fun _ ds => decide (uptoBulkAll ds ≤ 1048576)
def OpenSpec.upto (s : _root_.Go.ChangeSpec) : _root_.Go.OpenSpec := { _root_.Go.OpenSpec.ofChange s with cond := some uptoSmall }

/-- 'laws.FnExactCellsMade', WHERE WHAT IT READS IS OF BULK AT MOST 1048576: true; the input reads as it did. -/
def fnExactCellsMadeUptoRow : OpenClaim := { program := "ytbgmnmnoaamgkaagreatdoor", sum := "d6a4f9017bd552c9dba0a23c119dbd265fa9e0e6ea3cd58e687381f4def27ba7", func := "loop.example/closurecells/laws.FnExactCellsMade", spec := "fnExactCellsMade", unfollowed := true, recurses := true, named := ["loop.example/closurecells/impl.loadCodes"], apart := false, laid := [("loop.example/closurecells/impl.loadCodes", laid_loop_example_closurecells_impl_loadCodes)], narrowed := true }
def FnExactCellsMadeUptoSaid : Prop := fnExactCellsMadeUptoRow.holds Tryz.pinned (OpenSpec.upto fnExactCellsMadeSpec)

/-- 'laws.FnExactFramesMade', WHERE WHAT IT READS IS OF BULK AT MOST 1048576: true; the input reads as it did. -/
def fnExactFramesMadeUptoRow : OpenClaim := { program := "ytbgmnmnoaamgkaagreatdoor", sum := "d6a4f9017bd552c9dba0a23c119dbd265fa9e0e6ea3cd58e687381f4def27ba7", func := "loop.example/closurecells/laws.FnExactFramesMade", spec := "fnExactFramesMade", unfollowed := true, recurses := true, named := ["loop.example/closurecells/impl.loadCodes"], apart := false, laid := [("loop.example/closurecells/impl.loadCodes", laid_loop_example_closurecells_impl_loadCodes)], narrowed := true }
def FnExactFramesMadeUptoSaid : Prop := fnExactFramesMadeUptoRow.holds Tryz.pinned (OpenSpec.upto fnExactFramesMadeSpec)

/-- 'laws.FnFramesMade', WHERE WHAT IT READS IS OF BULK AT MOST 1048576: true; the input reads as it did. -/
def fnFramesMadeUptoRow : OpenClaim := { program := "ytbgmnmnoaamgkaagreatdoor", sum := "d6a4f9017bd552c9dba0a23c119dbd265fa9e0e6ea3cd58e687381f4def27ba7", func := "loop.example/closurecells/laws.FnFramesMade", spec := "fnFramesMade", unfollowed := true, recurses := true, named := ["loop.example/closurecells/impl.loadCodes"], apart := false, laid := [("loop.example/closurecells/impl.loadCodes", laid_loop_example_closurecells_impl_loadCodes)], narrowed := true }
def FnFramesMadeUptoSaid : Prop := fnFramesMadeUptoRow.holds Tryz.pinned (OpenSpec.upto fnFramesMadeSpec)

/-- 'laws.FnCellsMade', WHERE WHAT IT READS IS OF BULK AT MOST 1048576: true; the input reads as it did. -/
def fnCellsMadeUptoRow : OpenClaim := { program := "ytbgmnmnoaamgkaagreatdoor", sum := "d6a4f9017bd552c9dba0a23c119dbd265fa9e0e6ea3cd58e687381f4def27ba7", func := "loop.example/closurecells/laws.FnCellsMade", spec := "fnCellsMade", unfollowed := true, recurses := true, named := ["loop.example/closurecells/impl.loadCodes"], apart := false, laid := [("loop.example/closurecells/impl.loadCodes", laid_loop_example_closurecells_impl_loadCodes)], narrowed := true }
def FnCellsMadeUptoSaid : Prop := fnCellsMadeUptoRow.holds Tryz.pinned (OpenSpec.upto fnCellsMadeSpec)

/-- 'laws.FnExactTraceByCode', WHERE WHAT IT READS IS OF BULK AT MOST 1048576: true; the input reads as it did. -/
def fnExactTraceByCodeUptoRow : OpenClaim := { program := "ytbgmnmnoaamgkaagreatdoor", sum := "d6a4f9017bd552c9dba0a23c119dbd265fa9e0e6ea3cd58e687381f4def27ba7", func := "loop.example/closurecells/laws.FnExactTraceByCode", spec := "fnExactTraceByCode", unfollowed := true, recurses := true, named := ["loop.example/closurecells/impl.loadCodes"], apart := false, laid := [("loop.example/closurecells/impl.loadCodes", laid_loop_example_closurecells_impl_loadCodes)], narrowed := true }
def FnExactTraceByCodeUptoSaid : Prop := fnExactTraceByCodeUptoRow.holds Tryz.pinned (OpenSpec.upto fnExactTraceByCodeSpec)

/-- 'laws.FnExactRunCode', WHERE WHAT IT READS IS OF BULK AT MOST 1048576: true; the input reads as it did. -/
def fnExactRunCodeUptoRow : OpenClaim := { program := "ytbgmnmnoaamgkaagreatdoor", sum := "d6a4f9017bd552c9dba0a23c119dbd265fa9e0e6ea3cd58e687381f4def27ba7", func := "loop.example/closurecells/laws.FnExactRunCode", spec := "fnExactRunCode", unfollowed := true, recurses := true, named := ["loop.example/closurecells/impl.loadCodes"], apart := false, laid := [("loop.example/closurecells/impl.loadCodes", laid_loop_example_closurecells_impl_loadCodes)], narrowed := true }
def FnExactRunCodeUptoSaid : Prop := fnExactRunCodeUptoRow.holds Tryz.pinned (OpenSpec.upto fnExactRunCodeSpec)

/-- 'laws.FnTraceByCode', WHERE WHAT IT READS IS OF BULK AT MOST 1048576: true; the input reads as it did. -/
def fnTraceByCodeUptoRow : OpenClaim := { program := "ytbgmnmnoaamgkaagreatdoor", sum := "d6a4f9017bd552c9dba0a23c119dbd265fa9e0e6ea3cd58e687381f4def27ba7", func := "loop.example/closurecells/laws.FnTraceByCode", spec := "fnTraceByCode", inPlace := ["maps.clone"], unfollowed := true, recurses := true, named := ["loop.example/closurecells/impl.loadCodes"], apart := false, laid := [("loop.example/closurecells/impl.loadCodes", laid_loop_example_closurecells_impl_loadCodes)], narrowed := true }
def FnTraceByCodeUptoSaid : Prop := fnTraceByCodeUptoRow.holds Tryz.pinned (OpenSpec.upto fnTraceByCodeSpec)

/-- 'laws.FnRunCode', WHERE WHAT IT READS IS OF BULK AT MOST 1048576: true; the input reads as it did. -/
def fnRunCodeUptoRow : OpenClaim := { program := "ytbgmnmnoaamgkaagreatdoor", sum := "d6a4f9017bd552c9dba0a23c119dbd265fa9e0e6ea3cd58e687381f4def27ba7", func := "loop.example/closurecells/laws.FnRunCode", spec := "fnRunCode", inPlace := ["maps.clone"], unfollowed := true, recurses := true, named := ["loop.example/closurecells/impl.loadCodes"], apart := false, laid := [("loop.example/closurecells/impl.loadCodes", laid_loop_example_closurecells_impl_loadCodes)], narrowed := true }
def FnRunCodeUptoSaid : Prop := fnRunCodeUptoRow.holds Tryz.pinned (OpenSpec.upto fnRunCodeSpec)

end Rows
end Go.Proofs.YtbgmnmnoaamgkaaGreatDoor
