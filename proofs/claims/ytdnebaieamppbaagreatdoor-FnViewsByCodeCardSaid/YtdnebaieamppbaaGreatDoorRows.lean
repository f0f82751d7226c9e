/-
  NARROWER THAN 'FOR EVERY INPUT', by the rows' own cells (each row's printed sentence says how): FnTraceByCode: laid · FnRunCode: laid · FnExactViewsByCode: laid · FnViewsByCode: laid · FnDeepestRun: laid · FnRenameIn: laid.
  DERIVED. THE GIVEN ROWS OF THIS SEAT. 6 by the template 'for every input the law returns true; each argument reads behind the call as it read before'; 0 by the template 'total and deterministic' (their statements: YtdnebaieamppbaaGreatDoorTotals.lean).
  GIVEN WITH THE SEED: the statements are not yours to turn. If you find one false, say at which input.
  Laid BY PROGRAM, IN A SANDBOX (cutbox-rows.mjs): the forced cells as the released guide's own fill.sh prints them over the translation 0c3884b01c828555… (all of the seat's roots in one cut). By AI agents, Wed Nov 11 2026. No macro, syntax, notation, axiom, sorry.
-/
import Derived.Test.YtdnebaieamppbaaGreatDoorChecked
import GoSem.Claim
import GoSem.ClaimJoined
import GoSem.ClaimMapViews
import Derived.JoinedTies
import Derived.KernelRfl
namespace Go.Proofs.YtdnebaieamppbaaGreatDoor
/- THE CELL 'sum', in the pinned program and in every row, IS THE sha256 OF THE DUMP (.gsa) THAT YtdnebaieamppbaaGreatDoorProg.lean LOADS. Nothing in Lean hashes anything: it is a label: what it is worth is what the hold of that sum in a sandbox is worth. -/
noncomputable def Tryz.pinned : Pinned := { name := "ytdnebaieamppbaagreatdoor", sum := "0c3884b01c828555aee59a3d7adf52903fbaea06051e3004e28223b2fcbbb96b", checked := Tryz.checked }
namespace Rows
def none {H : Type} : Left H := { results := [], args := [] }

/- WHAT THE LISTED PACKAGE-LEVEL VARIABLES READ AS WHEN THE CALL BEGINS. Each datum BY PROGRAM (the guide's laid-datum.mjs) off the statement by which the dump's own 'gosem.cut.vars' lays the variable. In a bare row this is a premise. The card (YtdnebaieamppbaaGreatDoorCards.lean) ties it to the program's text. -/
def laid_loop_example_closurecells_impl_loadCodes {H : Type} : DataW H := .agg [.lit (.int .i64 8), .lit (.int .i64 5), .lit (.int .i64 11), .lit (.int .i64 5), .lit (.int .i64 2)]

/-- 'laws.FnTraceByCode': WHATEVER THE INPUT: true; the input reads as it did. -/
def fnTraceByCodeSpec : ChangeSpec := { name := "fnTraceByCode", vars := ["loop.example/closurecells/impl.loadCodes"], fn := fun _ => fun
  | [d, g1] => { results := [.lit (.bool true)], args := [d], vars := [g1] }
  | _ => none }
def fnTraceByCodeRow : OpenClaim := { program := "ytdnebaieamppbaagreatdoor", sum := "0c3884b01c828555aee59a3d7adf52903fbaea06051e3004e28223b2fcbbb96b", func := "loop.example/closurecells/laws.FnTraceByCode", spec := "fnTraceByCode", inPlace := ["maps.clone"], unfollowed := true, recurses := true, named := ["loop.example/closurecells/impl.loadCodes"], apart := false, laid := [("loop.example/closurecells/impl.loadCodes", laid_loop_example_closurecells_impl_loadCodes)] }
def FnTraceByCodeSaid : Prop := fnTraceByCodeRow.holds Tryz.pinned (OpenSpec.ofChange fnTraceByCodeSpec)

/-- ITS FALSE NEIGHBOUR: 'it returns false'. Refute it at one input. -/
def fnTraceByCodeWrong : ChangeSpec := { name := "fnTraceByCode", vars := ["loop.example/closurecells/impl.loadCodes"], fn := fun _ => fun
  | [d, g1] => { results := [.lit (.bool false)], args := [d], vars := [g1] }
  | _ => none }
def FnTraceByCodeWrongFalsely : Prop := fnTraceByCodeRow.holds Tryz.pinned (OpenSpec.ofChange fnTraceByCodeWrong)

/-- 'laws.FnRunCode': WHATEVER THE INPUT: true; the input reads as it did. -/
def fnRunCodeSpec : ChangeSpec := { name := "fnRunCode", vars := ["loop.example/closurecells/impl.loadCodes"], fn := fun _ => fun
  | [d, g1] => { results := [.lit (.bool true)], args := [d], vars := [g1] }
  | _ => none }
def fnRunCodeRow : OpenClaim := { program := "ytdnebaieamppbaagreatdoor", sum := "0c3884b01c828555aee59a3d7adf52903fbaea06051e3004e28223b2fcbbb96b", func := "loop.example/closurecells/laws.FnRunCode", spec := "fnRunCode", inPlace := ["maps.clone"], unfollowed := true, recurses := true, named := ["loop.example/closurecells/impl.loadCodes"], apart := false, laid := [("loop.example/closurecells/impl.loadCodes", laid_loop_example_closurecells_impl_loadCodes)] }
def FnRunCodeSaid : Prop := fnRunCodeRow.holds Tryz.pinned (OpenSpec.ofChange fnRunCodeSpec)

/-- ITS FALSE NEIGHBOUR: 'it returns false'. Refute it at one input. -/
def fnRunCodeWrong : ChangeSpec := { name := "fnRunCode", vars := ["loop.example/closurecells/impl.loadCodes"], fn := fun _ => fun
  | [d, g1] => { results := [.lit (.bool false)], args := [d], vars := [g1] }
  | _ => none }
def FnRunCodeWrongFalsely : Prop := fnRunCodeRow.holds Tryz.pinned (OpenSpec.ofChange fnRunCodeWrong)

/-- 'laws.FnExactViewsByCode': WHATEVER THE INPUT: true; the input reads as it did. -/
def fnExactViewsByCodeSpec : ChangeSpec := { name := "fnExactViewsByCode", vars := ["loop.example/closurecells/impl.loadCodes"], fn := fun _ => fun
  | [d1, d2, g1] => { results := [.lit (.bool true)], args := [d1, d2], vars := [g1] }
  | _ => none }
def fnExactViewsByCodeRow : OpenClaim := { program := "ytdnebaieamppbaagreatdoor", sum := "0c3884b01c828555aee59a3d7adf52903fbaea06051e3004e28223b2fcbbb96b", func := "loop.example/closurecells/laws.FnExactViewsByCode", spec := "fnExactViewsByCode", unfollowed := true, recurses := true, named := ["loop.example/closurecells/impl.loadCodes"], apart := false, laid := [("loop.example/closurecells/impl.loadCodes", laid_loop_example_closurecells_impl_loadCodes)] }
def FnExactViewsByCodeSaid : Prop := fnExactViewsByCodeRow.holds Tryz.pinned (OpenSpec.ofChange fnExactViewsByCodeSpec)

/-- ITS FALSE NEIGHBOUR: 'it returns false'. Refute it at one input. -/
def fnExactViewsByCodeWrong : ChangeSpec := { name := "fnExactViewsByCode", vars := ["loop.example/closurecells/impl.loadCodes"], fn := fun _ => fun
  | [d1, d2, g1] => { results := [.lit (.bool false)], args := [d1, d2], vars := [g1] }
  | _ => none }
def FnExactViewsByCodeWrongFalsely : Prop := fnExactViewsByCodeRow.holds Tryz.pinned (OpenSpec.ofChange fnExactViewsByCodeWrong)

/-- 'laws.FnViewsByCode': WHATEVER THE INPUT: true; the input reads as it did. -/
def fnViewsByCodeSpec : ChangeSpec := { name := "fnViewsByCode", vars := ["loop.example/closurecells/impl.loadCodes"], fn := fun _ => fun
  | [d, g1] => { results := [.lit (.bool true)], args := [d], vars := [g1] }
  | _ => none }
def fnViewsByCodeRow : OpenClaim := { program := "ytdnebaieamppbaagreatdoor", sum := "0c3884b01c828555aee59a3d7adf52903fbaea06051e3004e28223b2fcbbb96b", func := "loop.example/closurecells/laws.FnViewsByCode", spec := "fnViewsByCode", inPlace := ["maps.clone"], unfollowed := true, recurses := true, named := ["loop.example/closurecells/impl.loadCodes"], apart := false, laid := [("loop.example/closurecells/impl.loadCodes", laid_loop_example_closurecells_impl_loadCodes)] }
def FnViewsByCodeSaid : Prop := fnViewsByCodeRow.holds Tryz.pinned (OpenSpec.ofChange fnViewsByCodeSpec)

/-- ITS FALSE NEIGHBOUR: 'it returns false'. Refute it at one input. -/
def fnViewsByCodeWrong : ChangeSpec := { name := "fnViewsByCode", vars := ["loop.example/closurecells/impl.loadCodes"], fn := fun _ => fun
  | [d, g1] => { results := [.lit (.bool false)], args := [d], vars := [g1] }
  | _ => none }
def FnViewsByCodeWrongFalsely : Prop := fnViewsByCodeRow.holds Tryz.pinned (OpenSpec.ofChange fnViewsByCodeWrong)

/-- 'laws.FnDeepestRun': WHATEVER THE INPUT: true; the input reads as it did. -/
def fnDeepestRunSpec : ChangeSpec := { name := "fnDeepestRun", vars := ["loop.example/closurecells/impl.loadCodes"], fn := fun _ => fun
  | [d, g1] => { results := [.lit (.bool true)], args := [d], vars := [g1] }
  | _ => none }
def fnDeepestRunRow : OpenClaim := { program := "ytdnebaieamppbaagreatdoor", sum := "0c3884b01c828555aee59a3d7adf52903fbaea06051e3004e28223b2fcbbb96b", func := "loop.example/closurecells/laws.FnDeepestRun", spec := "fnDeepestRun", inPlace := ["maps.clone"], unfollowed := true, recurses := true, named := ["loop.example/closurecells/impl.loadCodes"], apart := false, laid := [("loop.example/closurecells/impl.loadCodes", laid_loop_example_closurecells_impl_loadCodes)] }
def FnDeepestRunSaid : Prop := fnDeepestRunRow.holds Tryz.pinned (OpenSpec.ofChange fnDeepestRunSpec)

/-- ITS FALSE NEIGHBOUR: 'it returns false'. Refute it at one input. -/
def fnDeepestRunWrong : ChangeSpec := { name := "fnDeepestRun", vars := ["loop.example/closurecells/impl.loadCodes"], fn := fun _ => fun
  | [d, g1] => { results := [.lit (.bool false)], args := [d], vars := [g1] }
  | _ => none }
def FnDeepestRunWrongFalsely : Prop := fnDeepestRunRow.holds Tryz.pinned (OpenSpec.ofChange fnDeepestRunWrong)

/-- 'laws.FnRenameIn': WHATEVER THE INPUT: true; the input reads as it did. -/
def fnRenameInSpec : ChangeSpec := { name := "fnRenameIn", vars := ["loop.example/closurecells/impl.loadCodes"], fn := fun _ => fun
  | [d, g1] => { results := [.lit (.bool true)], args := [d], vars := [g1] }
  | _ => none }
def fnRenameInRow : OpenClaim := { program := "ytdnebaieamppbaagreatdoor", sum := "0c3884b01c828555aee59a3d7adf52903fbaea06051e3004e28223b2fcbbb96b", func := "loop.example/closurecells/laws.FnRenameIn", spec := "fnRenameIn", inPlace := ["maps.clone"], unfollowed := true, recurses := true, named := ["loop.example/closurecells/impl.loadCodes"], apart := false, laid := [("loop.example/closurecells/impl.loadCodes", laid_loop_example_closurecells_impl_loadCodes)] }
def FnRenameInSaid : Prop := fnRenameInRow.holds Tryz.pinned (OpenSpec.ofChange fnRenameInSpec)

/-- ITS FALSE NEIGHBOUR: 'it returns false'. Refute it at one input. -/
def fnRenameInWrong : ChangeSpec := { name := "fnRenameIn", vars := ["loop.example/closurecells/impl.loadCodes"], fn := fun _ => fun
  | [d, g1] => { results := [.lit (.bool false)], args := [d], vars := [g1] }
  | _ => none }
def FnRenameInWrongFalsely : Prop := fnRenameInRow.holds Tryz.pinned (OpenSpec.ofChange fnRenameInWrong)

/- THE SECOND FORM. 'bulk': how many values and letters a reading holds, each counted each time it is reached (what is shared counts as often as it is met; a slice's spare places count too). A statement '..UptoSaid' is the law's where the arguments, and the package variables that the reading takes, are together of bulk at most 1048576: NARROWER than '..Said'. Prove '..Said' where nothing that the law and all that it calls make is longer than what came in: it says more and counts as full. Else prove '..UptoSaid'. A law counts once. -/
mutual
def uptoBulk {H : Type} : DataW H → Nat
  | .lit (.string bytes) => bytes.length + 1
  | .lit _ => 1
  | .nil => 1
  | .ptr d => uptoBulk d + 1
  | .slice elems spare => uptoBulkAll elems + uptoBulkAll spare + 1
  | .agg parts => uptoBulkAll parts + 1
  | .iface _ d => uptoBulk d + 1
  | .map entries => uptoBulkEntries entries + 1
  | .held _ => 1
def uptoBulkAll {H : Type} : List (DataW H) → Nat
  | [] => 0
  | d :: r => uptoBulk d + uptoBulkAll r
def uptoBulkEntries {H : Type} : List (Lit × DataW H) → Nat
  | [] => 0
  | x :: r => uptoBulkEntry x + uptoBulkEntries r
def uptoBulkEntry {H : Type} : Lit × DataW H → Nat
  | (.string bytes, d) => bytes.length + uptoBulk d + 1
  | (_, d) => uptoBulk d + 1
 end
def uptoSmall : (H : Type) → List (DataW H) → Bool := fun _ ds => decide (uptoBulkAll ds ≤ 1048576)
def OpenSpec.upto (s : _root_.Go.ChangeSpec) : _root_.Go.OpenSpec := { _root_.Go.OpenSpec.ofChange s with cond := some uptoSmall }

/-- 'laws.FnTraceByCode', WHERE WHAT IT READS IS OF BULK AT MOST 1048576: true; the input reads as it did. -/
def fnTraceByCodeUptoRow : OpenClaim := { program := "ytdnebaieamppbaagreatdoor", sum := "0c3884b01c828555aee59a3d7adf52903fbaea06051e3004e28223b2fcbbb96b", func := "loop.example/closurecells/laws.FnTraceByCode", spec := "fnTraceByCode", inPlace := ["maps.clone"], unfollowed := true, recurses := true, named := ["loop.example/closurecells/impl.loadCodes"], apart := false, laid := [("loop.example/closurecells/impl.loadCodes", laid_loop_example_closurecells_impl_loadCodes)], narrowed := true }
def FnTraceByCodeUptoSaid : Prop := fnTraceByCodeUptoRow.holds Tryz.pinned (OpenSpec.upto fnTraceByCodeSpec)

/-- 'laws.FnRunCode', WHERE WHAT IT READS IS OF BULK AT MOST 1048576: true; the input reads as it did. -/
def fnRunCodeUptoRow : OpenClaim := { program := "ytdnebaieamppbaagreatdoor", sum := "0c3884b01c828555aee59a3d7adf52903fbaea06051e3004e28223b2fcbbb96b", func := "loop.example/closurecells/laws.FnRunCode", spec := "fnRunCode", inPlace := ["maps.clone"], unfollowed := true, recurses := true, named := ["loop.example/closurecells/impl.loadCodes"], apart := false, laid := [("loop.example/closurecells/impl.loadCodes", laid_loop_example_closurecells_impl_loadCodes)], narrowed := true }
def FnRunCodeUptoSaid : Prop := fnRunCodeUptoRow.holds Tryz.pinned (OpenSpec.upto fnRunCodeSpec)

/-- 'laws.FnExactViewsByCode', WHERE WHAT IT READS IS OF BULK AT MOST 1048576: true; the input reads as it did. -/
def fnExactViewsByCodeUptoRow : OpenClaim := { program := "ytdnebaieamppbaagreatdoor", sum := "0c3884b01c828555aee59a3d7adf52903fbaea06051e3004e28223b2fcbbb96b", func := "loop.example/closurecells/laws.FnExactViewsByCode", spec := "fnExactViewsByCode", unfollowed := true, recurses := true, named := ["loop.example/closurecells/impl.loadCodes"], apart := false, laid := [("loop.example/closurecells/impl.loadCodes", laid_loop_example_closurecells_impl_loadCodes)], narrowed := true }
def FnExactViewsByCodeUptoSaid : Prop := fnExactViewsByCodeUptoRow.holds Tryz.pinned (OpenSpec.upto fnExactViewsByCodeSpec)

/-- 'laws.FnViewsByCode', WHERE WHAT IT READS IS OF BULK AT MOST 1048576: true; the input reads as it did. -/
def fnViewsByCodeUptoRow : OpenClaim := { program := "ytdnebaieamppbaagreatdoor", sum := "0c3884b01c828555aee59a3d7adf52903fbaea06051e3004e28223b2fcbbb96b", func := "loop.example/closurecells/laws.FnViewsByCode", spec := "fnViewsByCode", inPlace := ["maps.clone"], unfollowed := true, recurses := true, named := ["loop.example/closurecells/impl.loadCodes"], apart := false, laid := [("loop.example/closurecells/impl.loadCodes", laid_loop_example_closurecells_impl_loadCodes)], narrowed := true }
def FnViewsByCodeUptoSaid : Prop := fnViewsByCodeUptoRow.holds Tryz.pinned (OpenSpec.upto fnViewsByCodeSpec)

/-- 'laws.FnDeepestRun', WHERE WHAT IT READS IS OF BULK AT MOST 1048576: true; the input reads as it did. -/
def fnDeepestRunUptoRow : OpenClaim := { program := "ytdnebaieamppbaagreatdoor", sum := "0c3884b01c828555aee59a3d7adf52903fbaea06051e3004e28223b2fcbbb96b", func := "loop.example/closurecells/laws.FnDeepestRun", spec := "fnDeepestRun", inPlace := ["maps.clone"], unfollowed := true, recurses := true, named := ["loop.example/closurecells/impl.loadCodes"], apart := false, laid := [("loop.example/closurecells/impl.loadCodes", laid_loop_example_closurecells_impl_loadCodes)], narrowed := true }
def FnDeepestRunUptoSaid : Prop := fnDeepestRunUptoRow.holds Tryz.pinned (OpenSpec.upto fnDeepestRunSpec)

/-- 'laws.FnRenameIn', WHERE WHAT IT READS IS OF BULK AT MOST 1048576: true; the input reads as it did. -/
def fnRenameInUptoRow : OpenClaim := { program := "ytdnebaieamppbaagreatdoor", sum := "0c3884b01c828555aee59a3d7adf52903fbaea06051e3004e28223b2fcbbb96b", func := "loop.example/closurecells/laws.FnRenameIn", spec := "fnRenameIn", inPlace := ["maps.clone"], unfollowed := true, recurses := true, named := ["loop.example/closurecells/impl.loadCodes"], apart := false, laid := [("loop.example/closurecells/impl.loadCodes", laid_loop_example_closurecells_impl_loadCodes)], narrowed := true }
def FnRenameInUptoSaid : Prop := fnRenameInUptoRow.holds Tryz.pinned (OpenSpec.upto fnRenameInSpec)

end Rows
end Go.Proofs.YtdnebaieamppbaaGreatDoor
