/-
  NARROWER THAN 'FOR EVERY INPUT', by the rows' own cells (each row's printed sentence says how): FnExactCompileBlock: laid · FnExactCompileAll: laid.
  DERIVED. THE GIVEN ROWS OF THIS SEAT. 2 by the template 'for every input the law returns true; each argument reads behind the call as it read before'; 0 by the template 'total and deterministic' (their statements: YtnnpbiamlalnmaaGreatDoorTotals.lean).
  GIVEN WITH THE SEED: the statements are not yours to turn. If you find one false, say at which input.
  Laid BY PROGRAM, IN A SANDBOX (cutbox-rows.mjs): the forced cells as the released guide's own fill.sh prints them over the translation 515ce8396f2da832… (all of the seat's roots in one cut). By AI agents, Wed Nov 11 2026. No macro, syntax, notation, axiom, sorry.
-/
import Derived.Test.YtnnpbiamlalnmaaGreatDoorChecked
import GoSem.Claim
import GoSem.ClaimJoined
import GoSem.ClaimMapViews
import Derived.JoinedTies
import Derived.KernelRfl
namespace Go.Proofs.YtnnpbiamlalnmaaGreatDoor
/- THE CELL 'sum', in the pinned program and in every row, IS THE sha256 OF THE DUMP (.gsa) THAT YtnnpbiamlalnmaaGreatDoorProg.lean LOADS. Nothing in Lean hashes anything: it is a label: what it is worth is what the hold of that sum in a sandbox is worth. -/
noncomputable def Tryz.pinned : Pinned := { name := "ytnnpbiamlalnmaagreatdoor", sum := "515ce8396f2da832769084504a4a9d1837c9e310f9c31fd1e498c62ff682b3a3", checked := Tryz.checked }
namespace Rows
def none {H : Type} : Left H := { results := [], args := [] }

/- WHAT THE LISTED PACKAGE-LEVEL VARIABLES READ AS WHEN THE CALL BEGINS. Each datum BY PROGRAM (the guide's laid-datum.mjs) off the statement by which the dump's own 'gosem.cut.vars' lays the variable. In a bare row this is a premise. The card (YtnnpbiamlalnmaaGreatDoorCards.lean) ties it to the program's text. -/
def laid_loop_example_closurecells_impl_loadCodes {H : Type} : DataW H := .agg [.lit (.int .i64 8), .lit (.int .i64 5), .lit (.int .i64 11), .lit (.int .i64 5), .lit (.int .i64 2)]

/-- 'laws.FnExactCompileBlock': WHATEVER THE INPUT: true; the input reads as it did. -/
def fnExactCompileBlockSpec : ChangeSpec := { name := "fnExactCompileBlock", vars := ["loop.example/closurecells/impl.loadCodes"], fn := fun _ => fun
  | [d1, d2, g1] => { results := [.lit (.bool true)], args := [d1, d2], vars := [g1] }
  | _ => none }
def fnExactCompileBlockRow : OpenClaim := { program := "ytnnpbiamlalnmaagreatdoor", sum := "515ce8396f2da832769084504a4a9d1837c9e310f9c31fd1e498c62ff682b3a3", func := "loop.example/closurecells/laws.FnExactCompileBlock", spec := "fnExactCompileBlock", unfollowed := true, recurses := true, named := ["loop.example/closurecells/impl.loadCodes"], apart := false, laid := [("loop.example/closurecells/impl.loadCodes", laid_loop_example_closurecells_impl_loadCodes)] }
def FnExactCompileBlockSaid : Prop := fnExactCompileBlockRow.holds Tryz.pinned (OpenSpec.ofChange fnExactCompileBlockSpec)

/-- ITS FALSE NEIGHBOUR: 'it returns false'. Refute it at one input. -/
def fnExactCompileBlockWrong : ChangeSpec := { name := "fnExactCompileBlock", vars := ["loop.example/closurecells/impl.loadCodes"], fn := fun _ => fun
  | [d1, d2, g1] => { results := [.lit (.bool false)], args := [d1, d2], vars := [g1] }
  | _ => none }
def FnExactCompileBlockWrongFalsely : Prop := fnExactCompileBlockRow.holds Tryz.pinned (OpenSpec.ofChange fnExactCompileBlockWrong)

/-- 'laws.FnExactCompileAll': WHATEVER THE INPUT: true; the input reads as it did. -/
def fnExactCompileAllSpec : ChangeSpec := { name := "fnExactCompileAll", vars := ["loop.example/closurecells/impl.loadCodes"], fn := fun _ => fun
  | [d, g1] => { results := [.lit (.bool true)], args := [d], vars := [g1] }
  | _ => none }
def fnExactCompileAllRow : OpenClaim := { program := "ytnnpbiamlalnmaagreatdoor", sum := "515ce8396f2da832769084504a4a9d1837c9e310f9c31fd1e498c62ff682b3a3", func := "loop.example/closurecells/laws.FnExactCompileAll", spec := "fnExactCompileAll", unfollowed := true, recurses := true, named := ["loop.example/closurecells/impl.loadCodes"], apart := false, laid := [("loop.example/closurecells/impl.loadCodes", laid_loop_example_closurecells_impl_loadCodes)] }
def FnExactCompileAllSaid : Prop := fnExactCompileAllRow.holds Tryz.pinned (OpenSpec.ofChange fnExactCompileAllSpec)

/-- ITS FALSE NEIGHBOUR: 'it returns false'. Refute it at one input. -/
def fnExactCompileAllWrong : ChangeSpec := { name := "fnExactCompileAll", vars := ["loop.example/closurecells/impl.loadCodes"], fn := fun _ => fun
  | [d, g1] => { results := [.lit (.bool false)], args := [d], vars := [g1] }
  | _ => none }
def FnExactCompileAllWrongFalsely : Prop := fnExactCompileAllRow.holds Tryz.pinned (OpenSpec.ofChange fnExactCompileAllWrong)

/- THE SECOND FORM. 'bulk': how many values and letters a reading holds, each counted each time it is reached (what is shared counts as often as it is met; a slice's spare places count too). A statement '..UptoSaid' is the law's where the arguments, and the package variables that the reading takes, are together of bulk at most 1048576: NARROWER than '..Said'. Prove '..Said' where nothing that the law and all that it calls make is longer than what came in: it says more and counts as full. Else prove '..UptoSaid'. A law counts once. -/
mutual
def uptoBulk {H : Type} : DataW H → Nat
  | .lit (.string bytes) => bytes.length + 1
  | .lit _ => 1
  | .nil => 1
  | .ptr d => uptoBulk d + 1
  | .slice elems spare => uptoBulkAll elems + uptoBulkAll spare + 1
  | .agg parts => uptoBulkAll parts + 1
  | .iface _ d => uptoBulk d + 1
  | .map entries => uptoBulkEntries entries + 1
  | .held _ => 1
def uptoBulkAll {H : Type} : List (DataW H) → Nat
  | [] => 0
  | d :: r => uptoBulk d + uptoBulkAll r
def uptoBulkEntries {H : Type} : List (Lit × DataW H) → Nat
  | [] => 0
  | x :: r => uptoBulkEntry x + uptoBulkEntries r
def uptoBulkEntry {H : Type} : Lit × DataW H → Nat
  | (.string bytes, d) => bytes.length + uptoBulk d + 1
  | (_, d) => uptoBulk d + 1
 end
def uptoSmall : (H : Type) → List (DataW H) → Bool := fun _ ds => decide (uptoBulkAll ds ≤ 1048576)
def OpenSpec.upto (s : _root_.Go.ChangeSpec) : _root_.Go.OpenSpec := { _root_.Go.OpenSpec.ofChange s with cond := some uptoSmall }

/-- 'laws.FnExactCompileBlock', WHERE WHAT IT READS IS OF BULK AT MOST 1048576: true; the input reads as it did. -/
def fnExactCompileBlockUptoRow : OpenClaim := { program := "ytnnpbiamlalnmaagreatdoor", sum := "515ce8396f2da832769084504a4a9d1837c9e310f9c31fd1e498c62ff682b3a3", func := "loop.example/closurecells/laws.FnExactCompileBlock", spec := "fnExactCompileBlock", unfollowed := true, recurses := true, named := ["loop.example/closurecells/impl.loadCodes"], apart := false, laid := [("loop.example/closurecells/impl.loadCodes", laid_loop_example_closurecells_impl_loadCodes)], narrowed := true }
def FnExactCompileBlockUptoSaid : Prop := fnExactCompileBlockUptoRow.holds Tryz.pinned (OpenSpec.upto fnExactCompileBlockSpec)

/-- 'laws.FnExactCompileAll', WHERE WHAT IT READS IS OF BULK AT MOST 1048576: true; the input reads as it did. -/
def fnExactCompileAllUptoRow : OpenClaim := { program := "ytnnpbiamlalnmaagreatdoor", sum := "515ce8396f2da832769084504a4a9d1837c9e310f9c31fd1e498c62ff682b3a3", func := "loop.example/closurecells/laws.FnExactCompileAll", spec := "fnExactCompileAll", unfollowed := true, recurses := true, named := ["loop.example/closurecells/impl.loadCodes"], apart := false, laid := [("loop.example/closurecells/impl.loadCodes", laid_loop_example_closurecells_impl_loadCodes)], narrowed := true }
def FnExactCompileAllUptoSaid : Prop := fnExactCompileAllUptoRow.holds Tryz.pinned (OpenSpec.upto fnExactCompileAllSpec)

end Rows
end Go.Proofs.YtnnpbiamlalnmaaGreatDoor
