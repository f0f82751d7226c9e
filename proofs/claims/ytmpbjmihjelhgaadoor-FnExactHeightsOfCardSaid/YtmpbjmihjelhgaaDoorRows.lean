/-
  NARROWER THAN 'FOR EVERY INPUT', by the rows' own cells (each row's printed sentence says how): FnDropOp: laid · FnStoreOp: laid · FnLoadOp: laid · FnExactLineOf: laid · FnLineOf: laid · FnCompileBlock: laid · FnHeightsOf: laid · FnCompileAll: laid · FnExactHeightsOf: laid.
  DERIVED. THE GIVEN ROWS OF THIS SEAT. 9 by the template 'for every input the law returns true; each argument reads behind the call as it read before'; 0 by the template 'total and deterministic' (their statements: YtmpbjmihjelhgaaDoorTotals.lean).
  GIVEN WITH THE SEED: the statements are not yours to turn. If you find one false, say at which input.
  Laid BY PROGRAM, IN A SANDBOX (cutbox-rows.mjs): the forced cells as the released guide's own fill.sh prints them over the translation ec62f68148bf5868… (all of the seat's roots in one cut). By AI agents, Wed Nov 11 2026. No macro, syntax, notation, axiom, sorry.
-/
import Derived.Test.YtmpbjmihjelhgaaDoorChecked
import GoSem.Claim
import GoSem.ClaimJoined
import GoSem.ClaimMapViews
import Derived.JoinedTies
import Derived.KernelRfl
namespace Go.Proofs.YtmpbjmihjelhgaaDoor
/- THE CELL 'sum', in the pinned program and in every row, IS THE sha256 OF THE DUMP (.gsa) THAT YtmpbjmihjelhgaaDoorProg.lean LOADS. Nothing in Lean hashes anything: it is a label: what it is worth is what the hold of that sum in a sandbox is worth. -/
noncomputable def Tryd.pinned : Pinned := { name := "ytmpbjmihjelhgaadoor", sum := "ec62f68148bf586876cb2b769e663bea1a8fd6ea29685bb11dc457b430525f13", checked := Tryd.checked }
namespace Rows
def none {H : Type} : Left H := { results := [], args := [] }

/- WHAT THE LISTED PACKAGE-LEVEL VARIABLES READ AS WHEN THE CALL BEGINS. Each datum BY PROGRAM (the guide's laid-datum.mjs) off the statement by which the dump's own 'gosem.cut.vars' lays the variable. In a bare row this is a premise. The card (YtmpbjmihjelhgaaDoorCards.lean) ties it to the program's text. -/
def laid_loop_example_closurecells_impl_loadCodes {H : Type} : DataW H := .agg [.lit (.int .i64 8), .lit (.int .i64 5), .lit (.int .i64 11), .lit (.int .i64 5), .lit (.int .i64 2)]
def laid_loop_example_closurecells_impl_effects {H : Type} : DataW H := .agg [.lit (.int .i64 0), .lit (.int .i64 1), .lit (.int .i64 1), .lit (.int .i64 (-1)), .lit (.int .i64 0), .lit (.int .i64 1), .lit (.int .i64 (-1)), .lit (.int .i64 0), .lit (.int .i64 1), .lit (.int .i64 (-1)), .lit (.int .i64 0), .lit (.int .i64 1), .lit (.int .i64 (-1)), .lit (.int .i64 0), .lit (.int .i64 (-1)), .lit (.int .i64 1), .lit (.int .i64 1), .lit (.int .i64 0), .lit (.int .i64 0), .lit (.int .i64 (-1)), .lit (.int .i64 (-1))]

/-- 'laws.FnDropOp': WHATEVER THE INPUT: true; the input reads as it did. -/
def fnDropOpSpec : ChangeSpec := { name := "fnDropOp", vars := ["loop.example/closurecells/impl.loadCodes"], fn := fun _ => fun
  | [d, g1] => { results := [.lit (.bool true)], args := [d], vars := [g1] }
  | _ => none }
def fnDropOpRow : OpenClaim := { program := "ytmpbjmihjelhgaadoor", sum := "ec62f68148bf586876cb2b769e663bea1a8fd6ea29685bb11dc457b430525f13", func := "loop.example/closurecells/laws.FnDropOp", spec := "fnDropOp", unfollowed := true, recurses := true, named := ["loop.example/closurecells/impl.loadCodes"], apart := false, laid := [("loop.example/closurecells/impl.loadCodes", laid_loop_example_closurecells_impl_loadCodes)] }
def FnDropOpSaid : Prop := fnDropOpRow.holds Tryd.pinned (OpenSpec.ofChange fnDropOpSpec)

/-- ITS FALSE NEIGHBOUR: 'it returns false'. Refute it at one input. -/
def fnDropOpWrong : ChangeSpec := { name := "fnDropOp", vars := ["loop.example/closurecells/impl.loadCodes"], fn := fun _ => fun
  | [d, g1] => { results := [.lit (.bool false)], args := [d], vars := [g1] }
  | _ => none }
def FnDropOpWrongFalsely : Prop := fnDropOpRow.holds Tryd.pinned (OpenSpec.ofChange fnDropOpWrong)

/-- 'laws.FnStoreOp': WHATEVER THE INPUT: true; the input reads as it did. -/
def fnStoreOpSpec : ChangeSpec := { name := "fnStoreOp", vars := ["loop.example/closurecells/impl.loadCodes"], fn := fun _ => fun
  | [d, g1] => { results := [.lit (.bool true)], args := [d], vars := [g1] }
  | _ => none }
def fnStoreOpRow : OpenClaim := { program := "ytmpbjmihjelhgaadoor", sum := "ec62f68148bf586876cb2b769e663bea1a8fd6ea29685bb11dc457b430525f13", func := "loop.example/closurecells/laws.FnStoreOp", spec := "fnStoreOp", unfollowed := true, recurses := true, named := ["loop.example/closurecells/impl.loadCodes"], apart := false, laid := [("loop.example/closurecells/impl.loadCodes", laid_loop_example_closurecells_impl_loadCodes)] }
def FnStoreOpSaid : Prop := fnStoreOpRow.holds Tryd.pinned (OpenSpec.ofChange fnStoreOpSpec)

/-- ITS FALSE NEIGHBOUR: 'it returns false'. Refute it at one input. -/
def fnStoreOpWrong : ChangeSpec := { name := "fnStoreOp", vars := ["loop.example/closurecells/impl.loadCodes"], fn := fun _ => fun
  | [d, g1] => { results := [.lit (.bool false)], args := [d], vars := [g1] }
  | _ => none }
def FnStoreOpWrongFalsely : Prop := fnStoreOpRow.holds Tryd.pinned (OpenSpec.ofChange fnStoreOpWrong)

/-- 'laws.FnLoadOp': WHATEVER THE INPUT: true; the input reads as it did. -/
def fnLoadOpSpec : ChangeSpec := { name := "fnLoadOp", vars := ["loop.example/closurecells/impl.loadCodes"], fn := fun _ => fun
  | [d, g1] => { results := [.lit (.bool true)], args := [d], vars := [g1] }
  | _ => none }
def fnLoadOpRow : OpenClaim := { program := "ytmpbjmihjelhgaadoor", sum := "ec62f68148bf586876cb2b769e663bea1a8fd6ea29685bb11dc457b430525f13", func := "loop.example/closurecells/laws.FnLoadOp", spec := "fnLoadOp", unfollowed := true, recurses := true, named := ["loop.example/closurecells/impl.loadCodes"], apart := false, laid := [("loop.example/closurecells/impl.loadCodes", laid_loop_example_closurecells_impl_loadCodes)] }
def FnLoadOpSaid : Prop := fnLoadOpRow.holds Tryd.pinned (OpenSpec.ofChange fnLoadOpSpec)

/-- ITS FALSE NEIGHBOUR: 'it returns false'. Refute it at one input. -/
def fnLoadOpWrong : ChangeSpec := { name := "fnLoadOp", vars := ["loop.example/closurecells/impl.loadCodes"], fn := fun _ => fun
  | [d, g1] => { results := [.lit (.bool false)], args := [d], vars := [g1] }
  | _ => none }
def FnLoadOpWrongFalsely : Prop := fnLoadOpRow.holds Tryd.pinned (OpenSpec.ofChange fnLoadOpWrong)

/-- 'laws.FnExactLineOf': WHATEVER THE INPUT: true; the input reads as it did. -/
def fnExactLineOfSpec : ChangeSpec := { name := "fnExactLineOf", vars := ["loop.example/closurecells/impl.loadCodes"], fn := fun _ => fun
  | [d1, d2, d3, g1] => { results := [.lit (.bool true)], args := [d1, d2, d3], vars := [g1] }
  | _ => none }
def fnExactLineOfRow : OpenClaim := { program := "ytmpbjmihjelhgaadoor", sum := "ec62f68148bf586876cb2b769e663bea1a8fd6ea29685bb11dc457b430525f13", func := "loop.example/closurecells/laws.FnExactLineOf", spec := "fnExactLineOf", unfollowed := true, recurses := true, named := ["loop.example/closurecells/impl.loadCodes"], apart := false, laid := [("loop.example/closurecells/impl.loadCodes", laid_loop_example_closurecells_impl_loadCodes)] }
def FnExactLineOfSaid : Prop := fnExactLineOfRow.holds Tryd.pinned (OpenSpec.ofChange fnExactLineOfSpec)

/-- ITS FALSE NEIGHBOUR: 'it returns false'. Refute it at one input. -/
def fnExactLineOfWrong : ChangeSpec := { name := "fnExactLineOf", vars := ["loop.example/closurecells/impl.loadCodes"], fn := fun _ => fun
  | [d1, d2, d3, g1] => { results := [.lit (.bool false)], args := [d1, d2, d3], vars := [g1] }
  | _ => none }
def FnExactLineOfWrongFalsely : Prop := fnExactLineOfRow.holds Tryd.pinned (OpenSpec.ofChange fnExactLineOfWrong)

/-- 'laws.FnLineOf': WHATEVER THE INPUT: true; the input reads as it did. -/
def fnLineOfSpec : ChangeSpec := { name := "fnLineOf", vars := ["loop.example/closurecells/impl.loadCodes"], fn := fun _ => fun
  | [d, g1] => { results := [.lit (.bool true)], args := [d], vars := [g1] }
  | _ => none }
def fnLineOfRow : OpenClaim := { program := "ytmpbjmihjelhgaadoor", sum := "ec62f68148bf586876cb2b769e663bea1a8fd6ea29685bb11dc457b430525f13", func := "loop.example/closurecells/laws.FnLineOf", spec := "fnLineOf", unfollowed := true, recurses := true, named := ["loop.example/closurecells/impl.loadCodes"], apart := false, laid := [("loop.example/closurecells/impl.loadCodes", laid_loop_example_closurecells_impl_loadCodes)] }
def FnLineOfSaid : Prop := fnLineOfRow.holds Tryd.pinned (OpenSpec.ofChange fnLineOfSpec)

/-- ITS FALSE NEIGHBOUR: 'it returns false'. Refute it at one input. -/
def fnLineOfWrong : ChangeSpec := { name := "fnLineOf", vars := ["loop.example/closurecells/impl.loadCodes"], fn := fun _ => fun
  | [d, g1] => { results := [.lit (.bool false)], args := [d], vars := [g1] }
  | _ => none }
def FnLineOfWrongFalsely : Prop := fnLineOfRow.holds Tryd.pinned (OpenSpec.ofChange fnLineOfWrong)

/-- 'laws.FnCompileBlock': WHATEVER THE INPUT: true; the input reads as it did. -/
def fnCompileBlockSpec : ChangeSpec := { name := "fnCompileBlock", vars := ["loop.example/closurecells/impl.loadCodes"], fn := fun _ => fun
  | [d, g1] => { results := [.lit (.bool true)], args := [d], vars := [g1] }
  | _ => none }
def fnCompileBlockRow : OpenClaim := { program := "ytmpbjmihjelhgaadoor", sum := "ec62f68148bf586876cb2b769e663bea1a8fd6ea29685bb11dc457b430525f13", func := "loop.example/closurecells/laws.FnCompileBlock", spec := "fnCompileBlock", unfollowed := true, recurses := true, named := ["loop.example/closurecells/impl.loadCodes"], apart := false, laid := [("loop.example/closurecells/impl.loadCodes", laid_loop_example_closurecells_impl_loadCodes)] }
def FnCompileBlockSaid : Prop := fnCompileBlockRow.holds Tryd.pinned (OpenSpec.ofChange fnCompileBlockSpec)

/-- ITS FALSE NEIGHBOUR: 'it returns false'. Refute it at one input. -/
def fnCompileBlockWrong : ChangeSpec := { name := "fnCompileBlock", vars := ["loop.example/closurecells/impl.loadCodes"], fn := fun _ => fun
  | [d, g1] => { results := [.lit (.bool false)], args := [d], vars := [g1] }
  | _ => none }
def FnCompileBlockWrongFalsely : Prop := fnCompileBlockRow.holds Tryd.pinned (OpenSpec.ofChange fnCompileBlockWrong)

/-- 'laws.FnHeightsOf': WHATEVER THE INPUT: true; the input reads as it did. -/
def fnHeightsOfSpec : ChangeSpec := { name := "fnHeightsOf", vars := ["loop.example/closurecells/impl.loadCodes", "loop.example/closurecells/impl.effects"], fn := fun _ => fun
  | [d, g1, g2] => { results := [.lit (.bool true)], args := [d], vars := [g1, g2] }
  | _ => none }
def fnHeightsOfRow : OpenClaim := { program := "ytmpbjmihjelhgaadoor", sum := "ec62f68148bf586876cb2b769e663bea1a8fd6ea29685bb11dc457b430525f13", func := "loop.example/closurecells/laws.FnHeightsOf", spec := "fnHeightsOf", unfollowed := true, recurses := true, named := ["loop.example/closurecells/impl.loadCodes", "loop.example/closurecells/impl.effects"], apart := false, laid := [("loop.example/closurecells/impl.loadCodes", laid_loop_example_closurecells_impl_loadCodes), ("loop.example/closurecells/impl.effects", laid_loop_example_closurecells_impl_effects)] }
def FnHeightsOfSaid : Prop := fnHeightsOfRow.holds Tryd.pinned (OpenSpec.ofChange fnHeightsOfSpec)

/-- ITS FALSE NEIGHBOUR: 'it returns false'. Refute it at one input. -/
def fnHeightsOfWrong : ChangeSpec := { name := "fnHeightsOf", vars := ["loop.example/closurecells/impl.loadCodes", "loop.example/closurecells/impl.effects"], fn := fun _ => fun
  | [d, g1, g2] => { results := [.lit (.bool false)], args := [d], vars := [g1, g2] }
  | _ => none }
def FnHeightsOfWrongFalsely : Prop := fnHeightsOfRow.holds Tryd.pinned (OpenSpec.ofChange fnHeightsOfWrong)

/-- 'laws.FnCompileAll': WHATEVER THE INPUT: true; the input reads as it did. -/
def fnCompileAllSpec : ChangeSpec := { name := "fnCompileAll", vars := ["loop.example/closurecells/impl.loadCodes"], fn := fun _ => fun
  | [d, g1] => { results := [.lit (.bool true)], args := [d], vars := [g1] }
  | _ => none }
def fnCompileAllRow : OpenClaim := { program := "ytmpbjmihjelhgaadoor", sum := "ec62f68148bf586876cb2b769e663bea1a8fd6ea29685bb11dc457b430525f13", func := "loop.example/closurecells/laws.FnCompileAll", spec := "fnCompileAll", unfollowed := true, recurses := true, named := ["loop.example/closurecells/impl.loadCodes"], apart := false, laid := [("loop.example/closurecells/impl.loadCodes", laid_loop_example_closurecells_impl_loadCodes)] }
def FnCompileAllSaid : Prop := fnCompileAllRow.holds Tryd.pinned (OpenSpec.ofChange fnCompileAllSpec)

/-- ITS FALSE NEIGHBOUR: 'it returns false'. Refute it at one input. -/
def fnCompileAllWrong : ChangeSpec := { name := "fnCompileAll", vars := ["loop.example/closurecells/impl.loadCodes"], fn := fun _ => fun
  | [d, g1] => { results := [.lit (.bool false)], args := [d], vars := [g1] }
  | _ => none }
def FnCompileAllWrongFalsely : Prop := fnCompileAllRow.holds Tryd.pinned (OpenSpec.ofChange fnCompileAllWrong)

/-- 'laws.FnExactHeightsOf': WHATEVER THE INPUT: true; the input reads as it did. -/
def fnExactHeightsOfSpec : ChangeSpec := { name := "fnExactHeightsOf", vars := ["loop.example/closurecells/impl.loadCodes", "loop.example/closurecells/impl.effects"], fn := fun _ => fun
  | [d1, d2, g1, g2] => { results := [.lit (.bool true)], args := [d1, d2], vars := [g1, g2] }
  | _ => none }
def fnExactHeightsOfRow : OpenClaim := { program := "ytmpbjmihjelhgaadoor", sum := "ec62f68148bf586876cb2b769e663bea1a8fd6ea29685bb11dc457b430525f13", func := "loop.example/closurecells/laws.FnExactHeightsOf", spec := "fnExactHeightsOf", unfollowed := true, recurses := true, named := ["loop.example/closurecells/impl.loadCodes", "loop.example/closurecells/impl.effects"], apart := false, laid := [("loop.example/closurecells/impl.loadCodes", laid_loop_example_closurecells_impl_loadCodes), ("loop.example/closurecells/impl.effects", laid_loop_example_closurecells_impl_effects)] }
def FnExactHeightsOfSaid : Prop := fnExactHeightsOfRow.holds Tryd.pinned (OpenSpec.ofChange fnExactHeightsOfSpec)

/-- ITS FALSE NEIGHBOUR: 'it returns false'. Refute it at one input. -/
def fnExactHeightsOfWrong : ChangeSpec := { name := "fnExactHeightsOf", vars := ["loop.example/closurecells/impl.loadCodes", "loop.example/closurecells/impl.effects"], fn := fun _ => fun
  | [d1, d2, g1, g2] => { results := [.lit (.bool false)], args := [d1, d2], vars := [g1, g2] }
  | _ => none }
def FnExactHeightsOfWrongFalsely : Prop := fnExactHeightsOfRow.holds Tryd.pinned (OpenSpec.ofChange fnExactHeightsOfWrong)

/- THE SECOND FORM. 'bulk': how many values and letters a reading holds, each counted each time it is reached (what is shared counts as often as it is met; a slice's spare places count too). A statement '..UptoSaid' is the law's where the arguments, and the package variables that the reading takes, are together of bulk at most 1048576: NARROWER than '..Said'. Prove '..Said' where nothing that the law and all that it calls make is longer than what came in: it says more and counts as full. Else prove '..UptoSaid'. A law counts once. -/
mutual
def uptoBulk {H : Type} : DataW H → Nat
  | .lit (.string bytes) => bytes.length + 1
  | .lit _ => 1
  | .nil => 1
  | .ptr d => uptoBulk d + 1
  | .slice elems spare => uptoBulkAll elems + uptoBulkAll spare + 1
  | .agg parts => uptoBulkAll parts + 1
  | .iface _ d => uptoBulk d + 1
  | .map entries => uptoBulkEntries entries + 1
  | .held _ => 1
def uptoBulkAll {H : Type} : List (DataW H) → Nat
  | [] => 0
  | d :: r => uptoBulk d + uptoBulkAll r
def uptoBulkEntries {H : Type} : List (Lit × DataW H) → Nat
  | [] => 0
  | x :: r => uptoBulkEntry x + uptoBulkEntries r
def uptoBulkEntry {H : Type} : Lit × DataW H → Nat
  | (.string bytes, d) => bytes.length + uptoBulk d + 1
  | (_, d) => uptoBulk d + 1
 end
def uptoSmall : (H : Type) → List (DataW H) → Bool := fun _ ds => decide (uptoBulkAll ds ≤ 1048576)
def OpenSpec.upto (s : _root_.Go.ChangeSpec) : _root_.Go.OpenSpec := { _root_.Go.OpenSpec.ofChange s with cond := some uptoSmall }

/-- 'laws.FnDropOp', WHERE WHAT IT READS IS OF BULK AT MOST 1048576: true; the input reads as it did. -/
def fnDropOpUptoRow : OpenClaim := { program := "ytmpbjmihjelhgaadoor", sum := "ec62f68148bf586876cb2b769e663bea1a8fd6ea29685bb11dc457b430525f13", func := "loop.example/closurecells/laws.FnDropOp", spec := "fnDropOp", unfollowed := true, recurses := true, named := ["loop.example/closurecells/impl.loadCodes"], apart := false, laid := [("loop.example/closurecells/impl.loadCodes", laid_loop_example_closurecells_impl_loadCodes)], narrowed := true }
def FnDropOpUptoSaid : Prop := fnDropOpUptoRow.holds Tryd.pinned (OpenSpec.upto fnDropOpSpec)

/-- 'laws.FnStoreOp', WHERE WHAT IT READS IS OF BULK AT MOST 1048576: true; the input reads as it did. -/
def fnStoreOpUptoRow : OpenClaim := { program := "ytmpbjmihjelhgaadoor", sum := "ec62f68148bf586876cb2b769e663bea1a8fd6ea29685bb11dc457b430525f13", func := "loop.example/closurecells/laws.FnStoreOp", spec := "fnStoreOp", unfollowed := true, recurses := true, named := ["loop.example/closurecells/impl.loadCodes"], apart := false, laid := [("loop.example/closurecells/impl.loadCodes", laid_loop_example_closurecells_impl_loadCodes)], narrowed := true }
def FnStoreOpUptoSaid : Prop := fnStoreOpUptoRow.holds Tryd.pinned (OpenSpec.upto fnStoreOpSpec)

/-- 'laws.FnLoadOp', WHERE WHAT IT READS IS OF BULK AT MOST 1048576: true; the input reads as it did. -/
def fnLoadOpUptoRow : OpenClaim := { program := "ytmpbjmihjelhgaadoor", sum := "ec62f68148bf586876cb2b769e663bea1a8fd6ea29685bb11dc457b430525f13", func := "loop.example/closurecells/laws.FnLoadOp", spec := "fnLoadOp", unfollowed := true, recurses := true, named := ["loop.example/closurecells/impl.loadCodes"], apart := false, laid := [("loop.example/closurecells/impl.loadCodes", laid_loop_example_closurecells_impl_loadCodes)], narrowed := true }
def FnLoadOpUptoSaid : Prop := fnLoadOpUptoRow.holds Tryd.pinned (OpenSpec.upto fnLoadOpSpec)

/-- 'laws.FnExactLineOf', WHERE WHAT IT READS IS OF BULK AT MOST 1048576: true; the input reads as it did. -/
def fnExactLineOfUptoRow : OpenClaim := { program := "ytmpbjmihjelhgaadoor", sum := "ec62f68148bf586876cb2b769e663bea1a8fd6ea29685bb11dc457b430525f13", func := "loop.example/closurecells/laws.FnExactLineOf", spec := "fnExactLineOf", unfollowed := true, recurses := true, named := ["loop.example/closurecells/impl.loadCodes"], apart := false, laid := [("loop.example/closurecells/impl.loadCodes", laid_loop_example_closurecells_impl_loadCodes)], narrowed := true }
def FnExactLineOfUptoSaid : Prop := fnExactLineOfUptoRow.holds Tryd.pinned (OpenSpec.upto fnExactLineOfSpec)

/-- 'laws.FnLineOf', WHERE WHAT IT READS IS OF BULK AT MOST 1048576: true; the input reads as it did. -/
def fnLineOfUptoRow : OpenClaim := { program := "ytmpbjmihjelhgaadoor", sum := "ec62f68148bf586876cb2b769e663bea1a8fd6ea29685bb11dc457b430525f13", func := "loop.example/closurecells/laws.FnLineOf", spec := "fnLineOf", unfollowed := true, recurses := true, named := ["loop.example/closurecells/impl.loadCodes"], apart := false, laid := [("loop.example/closurecells/impl.loadCodes", laid_loop_example_closurecells_impl_loadCodes)], narrowed := true }
def FnLineOfUptoSaid : Prop := fnLineOfUptoRow.holds Tryd.pinned (OpenSpec.upto fnLineOfSpec)

/-- 'laws.FnCompileBlock', WHERE WHAT IT READS IS OF BULK AT MOST 1048576: true; the input reads as it did. -/
def fnCompileBlockUptoRow : OpenClaim := { program := "ytmpbjmihjelhgaadoor", sum := "ec62f68148bf586876cb2b769e663bea1a8fd6ea29685bb11dc457b430525f13", func := "loop.example/closurecells/laws.FnCompileBlock", spec := "fnCompileBlock", unfollowed := true, recurses := true, named := ["loop.example/closurecells/impl.loadCodes"], apart := false, laid := [("loop.example/closurecells/impl.loadCodes", laid_loop_example_closurecells_impl_loadCodes)], narrowed := true }
def FnCompileBlockUptoSaid : Prop := fnCompileBlockUptoRow.holds Tryd.pinned (OpenSpec.upto fnCompileBlockSpec)

/-- 'laws.FnHeightsOf', WHERE WHAT IT READS IS OF BULK AT MOST 1048576: true; the input reads as it did. -/
def fnHeightsOfUptoRow : OpenClaim := { program := "ytmpbjmihjelhgaadoor", sum := "ec62f68148bf586876cb2b769e663bea1a8fd6ea29685bb11dc457b430525f13", func := "loop.example/closurecells/laws.FnHeightsOf", spec := "fnHeightsOf", unfollowed := true, recurses := true, named := ["loop.example/closurecells/impl.loadCodes", "loop.example/closurecells/impl.effects"], apart := false, laid := [("loop.example/closurecells/impl.loadCodes", laid_loop_example_closurecells_impl_loadCodes), ("loop.example/closurecells/impl.effects", laid_loop_example_closurecells_impl_effects)], narrowed := true }
def FnHeightsOfUptoSaid : Prop := fnHeightsOfUptoRow.holds Tryd.pinned (OpenSpec.upto fnHeightsOfSpec)

/-- 'laws.FnCompileAll', WHERE WHAT IT READS IS OF BULK AT MOST 1048576: true; the input reads as it did. -/
def fnCompileAllUptoRow : OpenClaim := { program := "ytmpbjmihjelhgaadoor", sum := "ec62f68148bf586876cb2b769e663bea1a8fd6ea29685bb11dc457b430525f13", func := "loop.example/closurecells/laws.FnCompileAll", spec := "fnCompileAll", unfollowed := true, recurses := true, named := ["loop.example/closurecells/impl.loadCodes"], apart := false, laid := [("loop.example/closurecells/impl.loadCodes", laid_loop_example_closurecells_impl_loadCodes)], narrowed := true }
def FnCompileAllUptoSaid : Prop := fnCompileAllUptoRow.holds Tryd.pinned (OpenSpec.upto fnCompileAllSpec)

/-- 'laws.FnExactHeightsOf', WHERE WHAT IT READS IS OF BULK AT MOST 1048576: true; the input reads as it did. -/
def fnExactHeightsOfUptoRow : OpenClaim := { program := "ytmpbjmihjelhgaadoor", sum := "ec62f68148bf586876cb2b769e663bea1a8fd6ea29685bb11dc457b430525f13", func := "loop.example/closurecells/laws.FnExactHeightsOf", spec := "fnExactHeightsOf", unfollowed := true, recurses := true, named := ["loop.example/closurecells/impl.loadCodes", "loop.example/closurecells/impl.effects"], apart := false, laid := [("loop.example/closurecells/impl.loadCodes", laid_loop_example_closurecells_impl_loadCodes), ("loop.example/closurecells/impl.effects", laid_loop_example_closurecells_impl_effects)], narrowed := true }
def FnExactHeightsOfUptoSaid : Prop := fnExactHeightsOfUptoRow.holds Tryd.pinned (OpenSpec.upto fnExactHeightsOfSpec)

end Rows
end Go.Proofs.YtmpbjmihjelhgaaDoor
