/-
  No cell of these rows narrows 'for every input' (looked for: loops, veiled, ifaces, maps, wideKeys, modest, calm, conditions, laid).
  DERIVED. THE GIVEN ROWS OF THIS SEAT. 12 by the template 'for every input the law returns true; each argument reads behind the call as it read before'; 0 by the template 'total and deterministic' (their statements: YtpckgioefpkmoaaGreatTotals.lean).
  GIVEN WITH THE SEED: the statements are not yours to turn. If you find one false, say at which input.
  Laid BY PROGRAM, IN A SANDBOX (cutbox-rows.mjs): the forced cells as the released guide's own fill.sh prints them over the translation de00b2a66f0c5732… (all of the seat's roots in one cut). By AI agents, Wed Nov 11 2026. No macro, syntax, notation, axiom, sorry.
-/
import Derived.Test.YtpckgioefpkmoaaGreatChecked
import GoSem.Claim
import GoSem.ClaimJoined
import GoSem.ClaimMapViews
import Derived.JoinedTies
import Derived.KernelRfl
namespace Go.Proofs.YtpckgioefpkmoaaGreat
/- THE CELL 'sum', in the pinned program and in every row, IS THE sha256 OF THE DUMP (.gsa) THAT YtpckgioefpkmoaaGreatProg.lean LOADS. Nothing in Lean hashes anything: it is a label: what it is worth is what the hold of that sum in a sandbox is worth. -/
noncomputable def Tryz.pinned : Pinned := { name := "ytpckgioefpkmoaagreat", sum := "de00b2a66f0c5732fa2b44ef7046437c277beecf8b8b977411c3653e45b77af9", checked := Tryz.checked }
namespace Rows
def none {H : Type} : Left H := { results := [], args := [] }

/-- 'laws.FnExactStepsOf': WHATEVER THE INPUT: true; the input reads as it did. -/
def fnExactStepsOfSpec : ChangeSpec := { name := "fnExactStepsOf", fn := fun _ => fun
  | [d] => { results := [.lit (.bool true)], args := [d] }
  | _ => none }
def fnExactStepsOfRow : OpenClaim := { program := "ytpckgioefpkmoaagreat", sum := "de00b2a66f0c5732fa2b44ef7046437c277beecf8b8b977411c3653e45b77af9", func := "loop.example/closurecells/laws.FnExactStepsOf", spec := "fnExactStepsOf", inPlace := ["maps.clone"], unfollowed := true, recurses := true, apart := false }
def FnExactStepsOfSaid : Prop := fnExactStepsOfRow.holds Tryz.pinned (OpenSpec.ofChange fnExactStepsOfSpec)

/-- ITS FALSE NEIGHBOUR: 'it returns false'. Refute it at one input. -/
def fnExactStepsOfWrong : ChangeSpec := { name := "fnExactStepsOf", fn := fun _ => fun
  | [d] => { results := [.lit (.bool false)], args := [d] }
  | _ => none }
def FnExactStepsOfWrongFalsely : Prop := fnExactStepsOfRow.holds Tryz.pinned (OpenSpec.ofChange fnExactStepsOfWrong)

/-- 'laws.FnExactMadeBy': WHATEVER THE INPUT: true; the input reads as it did. -/
def fnExactMadeBySpec : ChangeSpec := { name := "fnExactMadeBy", fn := fun _ => fun
  | [d1, d2] => { results := [.lit (.bool true)], args := [d1, d2] }
  | _ => none }
def fnExactMadeByRow : OpenClaim := { program := "ytpckgioefpkmoaagreat", sum := "de00b2a66f0c5732fa2b44ef7046437c277beecf8b8b977411c3653e45b77af9", func := "loop.example/closurecells/laws.FnExactMadeBy", spec := "fnExactMadeBy", inPlace := ["maps.clone"], unfollowed := true, recurses := true, apart := false }
def FnExactMadeBySaid : Prop := fnExactMadeByRow.holds Tryz.pinned (OpenSpec.ofChange fnExactMadeBySpec)

/-- ITS FALSE NEIGHBOUR: 'it returns false'. Refute it at one input. -/
def fnExactMadeByWrong : ChangeSpec := { name := "fnExactMadeBy", fn := fun _ => fun
  | [d1, d2] => { results := [.lit (.bool false)], args := [d1, d2] }
  | _ => none }
def FnExactMadeByWrongFalsely : Prop := fnExactMadeByRow.holds Tryz.pinned (OpenSpec.ofChange fnExactMadeByWrong)

/-- 'laws.FnExactOutAfter': WHATEVER THE INPUT: true; the input reads as it did. -/
def fnExactOutAfterSpec : ChangeSpec := { name := "fnExactOutAfter", fn := fun _ => fun
  | [d1, d2] => { results := [.lit (.bool true)], args := [d1, d2] }
  | _ => none }
def fnExactOutAfterRow : OpenClaim := { program := "ytpckgioefpkmoaagreat", sum := "de00b2a66f0c5732fa2b44ef7046437c277beecf8b8b977411c3653e45b77af9", func := "loop.example/closurecells/laws.FnExactOutAfter", spec := "fnExactOutAfter", inPlace := ["maps.clone"], unfollowed := true, recurses := true, apart := false }
def FnExactOutAfterSaid : Prop := fnExactOutAfterRow.holds Tryz.pinned (OpenSpec.ofChange fnExactOutAfterSpec)

/-- ITS FALSE NEIGHBOUR: 'it returns false'. Refute it at one input. -/
def fnExactOutAfterWrong : ChangeSpec := { name := "fnExactOutAfter", fn := fun _ => fun
  | [d1, d2] => { results := [.lit (.bool false)], args := [d1, d2] }
  | _ => none }
def FnExactOutAfterWrongFalsely : Prop := fnExactOutAfterRow.holds Tryz.pinned (OpenSpec.ofChange fnExactOutAfterWrong)

/-- 'laws.FnExactTraceByMeaning': WHATEVER THE INPUT: true; the input reads as it did. -/
def fnExactTraceByMeaningSpec : ChangeSpec := { name := "fnExactTraceByMeaning", fn := fun _ => fun
  | [d1, d2] => { results := [.lit (.bool true)], args := [d1, d2] }
  | _ => none }
def fnExactTraceByMeaningRow : OpenClaim := { program := "ytpckgioefpkmoaagreat", sum := "de00b2a66f0c5732fa2b44ef7046437c277beecf8b8b977411c3653e45b77af9", func := "loop.example/closurecells/laws.FnExactTraceByMeaning", spec := "fnExactTraceByMeaning", inPlace := ["maps.clone"], unfollowed := true, recurses := true, apart := false }
def FnExactTraceByMeaningSaid : Prop := fnExactTraceByMeaningRow.holds Tryz.pinned (OpenSpec.ofChange fnExactTraceByMeaningSpec)

/-- ITS FALSE NEIGHBOUR: 'it returns false'. Refute it at one input. -/
def fnExactTraceByMeaningWrong : ChangeSpec := { name := "fnExactTraceByMeaning", fn := fun _ => fun
  | [d1, d2] => { results := [.lit (.bool false)], args := [d1, d2] }
  | _ => none }
def FnExactTraceByMeaningWrongFalsely : Prop := fnExactTraceByMeaningRow.holds Tryz.pinned (OpenSpec.ofChange fnExactTraceByMeaningWrong)

/-- 'laws.FnExactRunMeaning': WHATEVER THE INPUT: true; the input reads as it did. -/
def fnExactRunMeaningSpec : ChangeSpec := { name := "fnExactRunMeaning", fn := fun _ => fun
  | [d1, d2] => { results := [.lit (.bool true)], args := [d1, d2] }
  | _ => none }
def fnExactRunMeaningRow : OpenClaim := { program := "ytpckgioefpkmoaagreat", sum := "de00b2a66f0c5732fa2b44ef7046437c277beecf8b8b977411c3653e45b77af9", func := "loop.example/closurecells/laws.FnExactRunMeaning", spec := "fnExactRunMeaning", inPlace := ["maps.clone"], unfollowed := true, recurses := true, apart := false }
def FnExactRunMeaningSaid : Prop := fnExactRunMeaningRow.holds Tryz.pinned (OpenSpec.ofChange fnExactRunMeaningSpec)

/-- ITS FALSE NEIGHBOUR: 'it returns false'. Refute it at one input. -/
def fnExactRunMeaningWrong : ChangeSpec := { name := "fnExactRunMeaning", fn := fun _ => fun
  | [d1, d2] => { results := [.lit (.bool false)], args := [d1, d2] }
  | _ => none }
def FnExactRunMeaningWrongFalsely : Prop := fnExactRunMeaningRow.holds Tryz.pinned (OpenSpec.ofChange fnExactRunMeaningWrong)

/-- 'laws.FnMadeBy': WHATEVER THE INPUT: true; the input reads as it did. -/
def fnMadeBySpec : ChangeSpec := { name := "fnMadeBy", fn := fun _ => fun
  | [d] => { results := [.lit (.bool true)], args := [d] }
  | _ => none }
def fnMadeByRow : OpenClaim := { program := "ytpckgioefpkmoaagreat", sum := "de00b2a66f0c5732fa2b44ef7046437c277beecf8b8b977411c3653e45b77af9", func := "loop.example/closurecells/laws.FnMadeBy", spec := "fnMadeBy", inPlace := ["maps.clone"], unfollowed := true, recurses := true, apart := false }
def FnMadeBySaid : Prop := fnMadeByRow.holds Tryz.pinned (OpenSpec.ofChange fnMadeBySpec)

/-- ITS FALSE NEIGHBOUR: 'it returns false'. Refute it at one input. -/
def fnMadeByWrong : ChangeSpec := { name := "fnMadeBy", fn := fun _ => fun
  | [d] => { results := [.lit (.bool false)], args := [d] }
  | _ => none }
def FnMadeByWrongFalsely : Prop := fnMadeByRow.holds Tryz.pinned (OpenSpec.ofChange fnMadeByWrong)

/-- 'laws.FnStepsOf': WHATEVER THE INPUT: true; the input reads as it did. -/
def fnStepsOfSpec : ChangeSpec := { name := "fnStepsOf", fn := fun _ => fun
  | [d] => { results := [.lit (.bool true)], args := [d] }
  | _ => none }
def fnStepsOfRow : OpenClaim := { program := "ytpckgioefpkmoaagreat", sum := "de00b2a66f0c5732fa2b44ef7046437c277beecf8b8b977411c3653e45b77af9", func := "loop.example/closurecells/laws.FnStepsOf", spec := "fnStepsOf", inPlace := ["maps.clone"], unfollowed := true, recurses := true, apart := false }
def FnStepsOfSaid : Prop := fnStepsOfRow.holds Tryz.pinned (OpenSpec.ofChange fnStepsOfSpec)

/-- ITS FALSE NEIGHBOUR: 'it returns false'. Refute it at one input. -/
def fnStepsOfWrong : ChangeSpec := { name := "fnStepsOf", fn := fun _ => fun
  | [d] => { results := [.lit (.bool false)], args := [d] }
  | _ => none }
def FnStepsOfWrongFalsely : Prop := fnStepsOfRow.holds Tryz.pinned (OpenSpec.ofChange fnStepsOfWrong)

/-- 'laws.FnTraceByMeaning': WHATEVER THE INPUT: true; the input reads as it did. -/
def fnTraceByMeaningSpec : ChangeSpec := { name := "fnTraceByMeaning", fn := fun _ => fun
  | [d] => { results := [.lit (.bool true)], args := [d] }
  | _ => none }
def fnTraceByMeaningRow : OpenClaim := { program := "ytpckgioefpkmoaagreat", sum := "de00b2a66f0c5732fa2b44ef7046437c277beecf8b8b977411c3653e45b77af9", func := "loop.example/closurecells/laws.FnTraceByMeaning", spec := "fnTraceByMeaning", inPlace := ["maps.clone"], unfollowed := true, recurses := true, apart := false }
def FnTraceByMeaningSaid : Prop := fnTraceByMeaningRow.holds Tryz.pinned (OpenSpec.ofChange fnTraceByMeaningSpec)

/-- ITS FALSE NEIGHBOUR: 'it returns false'. Refute it at one input. -/
def fnTraceByMeaningWrong : ChangeSpec := { name := "fnTraceByMeaning", fn := fun _ => fun
  | [d] => { results := [.lit (.bool false)], args := [d] }
  | _ => none }
def FnTraceByMeaningWrongFalsely : Prop := fnTraceByMeaningRow.holds Tryz.pinned (OpenSpec.ofChange fnTraceByMeaningWrong)

/-- 'laws.FnOutAfter': WHATEVER THE INPUT: true; the input reads as it did. -/
def fnOutAfterSpec : ChangeSpec := { name := "fnOutAfter", fn := fun _ => fun
  | [d] => { results := [.lit (.bool true)], args := [d] }
  | _ => none }
def fnOutAfterRow : OpenClaim := { program := "ytpckgioefpkmoaagreat", sum := "de00b2a66f0c5732fa2b44ef7046437c277beecf8b8b977411c3653e45b77af9", func := "loop.example/closurecells/laws.FnOutAfter", spec := "fnOutAfter", inPlace := ["maps.clone"], unfollowed := true, recurses := true, apart := false }
def FnOutAfterSaid : Prop := fnOutAfterRow.holds Tryz.pinned (OpenSpec.ofChange fnOutAfterSpec)

/-- ITS FALSE NEIGHBOUR: 'it returns false'. Refute it at one input. -/
def fnOutAfterWrong : ChangeSpec := { name := "fnOutAfter", fn := fun _ => fun
  | [d] => { results := [.lit (.bool false)], args := [d] }
  | _ => none }
def FnOutAfterWrongFalsely : Prop := fnOutAfterRow.holds Tryz.pinned (OpenSpec.ofChange fnOutAfterWrong)

/-- 'laws.FnRunMeaning': WHATEVER THE INPUT: true; the input reads as it did. -/
def fnRunMeaningSpec : ChangeSpec := { name := "fnRunMeaning", fn := fun _ => fun
  | [d] => { results := [.lit (.bool true)], args := [d] }
  | _ => none }
def fnRunMeaningRow : OpenClaim := { program := "ytpckgioefpkmoaagreat", sum := "de00b2a66f0c5732fa2b44ef7046437c277beecf8b8b977411c3653e45b77af9", func := "loop.example/closurecells/laws.FnRunMeaning", spec := "fnRunMeaning", inPlace := ["maps.clone"], unfollowed := true, recurses := true, apart := false }
def FnRunMeaningSaid : Prop := fnRunMeaningRow.holds Tryz.pinned (OpenSpec.ofChange fnRunMeaningSpec)

/-- ITS FALSE NEIGHBOUR: 'it returns false'. Refute it at one input. -/
def fnRunMeaningWrong : ChangeSpec := { name := "fnRunMeaning", fn := fun _ => fun
  | [d] => { results := [.lit (.bool false)], args := [d] }
  | _ => none }
def FnRunMeaningWrongFalsely : Prop := fnRunMeaningRow.holds Tryz.pinned (OpenSpec.ofChange fnRunMeaningWrong)

/-- 'laws.FnRunMeaningPrint': WHATEVER THE INPUT: true; the input reads as it did. -/
def fnRunMeaningPrintSpec : ChangeSpec := { name := "fnRunMeaningPrint", fn := fun _ => fun
  | [d] => { results := [.lit (.bool true)], args := [d] }
  | _ => none }
def fnRunMeaningPrintRow : OpenClaim := { program := "ytpckgioefpkmoaagreat", sum := "de00b2a66f0c5732fa2b44ef7046437c277beecf8b8b977411c3653e45b77af9", func := "loop.example/closurecells/laws.FnRunMeaningPrint", spec := "fnRunMeaningPrint", inPlace := ["maps.clone"], unfollowed := true, recurses := true, apart := false }
def FnRunMeaningPrintSaid : Prop := fnRunMeaningPrintRow.holds Tryz.pinned (OpenSpec.ofChange fnRunMeaningPrintSpec)

/-- ITS FALSE NEIGHBOUR: 'it returns false'. Refute it at one input. -/
def fnRunMeaningPrintWrong : ChangeSpec := { name := "fnRunMeaningPrint", fn := fun _ => fun
  | [d] => { results := [.lit (.bool false)], args := [d] }
  | _ => none }
def FnRunMeaningPrintWrongFalsely : Prop := fnRunMeaningPrintRow.holds Tryz.pinned (OpenSpec.ofChange fnRunMeaningPrintWrong)

/-- 'laws.FnRunMeaningNames': WHATEVER THE INPUT: true; the input reads as it did. -/
def fnRunMeaningNamesSpec : ChangeSpec := { name := "fnRunMeaningNames", fn := fun _ => fun
  | [d] => { results := [.lit (.bool true)], args := [d] }
  | _ => none }
def fnRunMeaningNamesRow : OpenClaim := { program := "ytpckgioefpkmoaagreat", sum := "de00b2a66f0c5732fa2b44ef7046437c277beecf8b8b977411c3653e45b77af9", func := "loop.example/closurecells/laws.FnRunMeaningNames", spec := "fnRunMeaningNames", inPlace := ["maps.clone"], unfollowed := true, recurses := true, apart := false }
def FnRunMeaningNamesSaid : Prop := fnRunMeaningNamesRow.holds Tryz.pinned (OpenSpec.ofChange fnRunMeaningNamesSpec)

/-- ITS FALSE NEIGHBOUR: 'it returns false'. Refute it at one input. -/
def fnRunMeaningNamesWrong : ChangeSpec := { name := "fnRunMeaningNames", fn := fun _ => fun
  | [d] => { results := [.lit (.bool false)], args := [d] }
  | _ => none }
def FnRunMeaningNamesWrongFalsely : Prop := fnRunMeaningNamesRow.holds Tryz.pinned (OpenSpec.ofChange fnRunMeaningNamesWrong)

/- THE SECOND FORM. 'bulk': how many values and letters a reading holds, each counted each time it is reached (what is shared counts as often as it is met; a slice's spare places count too). A statement '..UptoSaid' is the law's where the arguments, and the package variables that the reading takes, are together of bulk at most 1048576: NARROWER than '..Said'. Prove '..Said' where nothing that the law and all that it calls make is longer than what came in: it says more and counts as full. Else prove '..UptoSaid'. A law counts once. -/
mutual
def uptoBulk {H : Type} : DataW H → Nat
  | .lit (.string bytes) => bytes.length + 1
  | .lit _ => 1
  | .nil => 1
  | .ptr d => uptoBulk d + 1
  | .slice elems spare => uptoBulkAll elems + uptoBulkAll spare + 1
  | .agg parts => uptoBulkAll parts + 1
  | .iface _ d => uptoBulk d + 1
  | .map entries => uptoBulkEntries entries + 1
  | .held _ => 1
def uptoBulkAll {H : Type} : List (DataW H) → Nat
  | [] => 0
  | d :: r => uptoBulk d + uptoBulkAll r
def uptoBulkEntries {H : Type} : List (Lit × DataW H) → Nat
  | [] => 0
  | x :: r => uptoBulkEntry x + uptoBulkEntries r
def uptoBulkEntry {H : Type} : Lit × DataW H → Nat
  | (.string bytes, d) => bytes.length + uptoBulk d + 1
  | (_, d) => uptoBulk d + 1
 end
def uptoSmall : (H : Type) → List (DataW H) → Bool := fun _ ds => decide (uptoBulkAll ds ≤ 1048576)
def OpenSpec.upto (s : _root_.Go.ChangeSpec) : _root_.Go.OpenSpec := { _root_.Go.OpenSpec.ofChange s with cond := some uptoSmall }

/-- 'laws.FnExactStepsOf', WHERE WHAT IT READS IS OF BULK AT MOST 1048576: true; the input reads as it did. -/
def fnExactStepsOfUptoRow : OpenClaim := { program := "ytpckgioefpkmoaagreat", sum := "de00b2a66f0c5732fa2b44ef7046437c277beecf8b8b977411c3653e45b77af9", func := "loop.example/closurecells/laws.FnExactStepsOf", spec := "fnExactStepsOf", inPlace := ["maps.clone"], unfollowed := true, recurses := true, apart := false, narrowed := true }
def FnExactStepsOfUptoSaid : Prop := fnExactStepsOfUptoRow.holds Tryz.pinned (OpenSpec.upto fnExactStepsOfSpec)

/-- 'laws.FnExactMadeBy', WHERE WHAT IT READS IS OF BULK AT MOST 1048576: true; the input reads as it did. -/
def fnExactMadeByUptoRow : OpenClaim := { program := "ytpckgioefpkmoaagreat", sum := "de00b2a66f0c5732fa2b44ef7046437c277beecf8b8b977411c3653e45b77af9", func := "loop.example/closurecells/laws.FnExactMadeBy", spec := "fnExactMadeBy", inPlace := ["maps.clone"], unfollowed := true, recurses := true, apart := false, narrowed := true }
def FnExactMadeByUptoSaid : Prop := fnExactMadeByUptoRow.holds Tryz.pinned (OpenSpec.upto fnExactMadeBySpec)

/-- 'laws.FnExactOutAfter', WHERE WHAT IT READS IS OF BULK AT MOST 1048576: true; the input reads as it did. -/
def fnExactOutAfterUptoRow : OpenClaim := { program := "ytpckgioefpkmoaagreat", sum := "de00b2a66f0c5732fa2b44ef7046437c277beecf8b8b977411c3653e45b77af9", func := "loop.example/closurecells/laws.FnExactOutAfter", spec := "fnExactOutAfter", inPlace := ["maps.clone"], unfollowed := true, recurses := true, apart := false, narrowed := true }
def FnExactOutAfterUptoSaid : Prop := fnExactOutAfterUptoRow.holds Tryz.pinned (OpenSpec.upto fnExactOutAfterSpec)

/-- 'laws.FnExactTraceByMeaning', WHERE WHAT IT READS IS OF BULK AT MOST 1048576: true; the input reads as it did. -/
def fnExactTraceByMeaningUptoRow : OpenClaim := { program := "ytpckgioefpkmoaagreat", sum := "de00b2a66f0c5732fa2b44ef7046437c277beecf8b8b977411c3653e45b77af9", func := "loop.example/closurecells/laws.FnExactTraceByMeaning", spec := "fnExactTraceByMeaning", inPlace := ["maps.clone"], unfollowed := true, recurses := true, apart := false, narrowed := true }
def FnExactTraceByMeaningUptoSaid : Prop := fnExactTraceByMeaningUptoRow.holds Tryz.pinned (OpenSpec.upto fnExactTraceByMeaningSpec)

/-- 'laws.FnExactRunMeaning', WHERE WHAT IT READS IS OF BULK AT MOST 1048576: true; the input reads as it did. -/
def fnExactRunMeaningUptoRow : OpenClaim := { program := "ytpckgioefpkmoaagreat", sum := "de00b2a66f0c5732fa2b44ef7046437c277beecf8b8b977411c3653e45b77af9", func := "loop.example/closurecells/laws.FnExactRunMeaning", spec := "fnExactRunMeaning", inPlace := ["maps.clone"], unfollowed := true, recurses := true, apart := false, narrowed := true }
def FnExactRunMeaningUptoSaid : Prop := fnExactRunMeaningUptoRow.holds Tryz.pinned (OpenSpec.upto fnExactRunMeaningSpec)

/-- 'laws.FnMadeBy', WHERE WHAT IT READS IS OF BULK AT MOST 1048576: true; the input reads as it did. -/
def fnMadeByUptoRow : OpenClaim := { program := "ytpckgioefpkmoaagreat", sum := "de00b2a66f0c5732fa2b44ef7046437c277beecf8b8b977411c3653e45b77af9", func := "loop.example/closurecells/laws.FnMadeBy", spec := "fnMadeBy", inPlace := ["maps.clone"], unfollowed := true, recurses := true, apart := false, narrowed := true }
def FnMadeByUptoSaid : Prop := fnMadeByUptoRow.holds Tryz.pinned (OpenSpec.upto fnMadeBySpec)

/-- 'laws.FnStepsOf', WHERE WHAT IT READS IS OF BULK AT MOST 1048576: true; the input reads as it did. -/
def fnStepsOfUptoRow : OpenClaim := { program := "ytpckgioefpkmoaagreat", sum := "de00b2a66f0c5732fa2b44ef7046437c277beecf8b8b977411c3653e45b77af9", func := "loop.example/closurecells/laws.FnStepsOf", spec := "fnStepsOf", inPlace := ["maps.clone"], unfollowed := true, recurses := true, apart := false, narrowed := true }
def FnStepsOfUptoSaid : Prop := fnStepsOfUptoRow.holds Tryz.pinned (OpenSpec.upto fnStepsOfSpec)

/-- 'laws.FnTraceByMeaning', WHERE WHAT IT READS IS OF BULK AT MOST 1048576: true; the input reads as it did. -/
def fnTraceByMeaningUptoRow : OpenClaim := { program := "ytpckgioefpkmoaagreat", sum := "de00b2a66f0c5732fa2b44ef7046437c277beecf8b8b977411c3653e45b77af9", func := "loop.example/closurecells/laws.FnTraceByMeaning", spec := "fnTraceByMeaning", inPlace := ["maps.clone"], unfollowed := true, recurses := true, apart := false, narrowed := true }
def FnTraceByMeaningUptoSaid : Prop := fnTraceByMeaningUptoRow.holds Tryz.pinned (OpenSpec.upto fnTraceByMeaningSpec)

/-- 'laws.FnOutAfter', WHERE WHAT IT READS IS OF BULK AT MOST 1048576: true; the input reads as it did. -/
def fnOutAfterUptoRow : OpenClaim := { program := "ytpckgioefpkmoaagreat", sum := "de00b2a66f0c5732fa2b44ef7046437c277beecf8b8b977411c3653e45b77af9", func := "loop.example/closurecells/laws.FnOutAfter", spec := "fnOutAfter", inPlace := ["maps.clone"], unfollowed := true, recurses := true, apart := false, narrowed := true }
def FnOutAfterUptoSaid : Prop := fnOutAfterUptoRow.holds Tryz.pinned (OpenSpec.upto fnOutAfterSpec)

/-- 'laws.FnRunMeaning', WHERE WHAT IT READS IS OF BULK AT MOST 1048576: true; the input reads as it did. -/
def fnRunMeaningUptoRow : OpenClaim := { program := "ytpckgioefpkmoaagreat", sum := "de00b2a66f0c5732fa2b44ef7046437c277beecf8b8b977411c3653e45b77af9", func := "loop.example/closurecells/laws.FnRunMeaning", spec := "fnRunMeaning", inPlace := ["maps.clone"], unfollowed := true, recurses := true, apart := false, narrowed := true }
def FnRunMeaningUptoSaid : Prop := fnRunMeaningUptoRow.holds Tryz.pinned (OpenSpec.upto fnRunMeaningSpec)

/-- 'laws.FnRunMeaningPrint', WHERE WHAT IT READS IS OF BULK AT MOST 1048576: true; the input reads as it did. -/
def fnRunMeaningPrintUptoRow : OpenClaim := { program := "ytpckgioefpkmoaagreat", sum := "de00b2a66f0c5732fa2b44ef7046437c277beecf8b8b977411c3653e45b77af9", func := "loop.example/closurecells/laws.FnRunMeaningPrint", spec := "fnRunMeaningPrint", inPlace := ["maps.clone"], unfollowed := true, recurses := true, apart := false, narrowed := true }
def FnRunMeaningPrintUptoSaid : Prop := fnRunMeaningPrintUptoRow.holds Tryz.pinned (OpenSpec.upto fnRunMeaningPrintSpec)

/-- 'laws.FnRunMeaningNames', WHERE WHAT IT READS IS OF BULK AT MOST 1048576: true; the input reads as it did. -/
def fnRunMeaningNamesUptoRow : OpenClaim := { program := "ytpckgioefpkmoaagreat", sum := "de00b2a66f0c5732fa2b44ef7046437c277beecf8b8b977411c3653e45b77af9", func := "loop.example/closurecells/laws.FnRunMeaningNames", spec := "fnRunMeaningNames", inPlace := ["maps.clone"], unfollowed := true, recurses := true, apart := false, narrowed := true }
def FnRunMeaningNamesUptoSaid : Prop := fnRunMeaningNamesUptoRow.holds Tryz.pinned (OpenSpec.upto fnRunMeaningNamesSpec)

end Rows
end Go.Proofs.YtpckgioefpkmoaaGreat
