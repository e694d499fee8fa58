/-
  No cell of these rows narrows 'for every input' (looked for: loops, veiled, ifaces, maps, wideKeys, modest, calm, conditions, laid).
  DERIVED. THE GIVEN ROWS OF THIS SEAT. 12 by the template 'for every input the law returns true; each argument reads behind the call as it read before'; 0 by the template 'total and deterministic' (their statements: YtpbjpkkomaopfaaTotals.lean).
  GIVEN WITH THE SEED: the statements are not yours to turn. If you find one false, say at which input.
  Laid BY PROGRAM, IN A SANDBOX (cutbox-rows.mjs): the forced cells as the released guide's own fill.sh prints them over the translation 2f32c5dd53eb1b25… (all of the seat's roots in one cut). By AI agents, Wed Nov 11 2026. No macro, syntax, notation, axiom, sorry.
-/
import Derived.Test.YtpbjpkkomaopfaaChecked
import GoSem.Claim
import GoSem.ClaimJoined
import GoSem.ClaimMapViews
import Derived.JoinedTies
import Derived.KernelRfl
namespace Go.Proofs.Ytpbjpkkomaopfaa
/- THE CELL 'sum', in the pinned program and in every row, IS THE sha256 OF THE DUMP (.gsa) THAT YtpbjpkkomaopfaaProg.lean LOADS. Nothing in Lean hashes anything: it is a label: what it is worth is what the hold of that sum in a sandbox is worth. -/
noncomputable def Try.pinned : Pinned := { name := "ytpbjpkkomaopfaa", sum := "2f32c5dd53eb1b257e5b140eea8c0849b7c20c2492dcfb6ea5310402484dc33e", checked := Try.checked }
namespace Rows
def none {H : Type} : Left H := { results := [], args := [] }

/-- 'laws.FnExactConstants': WHATEVER THE INPUT: true; the input reads as it did. -/
def fnExactConstantsSpec : ChangeSpec := { name := "fnExactConstants", fn := fun _ => fun
  | [] => { results := [.lit (.bool true)], args := [] }
  | _ => none }
def fnExactConstantsRow : OpenClaim := { program := "ytpbjpkkomaopfaa", sum := "2f32c5dd53eb1b257e5b140eea8c0849b7c20c2492dcfb6ea5310402484dc33e", func := "loop.example/g00972/laws.FnExactConstants", spec := "fnExactConstants", apart := false }
def FnExactConstantsSaid : Prop := fnExactConstantsRow.holds Try.pinned (OpenSpec.ofChange fnExactConstantsSpec)

/-- ITS FALSE NEIGHBOUR: 'it returns false'. Refute it at one input. -/
def fnExactConstantsWrong : ChangeSpec := { name := "fnExactConstants", fn := fun _ => fun
  | [] => { results := [.lit (.bool false)], args := [] }
  | _ => none }
def FnExactConstantsWrongFalsely : Prop := fnExactConstantsRow.holds Try.pinned (OpenSpec.ofChange fnExactConstantsWrong)

/-- 'laws.FnExactKnown': WHATEVER THE INPUT: true; the input reads as it did. -/
def fnExactKnownSpec : ChangeSpec := { name := "fnExactKnown", fn := fun _ => fun
  | [d1, d2] => { results := [.lit (.bool true)], args := [d1, d2] }
  | _ => none }
def fnExactKnownRow : OpenClaim := { program := "ytpbjpkkomaopfaa", sum := "2f32c5dd53eb1b257e5b140eea8c0849b7c20c2492dcfb6ea5310402484dc33e", func := "loop.example/g00972/laws.FnExactKnown", spec := "fnExactKnown", apart := false }
def FnExactKnownSaid : Prop := fnExactKnownRow.holds Try.pinned (OpenSpec.ofChange fnExactKnownSpec)

/-- ITS FALSE NEIGHBOUR: 'it returns false'. Refute it at one input. -/
def fnExactKnownWrong : ChangeSpec := { name := "fnExactKnown", fn := fun _ => fun
  | [d1, d2] => { results := [.lit (.bool false)], args := [d1, d2] }
  | _ => none }
def FnExactKnownWrongFalsely : Prop := fnExactKnownRow.holds Try.pinned (OpenSpec.ofChange fnExactKnownWrong)

/-- 'laws.FnExactMirrored': WHATEVER THE INPUT: true; the input reads as it did. -/
def fnExactMirroredSpec : ChangeSpec := { name := "fnExactMirrored", fn := fun _ => fun
  | [d1, d2, d3, d4] => { results := [.lit (.bool true)], args := [d1, d2, d3, d4] }
  | _ => none }
def fnExactMirroredRow : OpenClaim := { program := "ytpbjpkkomaopfaa", sum := "2f32c5dd53eb1b257e5b140eea8c0849b7c20c2492dcfb6ea5310402484dc33e", func := "loop.example/g00972/laws.FnExactMirrored", spec := "fnExactMirrored", apart := false }
def FnExactMirroredSaid : Prop := fnExactMirroredRow.holds Try.pinned (OpenSpec.ofChange fnExactMirroredSpec)

/-- ITS FALSE NEIGHBOUR: 'it returns false'. Refute it at one input. -/
def fnExactMirroredWrong : ChangeSpec := { name := "fnExactMirrored", fn := fun _ => fun
  | [d1, d2, d3, d4] => { results := [.lit (.bool false)], args := [d1, d2, d3, d4] }
  | _ => none }
def FnExactMirroredWrongFalsely : Prop := fnExactMirroredRow.holds Try.pinned (OpenSpec.ofChange fnExactMirroredWrong)

/-- 'laws.FnExactOrElse': WHATEVER THE INPUT: true; the input reads as it did. -/
def fnExactOrElseSpec : ChangeSpec := { name := "fnExactOrElse", fn := fun _ => fun
  | [d1, d2] => { results := [.lit (.bool true)], args := [d1, d2] }
  | _ => none }
def fnExactOrElseRow : OpenClaim := { program := "ytpbjpkkomaopfaa", sum := "2f32c5dd53eb1b257e5b140eea8c0849b7c20c2492dcfb6ea5310402484dc33e", func := "loop.example/g00972/laws.FnExactOrElse", spec := "fnExactOrElse", apart := false }
def FnExactOrElseSaid : Prop := fnExactOrElseRow.holds Try.pinned (OpenSpec.ofChange fnExactOrElseSpec)

/-- ITS FALSE NEIGHBOUR: 'it returns false'. Refute it at one input. -/
def fnExactOrElseWrong : ChangeSpec := { name := "fnExactOrElse", fn := fun _ => fun
  | [d1, d2] => { results := [.lit (.bool false)], args := [d1, d2] }
  | _ => none }
def FnExactOrElseWrongFalsely : Prop := fnExactOrElseRow.holds Try.pinned (OpenSpec.ofChange fnExactOrElseWrong)

/-- 'laws.FnExactWithin': WHATEVER THE INPUT: true; the input reads as it did. -/
def fnExactWithinSpec : ChangeSpec := { name := "fnExactWithin", fn := fun _ => fun
  | [d1, d2, d3] => { results := [.lit (.bool true)], args := [d1, d2, d3] }
  | _ => none }
def fnExactWithinRow : OpenClaim := { program := "ytpbjpkkomaopfaa", sum := "2f32c5dd53eb1b257e5b140eea8c0849b7c20c2492dcfb6ea5310402484dc33e", func := "loop.example/g00972/laws.FnExactWithin", spec := "fnExactWithin", apart := false }
def FnExactWithinSaid : Prop := fnExactWithinRow.holds Try.pinned (OpenSpec.ofChange fnExactWithinSpec)

/-- ITS FALSE NEIGHBOUR: 'it returns false'. Refute it at one input. -/
def fnExactWithinWrong : ChangeSpec := { name := "fnExactWithin", fn := fun _ => fun
  | [d1, d2, d3] => { results := [.lit (.bool false)], args := [d1, d2, d3] }
  | _ => none }
def FnExactWithinWrongFalsely : Prop := fnExactWithinRow.holds Try.pinned (OpenSpec.ofChange fnExactWithinWrong)

/-- 'laws.FnExactEdgesOk': WHATEVER THE INPUT: true; the input reads as it did. -/
def fnExactEdgesOkSpec : ChangeSpec := { name := "fnExactEdgesOk", fn := fun _ => fun
  | [d] => { results := [.lit (.bool true)], args := [d] }
  | _ => none }
def fnExactEdgesOkRow : OpenClaim := { program := "ytpbjpkkomaopfaa", sum := "2f32c5dd53eb1b257e5b140eea8c0849b7c20c2492dcfb6ea5310402484dc33e", func := "loop.example/g00972/laws.FnExactEdgesOk", spec := "fnExactEdgesOk", apart := false }
def FnExactEdgesOkSaid : Prop := fnExactEdgesOkRow.holds Try.pinned (OpenSpec.ofChange fnExactEdgesOkSpec)

/-- ITS FALSE NEIGHBOUR: 'it returns false'. Refute it at one input. -/
def fnExactEdgesOkWrong : ChangeSpec := { name := "fnExactEdgesOk", fn := fun _ => fun
  | [d] => { results := [.lit (.bool false)], args := [d] }
  | _ => none }
def FnExactEdgesOkWrongFalsely : Prop := fnExactEdgesOkRow.holds Try.pinned (OpenSpec.ofChange fnExactEdgesOkWrong)

/-- 'laws.FnExactBrought': WHATEVER THE INPUT: true; the input reads as it did. -/
def fnExactBroughtSpec : ChangeSpec := { name := "fnExactBrought", fn := fun _ => fun
  | [d1, d2, d3] => { results := [.lit (.bool true)], args := [d1, d2, d3] }
  | _ => none }
def fnExactBroughtRow : OpenClaim := { program := "ytpbjpkkomaopfaa", sum := "2f32c5dd53eb1b257e5b140eea8c0849b7c20c2492dcfb6ea5310402484dc33e", func := "loop.example/g00972/laws.FnExactBrought", spec := "fnExactBrought", apart := false }
def FnExactBroughtSaid : Prop := fnExactBroughtRow.holds Try.pinned (OpenSpec.ofChange fnExactBroughtSpec)

/-- ITS FALSE NEIGHBOUR: 'it returns false'. Refute it at one input. -/
def fnExactBroughtWrong : ChangeSpec := { name := "fnExactBrought", fn := fun _ => fun
  | [d1, d2, d3] => { results := [.lit (.bool false)], args := [d1, d2, d3] }
  | _ => none }
def FnExactBroughtWrongFalsely : Prop := fnExactBroughtRow.holds Try.pinned (OpenSpec.ofChange fnExactBroughtWrong)

/-- 'laws.FnExactFloorDiv': WHATEVER THE INPUT: true; the input reads as it did. -/
def fnExactFloorDivSpec : ChangeSpec := { name := "fnExactFloorDiv", fn := fun _ => fun
  | [d1, d2] => { results := [.lit (.bool true)], args := [d1, d2] }
  | _ => none }
def fnExactFloorDivRow : OpenClaim := { program := "ytpbjpkkomaopfaa", sum := "2f32c5dd53eb1b257e5b140eea8c0849b7c20c2492dcfb6ea5310402484dc33e", func := "loop.example/g00972/laws.FnExactFloorDiv", spec := "fnExactFloorDiv", apart := false }
def FnExactFloorDivSaid : Prop := fnExactFloorDivRow.holds Try.pinned (OpenSpec.ofChange fnExactFloorDivSpec)

/-- ITS FALSE NEIGHBOUR: 'it returns false'. Refute it at one input. -/
def fnExactFloorDivWrong : ChangeSpec := { name := "fnExactFloorDiv", fn := fun _ => fun
  | [d1, d2] => { results := [.lit (.bool false)], args := [d1, d2] }
  | _ => none }
def FnExactFloorDivWrongFalsely : Prop := fnExactFloorDivRow.holds Try.pinned (OpenSpec.ofChange fnExactFloorDivWrong)

/-- 'laws.FnExactClamped': WHATEVER THE INPUT: true; the input reads as it did. -/
def fnExactClampedSpec : ChangeSpec := { name := "fnExactClamped", fn := fun _ => fun
  | [d] => { results := [.lit (.bool true)], args := [d] }
  | _ => none }
def fnExactClampedRow : OpenClaim := { program := "ytpbjpkkomaopfaa", sum := "2f32c5dd53eb1b257e5b140eea8c0849b7c20c2492dcfb6ea5310402484dc33e", func := "loop.example/g00972/laws.FnExactClamped", spec := "fnExactClamped", apart := false }
def FnExactClampedSaid : Prop := fnExactClampedRow.holds Try.pinned (OpenSpec.ofChange fnExactClampedSpec)

/-- ITS FALSE NEIGHBOUR: 'it returns false'. Refute it at one input. -/
def fnExactClampedWrong : ChangeSpec := { name := "fnExactClamped", fn := fun _ => fun
  | [d] => { results := [.lit (.bool false)], args := [d] }
  | _ => none }
def FnExactClampedWrongFalsely : Prop := fnExactClampedRow.holds Try.pinned (OpenSpec.ofChange fnExactClampedWrong)

/-- 'laws.FnExactAddLen': WHATEVER THE INPUT: true; the input reads as it did. -/
def fnExactAddLenSpec : ChangeSpec := { name := "fnExactAddLen", fn := fun _ => fun
  | [d1, d2] => { results := [.lit (.bool true)], args := [d1, d2] }
  | _ => none }
def fnExactAddLenRow : OpenClaim := { program := "ytpbjpkkomaopfaa", sum := "2f32c5dd53eb1b257e5b140eea8c0849b7c20c2492dcfb6ea5310402484dc33e", func := "loop.example/g00972/laws.FnExactAddLen", spec := "fnExactAddLen", apart := false }
def FnExactAddLenSaid : Prop := fnExactAddLenRow.holds Try.pinned (OpenSpec.ofChange fnExactAddLenSpec)

/-- ITS FALSE NEIGHBOUR: 'it returns false'. Refute it at one input. -/
def fnExactAddLenWrong : ChangeSpec := { name := "fnExactAddLen", fn := fun _ => fun
  | [d1, d2] => { results := [.lit (.bool false)], args := [d1, d2] }
  | _ => none }
def FnExactAddLenWrongFalsely : Prop := fnExactAddLenRow.holds Try.pinned (OpenSpec.ofChange fnExactAddLenWrong)

/-- 'laws.FnExactHex': WHATEVER THE INPUT: true; the input reads as it did. -/
def fnExactHexSpec : ChangeSpec := { name := "fnExactHex", fn := fun _ => fun
  | [d] => { results := [.lit (.bool true)], args := [d] }
  | _ => none }
def fnExactHexRow : OpenClaim := { program := "ytpbjpkkomaopfaa", sum := "2f32c5dd53eb1b257e5b140eea8c0849b7c20c2492dcfb6ea5310402484dc33e", func := "loop.example/g00972/laws.FnExactHex", spec := "fnExactHex", apart := false }
def FnExactHexSaid : Prop := fnExactHexRow.holds Try.pinned (OpenSpec.ofChange fnExactHexSpec)

/-- ITS FALSE NEIGHBOUR: 'it returns false'. Refute it at one input. -/
def fnExactHexWrong : ChangeSpec := { name := "fnExactHex", fn := fun _ => fun
  | [d] => { results := [.lit (.bool false)], args := [d] }
  | _ => none }
def FnExactHexWrongFalsely : Prop := fnExactHexRow.holds Try.pinned (OpenSpec.ofChange fnExactHexWrong)

/-- 'laws.FnExactValueOk': WHATEVER THE INPUT: true; the input reads as it did. -/
def fnExactValueOkSpec : ChangeSpec := { name := "fnExactValueOk", fn := fun _ => fun
  | [d] => { results := [.lit (.bool true)], args := [d] }
  | _ => none }
def fnExactValueOkRow : OpenClaim := { program := "ytpbjpkkomaopfaa", sum := "2f32c5dd53eb1b257e5b140eea8c0849b7c20c2492dcfb6ea5310402484dc33e", func := "loop.example/g00972/laws.FnExactValueOk", spec := "fnExactValueOk", apart := false }
def FnExactValueOkSaid : Prop := fnExactValueOkRow.holds Try.pinned (OpenSpec.ofChange fnExactValueOkSpec)

/-- ITS FALSE NEIGHBOUR: 'it returns false'. Refute it at one input. -/
def fnExactValueOkWrong : ChangeSpec := { name := "fnExactValueOk", fn := fun _ => fun
  | [d] => { results := [.lit (.bool false)], args := [d] }
  | _ => none }
def FnExactValueOkWrongFalsely : Prop := fnExactValueOkRow.holds Try.pinned (OpenSpec.ofChange fnExactValueOkWrong)

/- THE SECOND FORM. 'bulk': how many values and letters a reading holds, each counted each time it is reached (what is shared counts as often as it is met; a slice's spare places count too). A statement '..UptoSaid' is the law's where the arguments, and the package variables that the reading takes, are together of bulk at most 1048576: NARROWER than '..Said'. Prove '..Said' where nothing that the law and all that it calls make is longer than what came in: it says more and counts as full. Else prove '..UptoSaid'. A law counts once. -/
mutual
def uptoBulk {H : Type} : DataW H → Nat
  | .lit (.string bytes) => bytes.length + 1
  | .lit _ => 1
  | .nil => 1
  | .ptr d => uptoBulk d + 1
  | .slice elems spare => uptoBulkAll elems + uptoBulkAll spare + 1
  | .agg parts => uptoBulkAll parts + 1
  | .iface _ d => uptoBulk d + 1
  | .map entries => uptoBulkEntries entries + 1
  | .held _ => 1
def uptoBulkAll {H : Type} : List (DataW H) → Nat
  | [] => 0
  | d :: r => uptoBulk d + uptoBulkAll r
def uptoBulkEntries {H : Type} : List (Lit × DataW H) → Nat
  | [] => 0
  | x :: r => uptoBulkEntry x + uptoBulkEntries r
def uptoBulkEntry {H : Type} : Lit × DataW H → Nat
  | (.string bytes, d) => bytes.length + uptoBulk d + 1
  | (_, d) => uptoBulk d + 1
 end
def uptoSmall : (H : Type) → List (DataW H) → Bool := fun _ ds => decide (uptoBulkAll ds ≤ 1048576)
def OpenSpec.upto (s : _root_.Go.ChangeSpec) : _root_.Go.OpenSpec := { _root_.Go.OpenSpec.ofChange s with cond := some uptoSmall }

/-- 'laws.FnExactConstants', WHERE WHAT IT READS IS OF BULK AT MOST 1048576: true; the input reads as it did. -/
def fnExactConstantsUptoRow : OpenClaim := { program := "ytpbjpkkomaopfaa", sum := "2f32c5dd53eb1b257e5b140eea8c0849b7c20c2492dcfb6ea5310402484dc33e", func := "loop.example/g00972/laws.FnExactConstants", spec := "fnExactConstants", apart := false, narrowed := true }
def FnExactConstantsUptoSaid : Prop := fnExactConstantsUptoRow.holds Try.pinned (OpenSpec.upto fnExactConstantsSpec)

/-- 'laws.FnExactKnown', WHERE WHAT IT READS IS OF BULK AT MOST 1048576: true; the input reads as it did. -/
def fnExactKnownUptoRow : OpenClaim := { program := "ytpbjpkkomaopfaa", sum := "2f32c5dd53eb1b257e5b140eea8c0849b7c20c2492dcfb6ea5310402484dc33e", func := "loop.example/g00972/laws.FnExactKnown", spec := "fnExactKnown", apart := false, narrowed := true }
def FnExactKnownUptoSaid : Prop := fnExactKnownUptoRow.holds Try.pinned (OpenSpec.upto fnExactKnownSpec)

/-- 'laws.FnExactMirrored', WHERE WHAT IT READS IS OF BULK AT MOST 1048576: true; the input reads as it did. -/
def fnExactMirroredUptoRow : OpenClaim := { program := "ytpbjpkkomaopfaa", sum := "2f32c5dd53eb1b257e5b140eea8c0849b7c20c2492dcfb6ea5310402484dc33e", func := "loop.example/g00972/laws.FnExactMirrored", spec := "fnExactMirrored", apart := false, narrowed := true }
def FnExactMirroredUptoSaid : Prop := fnExactMirroredUptoRow.holds Try.pinned (OpenSpec.upto fnExactMirroredSpec)

/-- 'laws.FnExactOrElse', WHERE WHAT IT READS IS OF BULK AT MOST 1048576: true; the input reads as it did. -/
def fnExactOrElseUptoRow : OpenClaim := { program := "ytpbjpkkomaopfaa", sum := "2f32c5dd53eb1b257e5b140eea8c0849b7c20c2492dcfb6ea5310402484dc33e", func := "loop.example/g00972/laws.FnExactOrElse", spec := "fnExactOrElse", apart := false, narrowed := true }
def FnExactOrElseUptoSaid : Prop := fnExactOrElseUptoRow.holds Try.pinned (OpenSpec.upto fnExactOrElseSpec)

/-- 'laws.FnExactWithin', WHERE WHAT IT READS IS OF BULK AT MOST 1048576: true; the input reads as it did. -/
def fnExactWithinUptoRow : OpenClaim := { program := "ytpbjpkkomaopfaa", sum := "2f32c5dd53eb1b257e5b140eea8c0849b7c20c2492dcfb6ea5310402484dc33e", func := "loop.example/g00972/laws.FnExactWithin", spec := "fnExactWithin", apart := false, narrowed := true }
def FnExactWithinUptoSaid : Prop := fnExactWithinUptoRow.holds Try.pinned (OpenSpec.upto fnExactWithinSpec)

/-- 'laws.FnExactEdgesOk', WHERE WHAT IT READS IS OF BULK AT MOST 1048576: true; the input reads as it did. -/
def fnExactEdgesOkUptoRow : OpenClaim := { program := "ytpbjpkkomaopfaa", sum := "2f32c5dd53eb1b257e5b140eea8c0849b7c20c2492dcfb6ea5310402484dc33e", func := "loop.example/g00972/laws.FnExactEdgesOk", spec := "fnExactEdgesOk", apart := false, narrowed := true }
def FnExactEdgesOkUptoSaid : Prop := fnExactEdgesOkUptoRow.holds Try.pinned (OpenSpec.upto fnExactEdgesOkSpec)

/-- 'laws.FnExactBrought', WHERE WHAT IT READS IS OF BULK AT MOST 1048576: true; the input reads as it did. -/
def fnExactBroughtUptoRow : OpenClaim := { program := "ytpbjpkkomaopfaa", sum := "2f32c5dd53eb1b257e5b140eea8c0849b7c20c2492dcfb6ea5310402484dc33e", func := "loop.example/g00972/laws.FnExactBrought", spec := "fnExactBrought", apart := false, narrowed := true }
def FnExactBroughtUptoSaid : Prop := fnExactBroughtUptoRow.holds Try.pinned (OpenSpec.upto fnExactBroughtSpec)

/-- 'laws.FnExactFloorDiv', WHERE WHAT IT READS IS OF BULK AT MOST 1048576: true; the input reads as it did. -/
def fnExactFloorDivUptoRow : OpenClaim := { program := "ytpbjpkkomaopfaa", sum := "2f32c5dd53eb1b257e5b140eea8c0849b7c20c2492dcfb6ea5310402484dc33e", func := "loop.example/g00972/laws.FnExactFloorDiv", spec := "fnExactFloorDiv", apart := false, narrowed := true }
def FnExactFloorDivUptoSaid : Prop := fnExactFloorDivUptoRow.holds Try.pinned (OpenSpec.upto fnExactFloorDivSpec)

/-- 'laws.FnExactClamped', WHERE WHAT IT READS IS OF BULK AT MOST 1048576: true; the input reads as it did. -/
def fnExactClampedUptoRow : OpenClaim := { program := "ytpbjpkkomaopfaa", sum := "2f32c5dd53eb1b257e5b140eea8c0849b7c20c2492dcfb6ea5310402484dc33e", func := "loop.example/g00972/laws.FnExactClamped", spec := "fnExactClamped", apart := false, narrowed := true }
def FnExactClampedUptoSaid : Prop := fnExactClampedUptoRow.holds Try.pinned (OpenSpec.upto fnExactClampedSpec)

/-- 'laws.FnExactAddLen', WHERE WHAT IT READS IS OF BULK AT MOST 1048576: true; the input reads as it did. -/
def fnExactAddLenUptoRow : OpenClaim := { program := "ytpbjpkkomaopfaa", sum := "2f32c5dd53eb1b257e5b140eea8c0849b7c20c2492dcfb6ea5310402484dc33e", func := "loop.example/g00972/laws.FnExactAddLen", spec := "fnExactAddLen", apart := false, narrowed := true }
def FnExactAddLenUptoSaid : Prop := fnExactAddLenUptoRow.holds Try.pinned (OpenSpec.upto fnExactAddLenSpec)

/-- 'laws.FnExactHex', WHERE WHAT IT READS IS OF BULK AT MOST 1048576: true; the input reads as it did. -/
def fnExactHexUptoRow : OpenClaim := { program := "ytpbjpkkomaopfaa", sum := "2f32c5dd53eb1b257e5b140eea8c0849b7c20c2492dcfb6ea5310402484dc33e", func := "loop.example/g00972/laws.FnExactHex", spec := "fnExactHex", apart := false, narrowed := true }
def FnExactHexUptoSaid : Prop := fnExactHexUptoRow.holds Try.pinned (OpenSpec.upto fnExactHexSpec)

/-- 'laws.FnExactValueOk', WHERE WHAT IT READS IS OF BULK AT MOST 1048576: true; the input reads as it did. -/
def fnExactValueOkUptoRow : OpenClaim := { program := "ytpbjpkkomaopfaa", sum := "2f32c5dd53eb1b257e5b140eea8c0849b7c20c2492dcfb6ea5310402484dc33e", func := "loop.example/g00972/laws.FnExactValueOk", spec := "fnExactValueOk", apart := false, narrowed := true }
def FnExactValueOkUptoSaid : Prop := fnExactValueOkUptoRow.holds Try.pinned (OpenSpec.upto fnExactValueOkSpec)

end Rows
end Go.Proofs.Ytpbjpkkomaopfaa
