/-
  No cell of these rows narrows 'for every input' (looked for: loops, veiled, ifaces, maps, wideKeys, modest, calm, conditions, laid).
  DERIVED. THE GIVEN ROWS OF THIS SEAT. 5 by the template 'for every input the law returns true; each argument reads behind the call as it read before'; 0 by the template 'total and deterministic' (their statements: YtcmanaklojomeaaTotals.lean).
  GIVEN WITH THE SEED: the statements are not yours to turn. If you find one false, say at which input.
  Laid BY PROGRAM, IN A SANDBOX (cutbox-rows.mjs): the forced cells as the released guide's own fill.sh prints them over the translation eee1015de9213193… (all of the seat's roots in one cut). By AI agents, Wed Nov 11 2026. No macro, syntax, notation, axiom, sorry.
-/
import Derived.Test.YtcmanaklojomeaaChecked
import GoSem.Claim
import GoSem.ClaimJoined
import GoSem.ClaimMapViews
import Derived.JoinedTies
import Derived.KernelRfl
namespace Go.Proofs.Ytcmanaklojomeaa
/- THE CELL 'sum', in the pinned program and in every row, IS THE sha256 OF THE DUMP (.gsa) THAT YtcmanaklojomeaaProg.lean LOADS. Nothing in Lean hashes anything: it is a label: what it is worth is what the hold of that sum in a sandbox is worth. -/
noncomputable def Try.pinned : Pinned := { name := "ytcmanaklojomeaa", sum := "eee1015de9213193e949f1969ead3f8cde8259c47957de3e68e548200e5e632c", checked := Try.checked }
namespace Rows
def none {H : Type} : Left H := { results := [], args := [] }

/-- 'laws.FnLengths': WHATEVER THE INPUT: true; the input reads as it did. -/
def fnLengthsSpec : ChangeSpec := { name := "fnLengths", fn := fun _ => fun
  | [d] => { results := [.lit (.bool true)], args := [d] }
  | _ => none }
def fnLengthsRow : OpenClaim := { program := "ytcmanaklojomeaa", sum := "eee1015de9213193e949f1969ead3f8cde8259c47957de3e68e548200e5e632c", func := "loop.example/g00972/laws.FnLengths", spec := "fnLengths", apart := false }
def FnLengthsSaid : Prop := fnLengthsRow.holds Try.pinned (OpenSpec.ofChange fnLengthsSpec)

/-- ITS FALSE NEIGHBOUR: 'it returns false'. Refute it at one input. -/
def fnLengthsWrong : ChangeSpec := { name := "fnLengths", fn := fun _ => fun
  | [d] => { results := [.lit (.bool false)], args := [d] }
  | _ => none }
def FnLengthsWrongFalsely : Prop := fnLengthsRow.holds Try.pinned (OpenSpec.ofChange fnLengthsWrong)

/-- 'laws.FnRatio': WHATEVER THE INPUT: true; the input reads as it did. -/
def fnRatioSpec : ChangeSpec := { name := "fnRatio", fn := fun _ => fun
  | [d] => { results := [.lit (.bool true)], args := [d] }
  | _ => none }
def fnRatioRow : OpenClaim := { program := "ytcmanaklojomeaa", sum := "eee1015de9213193e949f1969ead3f8cde8259c47957de3e68e548200e5e632c", func := "loop.example/g00972/laws.FnRatio", spec := "fnRatio", apart := false }
def FnRatioSaid : Prop := fnRatioRow.holds Try.pinned (OpenSpec.ofChange fnRatioSpec)

/-- ITS FALSE NEIGHBOUR: 'it returns false'. Refute it at one input. -/
def fnRatioWrong : ChangeSpec := { name := "fnRatio", fn := fun _ => fun
  | [d] => { results := [.lit (.bool false)], args := [d] }
  | _ => none }
def FnRatioWrongFalsely : Prop := fnRatioRow.holds Try.pinned (OpenSpec.ofChange fnRatioWrong)

/-- 'laws.FnAxes': WHATEVER THE INPUT: true; the input reads as it did. -/
def fnAxesSpec : ChangeSpec := { name := "fnAxes", fn := fun _ => fun
  | [d] => { results := [.lit (.bool true)], args := [d] }
  | _ => none }
def fnAxesRow : OpenClaim := { program := "ytcmanaklojomeaa", sum := "eee1015de9213193e949f1969ead3f8cde8259c47957de3e68e548200e5e632c", func := "loop.example/g00972/laws.FnAxes", spec := "fnAxes", apart := false }
def FnAxesSaid : Prop := fnAxesRow.holds Try.pinned (OpenSpec.ofChange fnAxesSpec)

/-- ITS FALSE NEIGHBOUR: 'it returns false'. Refute it at one input. -/
def fnAxesWrong : ChangeSpec := { name := "fnAxes", fn := fun _ => fun
  | [d] => { results := [.lit (.bool false)], args := [d] }
  | _ => none }
def FnAxesWrongFalsely : Prop := fnAxesRow.holds Try.pinned (OpenSpec.ofChange fnAxesWrong)

/-- 'laws.FnSidesOf': WHATEVER THE INPUT: true; the input reads as it did. -/
def fnSidesOfSpec : ChangeSpec := { name := "fnSidesOf", fn := fun _ => fun
  | [d] => { results := [.lit (.bool true)], args := [d] }
  | _ => none }
def fnSidesOfRow : OpenClaim := { program := "ytcmanaklojomeaa", sum := "eee1015de9213193e949f1969ead3f8cde8259c47957de3e68e548200e5e632c", func := "loop.example/g00972/laws.FnSidesOf", spec := "fnSidesOf", apart := false }
def FnSidesOfSaid : Prop := fnSidesOfRow.holds Try.pinned (OpenSpec.ofChange fnSidesOfSpec)

/-- ITS FALSE NEIGHBOUR: 'it returns false'. Refute it at one input. -/
def fnSidesOfWrong : ChangeSpec := { name := "fnSidesOf", fn := fun _ => fun
  | [d] => { results := [.lit (.bool false)], args := [d] }
  | _ => none }
def FnSidesOfWrongFalsely : Prop := fnSidesOfRow.holds Try.pinned (OpenSpec.ofChange fnSidesOfWrong)

/-- 'laws.FnStyles': WHATEVER THE INPUT: true; the input reads as it did. -/
def fnStylesSpec : ChangeSpec := { name := "fnStyles", fn := fun _ => fun
  | [d] => { results := [.lit (.bool true)], args := [d] }
  | _ => none }
def fnStylesRow : OpenClaim := { program := "ytcmanaklojomeaa", sum := "eee1015de9213193e949f1969ead3f8cde8259c47957de3e68e548200e5e632c", func := "loop.example/g00972/laws.FnStyles", spec := "fnStyles", apart := false }
def FnStylesSaid : Prop := fnStylesRow.holds Try.pinned (OpenSpec.ofChange fnStylesSpec)

/-- ITS FALSE NEIGHBOUR: 'it returns false'. Refute it at one input. -/
def fnStylesWrong : ChangeSpec := { name := "fnStyles", fn := fun _ => fun
  | [d] => { results := [.lit (.bool false)], args := [d] }
  | _ => none }
def FnStylesWrongFalsely : Prop := fnStylesRow.holds Try.pinned (OpenSpec.ofChange fnStylesWrong)

/- THE SECOND FORM. 'bulk': how many values and letters a reading holds, each counted each time it is reached (what is shared counts as often as it is met; a slice's spare places count too). A statement '..UptoSaid' is the law's where the arguments, and the package variables that the reading takes, are together of bulk at most 1048576: NARROWER than '..Said'. Prove '..Said' where nothing that the law and all that it calls make is longer than what came in: it says more and counts as full. Else prove '..UptoSaid'. A law counts once. -/
mutual
def uptoBulk {H : Type} : DataW H → Nat
  | .lit (.string bytes) => bytes.length + 1
  | .lit _ => 1
  | .nil => 1
  | .ptr d => uptoBulk d + 1
  | .slice elems spare => uptoBulkAll elems + uptoBulkAll spare + 1
  | .agg parts => uptoBulkAll parts + 1
  | .iface _ d => uptoBulk d + 1
  | .map entries => uptoBulkEntries entries + 1
  | .held _ => 1
def uptoBulkAll {H : Type} : List (DataW H) → Nat
  | [] => 0
  | d :: r => uptoBulk d + uptoBulkAll r
def uptoBulkEntries {H : Type} : List (Lit × DataW H) → Nat
  | [] => 0
  | x :: r => uptoBulkEntry x + uptoBulkEntries r
def uptoBulkEntry {H : Type} : Lit × DataW H → Nat
  | (.string bytes, d) => bytes.length + uptoBulk d + 1
  | (_, d) => uptoBulk d + 1
 end
def uptoSmall : (H : Type) → List (DataW H) → Bool := fun _ ds => decide (uptoBulkAll ds ≤ 1048576)
def OpenSpec.upto (s : _root_.Go.ChangeSpec) : _root_.Go.OpenSpec := { _root_.Go.OpenSpec.ofChange s with cond := some uptoSmall }

/-- 'laws.FnLengths', WHERE WHAT IT READS IS OF BULK AT MOST 1048576: true; the input reads as it did. -/
def fnLengthsUptoRow : OpenClaim := { program := "ytcmanaklojomeaa", sum := "eee1015de9213193e949f1969ead3f8cde8259c47957de3e68e548200e5e632c", func := "loop.example/g00972/laws.FnLengths", spec := "fnLengths", apart := false, narrowed := true }
def FnLengthsUptoSaid : Prop := fnLengthsUptoRow.holds Try.pinned (OpenSpec.upto fnLengthsSpec)

/-- 'laws.FnRatio', WHERE WHAT IT READS IS OF BULK AT MOST 1048576: true; the input reads as it did. -/
def fnRatioUptoRow : OpenClaim := { program := "ytcmanaklojomeaa", sum := "eee1015de9213193e949f1969ead3f8cde8259c47957de3e68e548200e5e632c", func := "loop.example/g00972/laws.FnRatio", spec := "fnRatio", apart := false, narrowed := true }
def FnRatioUptoSaid : Prop := fnRatioUptoRow.holds Try.pinned (OpenSpec.upto fnRatioSpec)

/-- 'laws.FnAxes', WHERE WHAT IT READS IS OF BULK AT MOST 1048576: true; the input reads as it did. -/
def fnAxesUptoRow : OpenClaim := { program := "ytcmanaklojomeaa", sum := "eee1015de9213193e949f1969ead3f8cde8259c47957de3e68e548200e5e632c", func := "loop.example/g00972/laws.FnAxes", spec := "fnAxes", apart := false, narrowed := true }
def FnAxesUptoSaid : Prop := fnAxesUptoRow.holds Try.pinned (OpenSpec.upto fnAxesSpec)

/-- 'laws.FnSidesOf', WHERE WHAT IT READS IS OF BULK AT MOST 1048576: true; the input reads as it did. -/
def fnSidesOfUptoRow : OpenClaim := { program := "ytcmanaklojomeaa", sum := "eee1015de9213193e949f1969ead3f8cde8259c47957de3e68e548200e5e632c", func := "loop.example/g00972/laws.FnSidesOf", spec := "fnSidesOf", apart := false, narrowed := true }
def FnSidesOfUptoSaid : Prop := fnSidesOfUptoRow.holds Try.pinned (OpenSpec.upto fnSidesOfSpec)

/-- 'laws.FnStyles', WHERE WHAT IT READS IS OF BULK AT MOST 1048576: true; the input reads as it did. -/
def fnStylesUptoRow : OpenClaim := { program := "ytcmanaklojomeaa", sum := "eee1015de9213193e949f1969ead3f8cde8259c47957de3e68e548200e5e632c", func := "loop.example/g00972/laws.FnStyles", spec := "fnStyles", apart := false, narrowed := true }
def FnStylesUptoSaid : Prop := fnStylesUptoRow.holds Try.pinned (OpenSpec.upto fnStylesSpec)

end Rows
end Go.Proofs.Ytcmanaklojomeaa
