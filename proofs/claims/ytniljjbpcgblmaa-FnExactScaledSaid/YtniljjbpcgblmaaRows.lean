/-
  No cell of these rows narrows 'for every input' (looked for: loops, veiled, ifaces, maps, wideKeys, modest, calm, conditions, laid).
  DERIVED. THE GIVEN ROWS OF THIS SEAT. 7 by the template 'for every input the law returns true; each argument reads behind the call as it read before'; 0 by the template 'total and deterministic' (their statements: YtniljjbpcgblmaaTotals.lean).
  GIVEN WITH THE SEED: the statements are not yours to turn. If you find one false, say at which input.
  Laid BY PROGRAM, IN A SANDBOX (cutbox-rows.mjs): the forced cells as the released guide's own fill.sh prints them over the translation 0c4aaa5c86295dd8… (all of the seat's roots in one cut). By AI agents, Wed Nov 11 2026. No macro, syntax, notation, axiom, sorry.
-/
import Derived.Test.YtniljjbpcgblmaaChecked
import GoSem.Claim
import GoSem.ClaimJoined
import GoSem.ClaimMapViews
import Derived.JoinedTies
import Derived.KernelRfl
namespace Go.Proofs.Ytniljjbpcgblmaa
/- THE CELL 'sum', in the pinned program and in every row, IS THE sha256 OF THE DUMP (.gsa) THAT YtniljjbpcgblmaaProg.lean LOADS. Nothing in Lean hashes anything: it is a label: what it is worth is what the hold of that sum in a sandbox is worth. -/
noncomputable def Try.pinned : Pinned := { name := "ytniljjbpcgblmaa", sum := "0c4aaa5c86295dd8280356ecbc1150ffbfc7e32d032b7a787028aa7cbbd63e14", checked := Try.checked }
namespace Rows
def none {H : Type} : Left H := { results := [], args := [] }

/-- 'laws.FnExactWeightsOk': WHATEVER THE INPUT: true; the input reads as it did. -/
def fnExactWeightsOkSpec : ChangeSpec := { name := "fnExactWeightsOk", fn := fun _ => fun
  | [d] => { results := [.lit (.bool true)], args := [d] }
  | _ => none }
def fnExactWeightsOkRow : OpenClaim := { program := "ytniljjbpcgblmaa", sum := "0c4aaa5c86295dd8280356ecbc1150ffbfc7e32d032b7a787028aa7cbbd63e14", func := "loop.example/g00972/laws.FnExactWeightsOk", spec := "fnExactWeightsOk", apart := false }
def FnExactWeightsOkSaid : Prop := fnExactWeightsOkRow.holds Try.pinned (OpenSpec.ofChange fnExactWeightsOkSpec)

/-- ITS FALSE NEIGHBOUR: 'it returns false'. Refute it at one input. -/
def fnExactWeightsOkWrong : ChangeSpec := { name := "fnExactWeightsOk", fn := fun _ => fun
  | [d] => { results := [.lit (.bool false)], args := [d] }
  | _ => none }
def FnExactWeightsOkWrongFalsely : Prop := fnExactWeightsOkRow.holds Try.pinned (OpenSpec.ofChange fnExactWeightsOkWrong)

/-- 'laws.FnExactScaled': WHATEVER THE INPUT: true; the input reads as it did. -/
def fnExactScaledSpec : ChangeSpec := { name := "fnExactScaled", fn := fun _ => fun
  | [d1, d2] => { results := [.lit (.bool true)], args := [d1, d2] }
  | _ => none }
def fnExactScaledRow : OpenClaim := { program := "ytniljjbpcgblmaa", sum := "0c4aaa5c86295dd8280356ecbc1150ffbfc7e32d032b7a787028aa7cbbd63e14", func := "loop.example/g00972/laws.FnExactScaled", spec := "fnExactScaled", apart := false }
def FnExactScaledSaid : Prop := fnExactScaledRow.holds Try.pinned (OpenSpec.ofChange fnExactScaledSpec)

/-- ITS FALSE NEIGHBOUR: 'it returns false'. Refute it at one input. -/
def fnExactScaledWrong : ChangeSpec := { name := "fnExactScaled", fn := fun _ => fun
  | [d1, d2] => { results := [.lit (.bool false)], args := [d1, d2] }
  | _ => none }
def FnExactScaledWrongFalsely : Prop := fnExactScaledRow.holds Try.pinned (OpenSpec.ofChange fnExactScaledWrong)

/-- 'laws.FnExactShares': WHATEVER THE INPUT: true; the input reads as it did. -/
def fnExactSharesSpec : ChangeSpec := { name := "fnExactShares", fn := fun _ => fun
  | [d1, d2] => { results := [.lit (.bool true)], args := [d1, d2] }
  | _ => none }
def fnExactSharesRow : OpenClaim := { program := "ytniljjbpcgblmaa", sum := "0c4aaa5c86295dd8280356ecbc1150ffbfc7e32d032b7a787028aa7cbbd63e14", func := "loop.example/g00972/laws.FnExactShares", spec := "fnExactShares", apart := false }
def FnExactSharesSaid : Prop := fnExactSharesRow.holds Try.pinned (OpenSpec.ofChange fnExactSharesSpec)

/-- ITS FALSE NEIGHBOUR: 'it returns false'. Refute it at one input. -/
def fnExactSharesWrong : ChangeSpec := { name := "fnExactShares", fn := fun _ => fun
  | [d1, d2] => { results := [.lit (.bool false)], args := [d1, d2] }
  | _ => none }
def FnExactSharesWrongFalsely : Prop := fnExactSharesRow.holds Try.pinned (OpenSpec.ofChange fnExactSharesWrong)

/-- 'laws.FnExactShareAt': WHATEVER THE INPUT: true; the input reads as it did. -/
def fnExactShareAtSpec : ChangeSpec := { name := "fnExactShareAt", fn := fun _ => fun
  | [d1, d2, d3] => { results := [.lit (.bool true)], args := [d1, d2, d3] }
  | _ => none }
def fnExactShareAtRow : OpenClaim := { program := "ytniljjbpcgblmaa", sum := "0c4aaa5c86295dd8280356ecbc1150ffbfc7e32d032b7a787028aa7cbbd63e14", func := "loop.example/g00972/laws.FnExactShareAt", spec := "fnExactShareAt", apart := false }
def FnExactShareAtSaid : Prop := fnExactShareAtRow.holds Try.pinned (OpenSpec.ofChange fnExactShareAtSpec)

/-- ITS FALSE NEIGHBOUR: 'it returns false'. Refute it at one input. -/
def fnExactShareAtWrong : ChangeSpec := { name := "fnExactShareAt", fn := fun _ => fun
  | [d1, d2, d3] => { results := [.lit (.bool false)], args := [d1, d2, d3] }
  | _ => none }
def FnExactShareAtWrongFalsely : Prop := fnExactShareAtRow.holds Try.pinned (OpenSpec.ofChange fnExactShareAtWrong)

/-- 'laws.FnExactEvenly': WHATEVER THE INPUT: true; the input reads as it did. -/
def fnExactEvenlySpec : ChangeSpec := { name := "fnExactEvenly", fn := fun _ => fun
  | [d1, d2] => { results := [.lit (.bool true)], args := [d1, d2] }
  | _ => none }
def fnExactEvenlyRow : OpenClaim := { program := "ytniljjbpcgblmaa", sum := "0c4aaa5c86295dd8280356ecbc1150ffbfc7e32d032b7a787028aa7cbbd63e14", func := "loop.example/g00972/laws.FnExactEvenly", spec := "fnExactEvenly", apart := false }
def FnExactEvenlySaid : Prop := fnExactEvenlyRow.holds Try.pinned (OpenSpec.ofChange fnExactEvenlySpec)

/-- ITS FALSE NEIGHBOUR: 'it returns false'. Refute it at one input. -/
def fnExactEvenlyWrong : ChangeSpec := { name := "fnExactEvenly", fn := fun _ => fun
  | [d1, d2] => { results := [.lit (.bool false)], args := [d1, d2] }
  | _ => none }
def FnExactEvenlyWrongFalsely : Prop := fnExactEvenlyRow.holds Try.pinned (OpenSpec.ofChange fnExactEvenlyWrong)

/-- 'laws.FnExactUnhex': WHATEVER THE INPUT: true; the input reads as it did. -/
def fnExactUnhexSpec : ChangeSpec := { name := "fnExactUnhex", fn := fun _ => fun
  | [d] => { results := [.lit (.bool true)], args := [d] }
  | _ => none }
def fnExactUnhexRow : OpenClaim := { program := "ytniljjbpcgblmaa", sum := "0c4aaa5c86295dd8280356ecbc1150ffbfc7e32d032b7a787028aa7cbbd63e14", func := "loop.example/g00972/laws.FnExactUnhex", spec := "fnExactUnhex", apart := false }
def FnExactUnhexSaid : Prop := fnExactUnhexRow.holds Try.pinned (OpenSpec.ofChange fnExactUnhexSpec)

/-- ITS FALSE NEIGHBOUR: 'it returns false'. Refute it at one input. -/
def fnExactUnhexWrong : ChangeSpec := { name := "fnExactUnhex", fn := fun _ => fun
  | [d] => { results := [.lit (.bool false)], args := [d] }
  | _ => none }
def FnExactUnhexWrongFalsely : Prop := fnExactUnhexRow.holds Try.pinned (OpenSpec.ofChange fnExactUnhexWrong)

/-- 'laws.FnExactPartsOf': WHATEVER THE INPUT: true; the input reads as it did. -/
def fnExactPartsOfSpec : ChangeSpec := { name := "fnExactPartsOf", fn := fun _ => fun
  | [d] => { results := [.lit (.bool true)], args := [d] }
  | _ => none }
def fnExactPartsOfRow : OpenClaim := { program := "ytniljjbpcgblmaa", sum := "0c4aaa5c86295dd8280356ecbc1150ffbfc7e32d032b7a787028aa7cbbd63e14", func := "loop.example/g00972/laws.FnExactPartsOf", spec := "fnExactPartsOf", apart := false }
def FnExactPartsOfSaid : Prop := fnExactPartsOfRow.holds Try.pinned (OpenSpec.ofChange fnExactPartsOfSpec)

/-- ITS FALSE NEIGHBOUR: 'it returns false'. Refute it at one input. -/
def fnExactPartsOfWrong : ChangeSpec := { name := "fnExactPartsOf", fn := fun _ => fun
  | [d] => { results := [.lit (.bool false)], args := [d] }
  | _ => none }
def FnExactPartsOfWrongFalsely : Prop := fnExactPartsOfRow.holds Try.pinned (OpenSpec.ofChange fnExactPartsOfWrong)

/- THE SECOND FORM. 'bulk': how many values and letters a reading holds, each counted each time it is reached (what is shared counts as often as it is met; a slice's spare places count too). A statement '..UptoSaid' is the law's where the arguments, and the package variables that the reading takes, are together of bulk at most 1048576: NARROWER than '..Said'. Prove '..Said' where nothing that the law and all that it calls make is longer than what came in: it says more and counts as full. Else prove '..UptoSaid'. A law counts once. -/
mutual
def uptoBulk {H : Type} : DataW H → Nat
  | .lit (.string bytes) => bytes.length + 1
  | .lit _ => 1
  | .nil => 1
  | .ptr d => uptoBulk d + 1
  | .slice elems spare => uptoBulkAll elems + uptoBulkAll spare + 1
  | .agg parts => uptoBulkAll parts + 1
  | .iface _ d => uptoBulk d + 1
  | .map entries => uptoBulkEntries entries + 1
  | .held _ => 1
def uptoBulkAll {H : Type} : List (DataW H) → Nat
  | [] => 0
  | d :: r => uptoBulk d + uptoBulkAll r
def uptoBulkEntries {H : Type} : List (Lit × DataW H) → Nat
  | [] => 0
  | x :: r => uptoBulkEntry x + uptoBulkEntries r
def uptoBulkEntry {H : Type} : Lit × DataW H → Nat
  | (.string bytes, d) => bytes.length + uptoBulk d + 1
  | (_, d) => uptoBulk d + 1
 end
def uptoSmall : (H : Type) → List (DataW H) → Bool := fun _ ds => decide (uptoBulkAll ds ≤ 1048576)
def OpenSpec.upto (s : _root_.Go.ChangeSpec) : _root_.Go.OpenSpec := { _root_.Go.OpenSpec.ofChange s with cond := some uptoSmall }

/-- 'laws.FnExactWeightsOk', WHERE WHAT IT READS IS OF BULK AT MOST 1048576: true; the input reads as it did. -/
def fnExactWeightsOkUptoRow : OpenClaim := { program := "ytniljjbpcgblmaa", sum := "0c4aaa5c86295dd8280356ecbc1150ffbfc7e32d032b7a787028aa7cbbd63e14", func := "loop.example/g00972/laws.FnExactWeightsOk", spec := "fnExactWeightsOk", apart := false, narrowed := true }
def FnExactWeightsOkUptoSaid : Prop := fnExactWeightsOkUptoRow.holds Try.pinned (OpenSpec.upto fnExactWeightsOkSpec)

/-- 'laws.FnExactScaled', WHERE WHAT IT READS IS OF BULK AT MOST 1048576: true; the input reads as it did. -/
def fnExactScaledUptoRow : OpenClaim := { program := "ytniljjbpcgblmaa", sum := "0c4aaa5c86295dd8280356ecbc1150ffbfc7e32d032b7a787028aa7cbbd63e14", func := "loop.example/g00972/laws.FnExactScaled", spec := "fnExactScaled", apart := false, narrowed := true }
def FnExactScaledUptoSaid : Prop := fnExactScaledUptoRow.holds Try.pinned (OpenSpec.upto fnExactScaledSpec)

/-- 'laws.FnExactShares', WHERE WHAT IT READS IS OF BULK AT MOST 1048576: true; the input reads as it did. -/
def fnExactSharesUptoRow : OpenClaim := { program := "ytniljjbpcgblmaa", sum := "0c4aaa5c86295dd8280356ecbc1150ffbfc7e32d032b7a787028aa7cbbd63e14", func := "loop.example/g00972/laws.FnExactShares", spec := "fnExactShares", apart := false, narrowed := true }
def FnExactSharesUptoSaid : Prop := fnExactSharesUptoRow.holds Try.pinned (OpenSpec.upto fnExactSharesSpec)

/-- 'laws.FnExactShareAt', WHERE WHAT IT READS IS OF BULK AT MOST 1048576: true; the input reads as it did. -/
def fnExactShareAtUptoRow : OpenClaim := { program := "ytniljjbpcgblmaa", sum := "0c4aaa5c86295dd8280356ecbc1150ffbfc7e32d032b7a787028aa7cbbd63e14", func := "loop.example/g00972/laws.FnExactShareAt", spec := "fnExactShareAt", apart := false, narrowed := true }
def FnExactShareAtUptoSaid : Prop := fnExactShareAtUptoRow.holds Try.pinned (OpenSpec.upto fnExactShareAtSpec)

/-- 'laws.FnExactEvenly', WHERE WHAT IT READS IS OF BULK AT MOST 1048576: true; the input reads as it did. -/
def fnExactEvenlyUptoRow : OpenClaim := { program := "ytniljjbpcgblmaa", sum := "0c4aaa5c86295dd8280356ecbc1150ffbfc7e32d032b7a787028aa7cbbd63e14", func := "loop.example/g00972/laws.FnExactEvenly", spec := "fnExactEvenly", apart := false, narrowed := true }
def FnExactEvenlyUptoSaid : Prop := fnExactEvenlyUptoRow.holds Try.pinned (OpenSpec.upto fnExactEvenlySpec)

/-- 'laws.FnExactUnhex', WHERE WHAT IT READS IS OF BULK AT MOST 1048576: true; the input reads as it did. -/
def fnExactUnhexUptoRow : OpenClaim := { program := "ytniljjbpcgblmaa", sum := "0c4aaa5c86295dd8280356ecbc1150ffbfc7e32d032b7a787028aa7cbbd63e14", func := "loop.example/g00972/laws.FnExactUnhex", spec := "fnExactUnhex", apart := false, narrowed := true }
def FnExactUnhexUptoSaid : Prop := fnExactUnhexUptoRow.holds Try.pinned (OpenSpec.upto fnExactUnhexSpec)

/-- 'laws.FnExactPartsOf', WHERE WHAT IT READS IS OF BULK AT MOST 1048576: true; the input reads as it did. -/
def fnExactPartsOfUptoRow : OpenClaim := { program := "ytniljjbpcgblmaa", sum := "0c4aaa5c86295dd8280356ecbc1150ffbfc7e32d032b7a787028aa7cbbd63e14", func := "loop.example/g00972/laws.FnExactPartsOf", spec := "fnExactPartsOf", apart := false, narrowed := true }
def FnExactPartsOfUptoSaid : Prop := fnExactPartsOfUptoRow.holds Try.pinned (OpenSpec.upto fnExactPartsOfSpec)

end Rows
end Go.Proofs.Ytniljjbpcgblmaa
