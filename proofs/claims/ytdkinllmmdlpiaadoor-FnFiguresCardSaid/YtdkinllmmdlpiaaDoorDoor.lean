/- What a laid row gives: the table of powers of ten reads as it is laid; strconv.Itoa by the library's contract; Decimal of the program. Condition: the table. -/
import Derived.Test.YtdkinllmmdlpiaaDoorDec
import Derived.Test.YtdkinllmmdlpiaaDoorShelfI
import Derived.Test.YtdkinllmmdlpiaaDoorTie
import Derived.Test.YtdkinllmmdlpiaaDoorCards
import Derived.LaidMore
import Derived.Stop.LaidErr
import Derived.Stop.Joined
import Derived.Lib.LaidTab
import Derived.Lib.SmallJoins
namespace Go.Proofs.YtdkinllmmdlpiaaDoor
open Go.ChangeShapes Go.WideShapes Go.ChangeAt Go.WideMaps Go.WideElems Go.RowKit
set_option linter.unusedVariables false
theorem laid_plain3 {W : World} (h : laidMetH Tryd.prog Rows.fnExactDecimalRow.laid W) : laidMet Tryd.prog Rows.fnExactDecimalRow.laid W := by
  rw [MakeChecks.laidMetH_plain _ _ _ (by kernel_rfl)] at h; exact h
theorem laid_plain5 {W : World} (h : laidMetH Tryd.prog Rows.fnExactReadDecimalRow.laid W) : laidMet Tryd.prog Rows.fnExactReadDecimalRow.laid W := by
  rw [MakeChecks.laidMetH_plain _ _ _ (by kernel_rfl)] at h; exact h
theorem gPow : Tryd.prog.globalNamed "internal/strconv.uint64pow10" = some 2 := by kernel_rfl
theorem pow_datum : (Rows.laid_internal_strconv_uint64pow10 : DataW Unit) = Lib.tabData .u64 Lib.pow10Tab := by kernel_rfl
/-- The table. -/
def Pow10 (W : World) : Prop := Lib.TabIs Tryd.prog W "internal/strconv.uint64pow10" .u64 Lib.pow10Tab
theorem Pow10.below {w W : World} (h : Pow10 w) (hb : Below w.heap.size w W) : Pow10 W := Joins.tab_stays gPow h hb (Nat.le_refl _)
theorem pow_of {W : World} {r : List (String × DataW Unit)} (h : laidMet Tryd.prog (("internal/strconv.uint64pow10", Rows.laid_internal_strconv_uint64pow10) :: r) W) : Pow10 W := by
  rw [pow_datum] at h
  exact Lib.tabIs_of_head gPow (t := (Tryd.prog.globals[2]?.map (·.type)).getD 0) (by kernel_rfl) (n := 20) (e := 72) (by kernel_rfl) Tryd.underlying72 (by kernel_rfl) (by kernel_rfl) h
theorem pow3 {W : World} (h : laidMet Tryd.prog Rows.fnExactDecimalRow.laid W) : Pow10 W := pow_of (laidMet.tail (laidMet.tail h))
theorem pow5 {W : World} (h : laidMet Tryd.prog Rows.fnExactReadDecimalRow.laid W) : Pow10 W := pow_of (laidMet.tail (laidMet.tail h))
theorem below_grow' (w : World) (k : Nat) (os : Array Obj) : Below w.heap.size w (Sort.grow (w.drewN k) os) :=
  ⟨rfl, rfl, rfl, by show w.heap.size ≤ (w.heap ++ os).size; rw [Array.size_append]; omega, fun j hj => by
    show (w.heap ++ os)[j]? = _
    rw [Array.getElem?_append_left hj]⟩
set_option maxHeartbeats 800000 in
theorem decimal_i (n : Int) (hn : In64 n) (w : World) (hT : Pow10 w) :
    Calls Tryd.prog 9 #[.int .i64 n] w fun e w' => e = .returned (.string (decS n)) ∧ Below w.heap.size w w' := by
  obtain ⟨h0, h1⟩ := hn
  have HC := Lib.hid (Tryd.strconv_Itoa n h0 h1 w hT)
  clear h0 h1 hT
  go_enter Tryd.func9, Tryd.ntmps9
  go_wp2_with fail
  refine HC.out.mono ?_
  rintro e w1 ⟨rfl, k, os, rfl⟩
  have HB := Lib.hid (below_grow' w k os)
  go_wp2_with fail
  go_ret
  exact ⟨rfl, HB.out⟩
end Go.Proofs.YtdkinllmmdlpiaaDoor
