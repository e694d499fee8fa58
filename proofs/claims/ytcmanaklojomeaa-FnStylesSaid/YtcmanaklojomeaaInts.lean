/- Contracts over slices of integers: a slice that the call has made itself, read by a loop. No condition. -/
import Derived.Test.YtcmanaklojomeaaCore2
import Derived.Lib.SmallJoins
import Derived.LoopTactic
import Derived.Deep.OwnRows
namespace Go.Proofs.Ytcmanaklojomeaa
open Go.RowKit Go.Deep
set_option linter.unusedVariables false
/-- The element at k, under a name that the walk does not open. -/
def nth (l : List Int) (k : Nat) : Int := l.getD k 0
/-- A list as cells. -/
def arr (l : List Int) : Array Value := (l.map (Value.int .i64)).toArray
theorem arr_size (l : List Int) : (arr l).size = l.length := by simp [arr]
theorem arr_get (l : List Int) (i : Nat) (h : i < l.length) : (arr l)[i]? = some (.int .i64 (nth l i)) := by
  simp [arr, h, nth, List.getD_eq_getElem?_getD]
theorem infoInt : (Try.prog.info? 3).map (fun i => (i.zero, i.size, i.bytes)) = some (some (.int .i64 0), 1, 8) := by kernel_rfl
/-- A slice of the call's own that holds l. -/
def Made (l : List Int) (w : World) (e : Ending) (w' : World) : Prop :=
  ∃ g, e = .returned (.slice (some ⟨g, 0, none⟩) l.length l.length) ∧ w.heap.size ≤ g ∧ w'.heap[g]? = some (.cells (arr l) 3 (0, 0)) ∧ Below w.heap.size w w'
theorem cell_made {W : World} {g : Nat} {l : List Int} {T : TypeId} (h : W.heap[g]? = some (.cells (arr l) T (0, 0))) : ∀ i, i < l.length → W.cell? ⟨g, i, none⟩ = some (.int .i64 (nth l i)) := fun i hi => by
  rw [Joins.cell_of_block h]; exact arr_get l i hi
theorem totalOf_take (l : List Int) (k : Nat) (h : k < l.length) : totalOf (l.take (k + 1)) = totalOf (l.take k) + signed (nth l k) := by
  induction l generalizing k with
  | nil => simp at h
  | cons x l ih =>
    cases k with
    | zero => simp [totalOf, nth]
    | succ k =>
      simp only [List.take_succ_cons, totalOf]
      rw [ih k (by simpa using h)]
      simp [nth, List.getD_eq_getElem?_getD]
      omega
theorem totalOf_bd (l : List Int) (k : Nat) : -(1048576 * (k : Int)) ≤ totalOf (l.take k) ∧ totalOf (l.take k) ≤ 1048576 * (k : Int) := by
  induction l generalizing k with
  | nil => simp [totalOf]; omega
  | cons x l ih =>
    cases k with
    | zero => simp [totalOf]
    | succ k =>
      have h1 := ih k
      have h2 := signed_le x
      simp only [List.take_succ_cons, totalOf]
      omega
end Go.Proofs.Ytcmanaklojomeaa
