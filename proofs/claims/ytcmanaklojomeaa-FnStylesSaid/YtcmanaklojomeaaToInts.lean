/- The laws' copy of a slice of integers that came in. No condition. -/
import Derived.Test.YtcmanaklojomeaaInts
namespace Go.Proofs.Ytcmanaklojomeaa
open Go.RowKit Go.Deep
set_option linter.unusedVariables false
/-- What is known of a slice of integers that came in. -/
def IsRow (k : IntKind) (w : World) (a : Option Addr) (len cap : Nat) (zs : List Int) : Prop :=
  (a = none ∧ len = 0 ∧ cap = 0 ∧ zs = []) ∨
  ∃ x, a = some x ∧ len ≤ cap ∧ cap ≤ maxLen ∧ zs.length = cap ∧ (∀ i, i < zs.length → w.cell? (x.add i) = some (.int k (zs.getD i 0))) ∧ ∀ n ∈ zs, (Lit.int k n).wf = true
/-- The elements, readable at a block: what the copy needs. -/
def Reads (w : World) (a : Option Addr) (l : List Int) : Prop :=
  l = [] ∧ a = none ∨ ∃ b off, a = some ⟨b, off, none⟩ ∧ ∀ i, i < l.length → w.cell? ⟨b, off + i, none⟩ = some (.int .i64 (nth l i))
theorem take_len {k : IntKind} {w : World} {a : Option Addr} {len cap : Nat} {zs : List Int} (h : IsRow k w a len cap zs) : (zs.take len).length = len := by
  rcases h with ⟨rfl, rfl, rfl, rfl⟩ | ⟨x, rfl, hl, hm, hz, _, _⟩
  · rfl
  · simp; omega
theorem reads_of_row {w : World} {a : Option Addr} {len cap : Nat} {zs : List Int} (h : IsRow .i64 w a len cap zs) : (∃ b off, a = some ⟨b, off, none⟩ ∧ ∀ i, i < len → w.cell? ⟨b, off + i, none⟩ = some (.int .i64 (nth (zs.take len) i))) ∨ len = 0 := by
  rcases h with ⟨rfl, rfl, rfl, rfl⟩ | ⟨x, rfl, hl, hm, hz, hcell, _⟩
  · exact Or.inr rfl
  · by_cases h0 : len = 0
    · exact Or.inr h0
    · left
      obtain ⟨b, off, spot⟩ := x
      have hc := hcell 0 (by omega)
      have hspot : spot = none := by simpa [Addr.add] using World.cell?_spot hc
      subst hspot
      refine ⟨b, off, rfl, fun i hi => ?_⟩
      have := hcell i (by omega)
      rw [show (⟨b, off, none⟩ : Addr).add i = ⟨b, off + i, none⟩ from Addr.add_mid b off i] at this
      rw [this, nth, List.getD_eq_getElem?_getD, List.getD_eq_getElem?_getD, List.getElem?_take_of_lt hi]
def Rd (w : World) (a : Option Addr) (l : List Int) : Prop := (∃ b off, a = some ⟨b, off, none⟩ ∧ ∀ i, i < l.length → w.cell? ⟨b, off + i, none⟩ = some (.int .i64 (nth l i))) ∨ l.length = 0
theorem Rd.of_row {w : World} {a : Option Addr} {len cap : Nat} {zs : List Int} (h : IsRow .i64 w a len cap zs) : ∃ l : List Int, l.length = len ∧ Rd w a l := by
  refine ⟨zs.take len, take_len h, ?_⟩
  rcases reads_of_row h with ⟨b, off, ha, hc⟩ | h0
  · exact Or.inl ⟨b, off, ha, fun i hi => hc i (by rwa [take_len h] at hi)⟩
  · exact Or.inr (by rw [take_len h]; exact h0)
theorem Rd.below {w W : World} {a : Option Addr} {l : List Int} (h : Rd w a l) (hb : Below w.heap.size w W) : Rd W a l := by
  rcases h with ⟨b, off, ha, hc⟩ | h0
  · exact Or.inl ⟨b, off, ha, fun i hi => (hb.cell (World.block_lt_of_cell? _ _ (hc i hi))).trans (hc i hi)⟩
  · exact Or.inr h0
/-- In the midst of the copy. -/
structure Cp (l : List Int) (w : World) (g k : Nat) (W : World) : Prop where
  bel : Below w.heap.size w W
  arr : ∃ A, W.heap[g]? = some (.cells A 3 (0, 0)) ∧ A.size = l.length ∧ ∀ j, j < k → A[j]? = some (.int .i64 (nth l j))
theorem Cp.cell {l : List Int} {w W : World} {g k : Nat} (h : Cp l w g k W) (j : Nat) (hj : j < l.length) : ∃ v, W.cell? ⟨g, j, none⟩ = some v := by
  obtain ⟨A, hT, hA, _⟩ := h.arr
  exact ⟨A[j]'(by omega), by rw [Joins.cell_of_block hT]; simp [hA, hj]⟩
theorem Cp.froz {l : List Int} {w W : World} {g k : Nat} (h : Cp l w g k W) (j : Nat) : W.frozen? ⟨g, j, none⟩ = false := by
  obtain ⟨A, hT, _, _⟩ := h.arr
  exact Joins.unfrozen_of_block hT j
theorem Cp.set {l : List Int} {w W : World} {g k : Nat} (h : Cp l w g k W) (hg : w.heap.size ≤ g) (hk : k < l.length) : Cp l w g (k + 1) (W.setCell ⟨g, k, none⟩ (.int .i64 (nth l k))) := by
  refine ⟨Below.setCell h.bel hg _, ?_⟩
  obtain ⟨A, hT, hA, hj⟩ := h.arr
  refine ⟨A.setIfInBounds k (.int .i64 (nth l k)), Joins.block_setCell hT _, by simpa using hA, ?_⟩
  intro j hj'
  by_cases hjk : j = k
  · subst hjk
    rw [Array.getElem?_setIfInBounds_self_of_lt (by omega)]
  · rw [Array.getElem?_setIfInBounds_ne (by omega)]
    exact hj j (by omega)
theorem Cp.full {l : List Int} {w W : World} {g : Nat} (h : Cp l w g l.length W) : W.heap[g]? = some (.cells (Go.Proofs.Ytcmanaklojomeaa.arr l) 3 (0, 0)) := by
  obtain ⟨A, hT, hA, hj⟩ := h.arr
  rw [hT]
  congr 2
  apply Array.ext_getElem?
  intro i
  by_cases hi : i < l.length
  · rw [hj i hi, arr_get l i hi]
  · rw [Array.getElem?_eq_none (by omega), Array.getElem?_eq_none (by rw [arr_size]; omega)]
theorem Cp.start (l : List Int) (w : World) (A : Array Value) (hA : A.size = l.length) : Cp l w w.heap.size 0 (w.alloc (.cells A 3)) :=
  ⟨bel_alloc (Below.refl _ _) _, A, heap_alloc_new _ _, hA, fun j hj => by omega⟩
/-- A slice of the call's own lies on. -/
theorem arr_below {w W : World} {g : Nat} {l : List Int} {T : TypeId} (hA : w.heap[g]? = some (.cells (arr l) T (0, 0))) (hb : Below w.heap.size w W) : W.heap[g]? = some (.cells (arr l) T (0, 0)) := by
  rw [hb.block _ (Array.getElem?_eq_some_iff.mp hA).1]; exact hA
end Go.Proofs.Ytcmanaklojomeaa
