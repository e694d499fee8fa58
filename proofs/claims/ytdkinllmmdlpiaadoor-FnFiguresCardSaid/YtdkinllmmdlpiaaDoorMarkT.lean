/- The laws' mark as a text: markText gives, for a number, always the same text. No condition. -/
import Derived.Test.YtdkinllmmdlpiaaDoorPartsM
namespace Go.Proofs.YtdkinllmmdlpiaaDoor
open Go.RowKit Go.Deep
set_option linter.unusedVariables false
theorem conv1 (w : World) (x : Int) : (convert 33 9 (.slice (some ⟨w.heap.size, 0, none⟩) 1 1)).run Tryd.prog (w.alloc (.cells #[.int .u8 x] 5)) = .ok (.string (strOf [x])) (w.alloc (.cells #[.int .u8 x] 5)) := by
  rw [run_convert_bytes_string _ _ _ _ _ _ _ Tryd.underlying33 Tryd.underlying5 Tryd.underlying9]
  have hl := run_loadCells_list (P := Tryd.prog) (w.alloc (.cells #[.int .u8 x] 5)) ⟨w.heap.size, 0, none⟩ ([x].map (Value.int .u8)) (World.news_of_block (heap_alloc_new w _))
  exact run_bytesToString _ ⟨w.heap.size, 0, none⟩ 1 1 [x] hl
theorem figs_step' {n : Nat} (h : n ≠ 0) (acc : ByteArray) : figs n acc = figs (n / 10) (strOf [48 + (n : Int) % 10] ++ acc) := by
  rw [figs_step h]
  congr 2
theorem size_one (x : Int) (acc : ByteArray) : (strOf [x] ++ acc).size = 1 + acc.size := by
  rw [ByteArray.size_append, strOf_size]; rfl
def mtxt (k : Nat) : ByteArray := ⟨#[109]⟩ ++ figs k ⟨#[]⟩
/-- In the midst of the figures. -/
def Figd (k : Nat) (w : World) (n s : Value) (wr : World) : Prop := ∃ (m : Nat) (acc : ByteArray), n = .int .i64 m ∧ s = .string acc ∧ m + acc.size ≤ k ∧ figs m acc = figs k ⟨#[]⟩ ∧ Below w.heap.size w wr
end Go.Proofs.YtdkinllmmdlpiaaDoor
