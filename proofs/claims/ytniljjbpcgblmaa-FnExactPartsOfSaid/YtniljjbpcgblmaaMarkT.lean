/- The laws' mark as a text: markText gives, for a number, always the same text. No condition. -/
import Derived.Test.YtniljjbpcgblmaaPartsM
namespace Go.Proofs.Ytniljjbpcgblmaa
open Go.RowKit Go.Deep
set_option linter.unusedVariables false
theorem conv1 (w : World) (x : Int) : (convert 46 9 (.slice (some ⟨w.heap.size, 0, none⟩) 1 1)).run Try.prog (w.alloc (.cells #[.int .u8 x] 5)) = .ok (.string (strOf [x])) (w.alloc (.cells #[.int .u8 x] 5)) := by
  rw [run_convert_bytes_string _ _ _ _ _ _ _ Try.underlying46 Try.underlying5 Try.underlying9]
  have hl := run_loadCells_list (P := Try.prog) (w.alloc (.cells #[.int .u8 x] 5)) ⟨w.heap.size, 0, none⟩ ([x].map (Value.int .u8)) (World.news_of_block (heap_alloc_new w _))
  exact run_bytesToString _ ⟨w.heap.size, 0, none⟩ 1 1 [x] hl
theorem figs_step' {n : Nat} (h : n ≠ 0) (acc : ByteArray) : figs n acc = figs (n / 10) (strOf [48 + (n : Int) % 10] ++ acc) := by
  rw [figs_step h]
  congr 2
theorem size_one (x : Int) (acc : ByteArray) : (strOf [x] ++ acc).size = 1 + acc.size := by
  rw [ByteArray.size_append, strOf_size]; rfl
def mtxt (k : Nat) : ByteArray := ⟨#[109]⟩ ++ figs k ⟨#[]⟩
/-- In the midst of the figures. -/
def Figd (k : Nat) (w : World) (n s : Value) (wr : World) : Prop := ∃ (m : Nat) (acc : ByteArray), n = .int .i64 m ∧ s = .string acc ∧ m + acc.size ≤ k ∧ figs m acc = figs k ⟨#[]⟩ ∧ Below w.heap.size w wr
set_option maxHeartbeats 800000 in
theorem markText_l (k : Nat) (h0 : 1 ≤ k) (hk : k ≤ 9999999) (w : World) :
    Calls Try.prog 44 #[.int .i64 k] w fun e w' => e = .returned (.string (mtxt k)) ∧ Below w.heap.size w w' := by
  have hk0 : ¬ k = 0 := by omega
  go_enter Try.func44, Try.ntmps44
  go_wp2
  go_loopw [0, 3] (fun n s wr => Figd k w n s wr) (fun n _ _ => (intOf n).toNat)
  case atStart => exact ⟨k, ⟨#[]⟩, rfl, rfl, Nat.le_refl _, rfl, Below.refl _ _⟩
  case round =>
    obtain ⟨m, acc, rfl, rfl, hm, hf, hb⟩ := hrel
    have HF := Lib.hid hf
    have HB := Lib.hid hb
    clear hf hb
    by_cases hlt : m = 0
    · subst hlt
      have HM : Hid (mtxt k = ⟨#[109]⟩ ++ acc) := Lib.hid (by rw [mtxt, ← HF.out, figs_zero])
      have hz : ¬ 9223372036854775807 < 1 + acc.size := by omega
      go_wp2
      go_ret
      exact ⟨by rw [HM.out]; rfl, HB.out⟩
    · have HS := Lib.hid (figs_step' hlt acc)
      have HZ := Lib.hid (size_one (48 + (m : Int) % 10) acc)
      have hpos : 0 < m := by omega
      have hcv := conv1 wr (48 + (m : Int) % 10)
      have hz : ¬ 9223372036854775807 < (strOf [48 + (m : Int) % 10]).size + acc.size := by rw [strOf_size]; simp; omega
      go_wp2
      go_roundw
      case rel => exact ⟨m / 10, _, by simp, rfl, by rw [HZ.out]; omega, by rw [← HS.out]; exact HF.out, bel_alloc HB.out _⟩
      case measure => simp [intOf]; omega
end Go.Proofs.Ytniljjbpcgblmaa
