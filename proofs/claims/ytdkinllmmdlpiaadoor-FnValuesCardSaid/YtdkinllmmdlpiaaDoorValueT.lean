/- Contracts of ValueText. Condition: the table of powers of ten. -/
import Derived.Test.YtdkinllmmdlpiaaDoorDoor
import Derived.Test.YtdkinllmmdlpiaaDoorCore
namespace Go.Proofs.YtdkinllmmdlpiaaDoor
open Go.ChangeShapes Go.WideShapes Go.ChangeAt Go.WideMaps Go.WideElems Go.RowKit
set_option linter.unusedVariables false
def valT (k n : Int) : ByteArray :=
  if valueOkB k n = true then (if k = 1 then decS n else if k = 2 then decS n ++ ⟨#[37]⟩ else if k = 3 then ⟨#[97, 117, 116, 111]⟩ else ⟨#[110, 111, 110, 101]⟩) else ⟨#[63]⟩
theorem dec_small {n : Int} (h0 : -1000 ≤ n) (h1 : n ≤ 1000) : (decS n).size ≤ 5 := by
  have e : (decS n).size = (Lib.itoa n).length := by show (Lib.itoa n).toArray.size = _; simp
  rw [e]
  unfold Lib.itoa
  split
  · have := dec_len 3 n.natAbs (by have : (10 : Nat) ^ 4 = 10000 := by decide
                                   omega)
    simp; omega
  · have := dec_len 3 n.toNat (by have : (10 : Nat) ^ 4 = 10000 := by decide
                                  omega)
    omega
theorem ok_two {n : Int} (h : valueOkB 2 n = true) : -1000 ≤ n ∧ n ≤ 1000 := by
  unfold valueOkB inB at h
  simpa using h
theorem ok_kind {k n : Int} (h : valueOkB k n = true) : k = 1 ∨ k = 2 ∨ k = 3 ∨ k = 0 := by
  unfold valueOkB at h
  (repeat' split at h) <;> first | omega | cases h
set_option maxHeartbeats 1600000 in
theorem valueText_s (k n : Int) (hn : In64 n) (w : World) :
    Calls Tryd.prog 12 #[.agg #[.int .i64 k, .int .i64 n]] w fun e w' => e = .returned (.string (valT k n)) ∧ Below w.heap.size w w' := by
  have HN := Lib.hid hn
  clear hn
  rcases Bool.eq_false_or_eq_true (valueOkB k n) with hv | hv
  · have HK := ok_kind hv
    rcases HK with rfl | rfl | rfl | rfl
    · have HE : Hid (valT 1 n = decS n) := Lib.hid (by unfold valT; rw [if_pos hv]; rfl)
      go_enter Tryd.func12, Tryd.ntmps12
      go_wp2_with fail
      refine (valueOk_s 1 n _).mono ?_
      rintro e w1 ⟨rfl, hb⟩
      have B1 := Lib.hid (bel_call (bel_alloc (Below.refl _ _) _) hb)
      have k0 : w1.cell? ⟨w.heap.size, 0, none⟩ = some (.int .i64 1) := (hb.cell (p := ⟨w.heap.size, 0, none⟩) (by simp)).trans (by rw [Joins.cell_of_block (heap_alloc_new _ _)]; rfl)
      have k1 : w1.cell? ⟨w.heap.size, 1, none⟩ = some (.int .i64 n) := (hb.cell (p := ⟨w.heap.size, 1, none⟩) (by simp)).trans (by rw [Joins.cell_of_block (heap_alloc_new _ _)]; rfl)
      clear hb
      go_wp2_with fail
      refine (decimal_s n HN.out _).mono ?_
      rintro e w2 ⟨rfl, hb⟩
      have B2 := Lib.hid (bel_call B1.out hb)
      clear hb
      go_wp2_with fail
      go_ret
      exact ⟨by rw [HE.out]; rfl, B2.out⟩
    · have HE : Hid (valT 2 n = decS n ++ ⟨#[37]⟩) := Lib.hid (by unfold valT; rw [if_pos hv]; rfl)
      have hz : ¬ 9223372036854775807 < (decS n).size + 1 := by have := ok_two hv; have := dec_small this.1 this.2; omega
      go_enter Tryd.func12, Tryd.ntmps12
      go_wp2_with fail
      refine (valueOk_s 2 n _).mono ?_
      rintro e w1 ⟨rfl, hb⟩
      have B1 := Lib.hid (bel_call (bel_alloc (Below.refl _ _) _) hb)
      have k0 : w1.cell? ⟨w.heap.size, 0, none⟩ = some (.int .i64 2) := (hb.cell (p := ⟨w.heap.size, 0, none⟩) (by simp)).trans (by rw [Joins.cell_of_block (heap_alloc_new _ _)]; rfl)
      have k1 : w1.cell? ⟨w.heap.size, 1, none⟩ = some (.int .i64 n) := (hb.cell (p := ⟨w.heap.size, 1, none⟩) (by simp)).trans (by rw [Joins.cell_of_block (heap_alloc_new _ _)]; rfl)
      clear hb
      go_wp2_with fail
      refine (decimal_s n HN.out _).mono ?_
      rintro e w2 ⟨rfl, hb⟩
      have B2 := Lib.hid (bel_call B1.out hb)
      clear hb
      go_wp2_with fail
      go_ret
      exact ⟨by rw [HE.out]; rfl, B2.out⟩
    · have HE : Hid (valT 3 n = ⟨#[97, 117, 116, 111]⟩) := Lib.hid (by unfold valT; rw [if_pos hv]; rfl)
      go_enter Tryd.func12, Tryd.ntmps12
      go_wp2_with fail
      refine (valueOk_s 3 n _).mono ?_
      rintro e w1 ⟨rfl, hb⟩
      have B1 := Lib.hid (bel_call (bel_alloc (Below.refl _ _) _) hb)
      have k0 : w1.cell? ⟨w.heap.size, 0, none⟩ = some (.int .i64 3) := (hb.cell (p := ⟨w.heap.size, 0, none⟩) (by simp)).trans (by rw [Joins.cell_of_block (heap_alloc_new _ _)]; rfl)
      have k1 : w1.cell? ⟨w.heap.size, 1, none⟩ = some (.int .i64 n) := (hb.cell (p := ⟨w.heap.size, 1, none⟩) (by simp)).trans (by rw [Joins.cell_of_block (heap_alloc_new _ _)]; rfl)
      clear hb
      go_wp2_with fail
      go_ret
      exact ⟨by rw [HE.out]; rfl, B1.out⟩
    · have HE : Hid (valT 0 n = ⟨#[110, 111, 110, 101]⟩) := Lib.hid (by unfold valT; rw [if_pos hv]; rfl)
      go_enter Tryd.func12, Tryd.ntmps12
      go_wp2_with fail
      refine (valueOk_s 0 n _).mono ?_
      rintro e w1 ⟨rfl, hb⟩
      have B1 := Lib.hid (bel_call (bel_alloc (Below.refl _ _) _) hb)
      have k0 : w1.cell? ⟨w.heap.size, 0, none⟩ = some (.int .i64 0) := (hb.cell (p := ⟨w.heap.size, 0, none⟩) (by simp)).trans (by rw [Joins.cell_of_block (heap_alloc_new _ _)]; rfl)
      have k1 : w1.cell? ⟨w.heap.size, 1, none⟩ = some (.int .i64 n) := (hb.cell (p := ⟨w.heap.size, 1, none⟩) (by simp)).trans (by rw [Joins.cell_of_block (heap_alloc_new _ _)]; rfl)
      clear hb
      go_wp2_with fail
      go_ret
      exact ⟨by rw [HE.out]; rfl, B1.out⟩
  · have HE : Hid (valT k n = ⟨#[63]⟩) := Lib.hid (by unfold valT; rw [hv]; rfl)
    go_enter Tryd.func12, Tryd.ntmps12
    go_wp2_with fail
    refine (valueOk_s k n _).mono ?_
    rintro e w1 ⟨rfl, hb⟩
    have B1 := Lib.hid (bel_call (bel_alloc (Below.refl _ _) _) hb)
    have k0 : w1.cell? ⟨w.heap.size, 0, none⟩ = some (.int .i64 k) := (hb.cell (p := ⟨w.heap.size, 0, none⟩) (by simp)).trans (by rw [Joins.cell_of_block (heap_alloc_new _ _)]; rfl)
    have k1 : w1.cell? ⟨w.heap.size, 1, none⟩ = some (.int .i64 n) := (hb.cell (p := ⟨w.heap.size, 1, none⟩) (by simp)).trans (by rw [Joins.cell_of_block (heap_alloc_new _ _)]; rfl)
    clear hb
    go_wp2_with fail
    go_ret
    exact ⟨by rw [HE.out]; rfl, B1.out⟩
set_option maxHeartbeats 1600000 in
theorem valueText_i (k n : Int) (hn : In64 n) (w : World) (hT : Pow10 w) :
    Calls Tryd.prog 14 #[.agg #[.int .i64 k, .int .i64 n]] w fun e w' => e = .returned (.string (valT k n)) ∧ Below w.heap.size w w' := by
  have HN := Lib.hid hn
  clear hn
  have HT := Lib.hid hT
  clear hT
  rcases Bool.eq_false_or_eq_true (valueOkB k n) with hv | hv
  · have HK := ok_kind hv
    rcases HK with rfl | rfl | rfl | rfl
    · have HE : Hid (valT 1 n = decS n) := Lib.hid (by unfold valT; rw [if_pos hv]; rfl)
      go_enter Tryd.func14, Tryd.ntmps14
      go_wp2_with fail
      refine (valueOk_i 1 n _).mono ?_
      rintro e w1 ⟨rfl, hb⟩
      have B1 := Lib.hid (bel_call (bel_alloc (Below.refl _ _) _) hb)
      have k0 : w1.cell? ⟨w.heap.size, 0, none⟩ = some (.int .i64 1) := (hb.cell (p := ⟨w.heap.size, 0, none⟩) (by simp)).trans (by rw [Joins.cell_of_block (heap_alloc_new _ _)]; rfl)
      have k1 : w1.cell? ⟨w.heap.size, 1, none⟩ = some (.int .i64 n) := (hb.cell (p := ⟨w.heap.size, 1, none⟩) (by simp)).trans (by rw [Joins.cell_of_block (heap_alloc_new _ _)]; rfl)
      clear hb
      go_wp2_with fail
      refine (decimal_i n HN.out _ (HT.out.below B1.out)).mono ?_
      rintro e w2 ⟨rfl, hb⟩
      have B2 := Lib.hid (bel_call B1.out hb)
      clear hb
      go_wp2_with fail
      go_ret
      exact ⟨by rw [HE.out]; rfl, B2.out⟩
    · have HE : Hid (valT 2 n = decS n ++ ⟨#[37]⟩) := Lib.hid (by unfold valT; rw [if_pos hv]; rfl)
      have hz : ¬ 9223372036854775807 < (decS n).size + 1 := by have := ok_two hv; have := dec_small this.1 this.2; omega
      go_enter Tryd.func14, Tryd.ntmps14
      go_wp2_with fail
      refine (valueOk_i 2 n _).mono ?_
      rintro e w1 ⟨rfl, hb⟩
      have B1 := Lib.hid (bel_call (bel_alloc (Below.refl _ _) _) hb)
      have k0 : w1.cell? ⟨w.heap.size, 0, none⟩ = some (.int .i64 2) := (hb.cell (p := ⟨w.heap.size, 0, none⟩) (by simp)).trans (by rw [Joins.cell_of_block (heap_alloc_new _ _)]; rfl)
      have k1 : w1.cell? ⟨w.heap.size, 1, none⟩ = some (.int .i64 n) := (hb.cell (p := ⟨w.heap.size, 1, none⟩) (by simp)).trans (by rw [Joins.cell_of_block (heap_alloc_new _ _)]; rfl)
      clear hb
      go_wp2_with fail
      refine (decimal_i n HN.out _ (HT.out.below B1.out)).mono ?_
      rintro e w2 ⟨rfl, hb⟩
      have B2 := Lib.hid (bel_call B1.out hb)
      clear hb
      go_wp2_with fail
      go_ret
      exact ⟨by rw [HE.out]; rfl, B2.out⟩
    · have HE : Hid (valT 3 n = ⟨#[97, 117, 116, 111]⟩) := Lib.hid (by unfold valT; rw [if_pos hv]; rfl)
      go_enter Tryd.func14, Tryd.ntmps14
      go_wp2_with fail
      refine (valueOk_i 3 n _).mono ?_
      rintro e w1 ⟨rfl, hb⟩
      have B1 := Lib.hid (bel_call (bel_alloc (Below.refl _ _) _) hb)
      have k0 : w1.cell? ⟨w.heap.size, 0, none⟩ = some (.int .i64 3) := (hb.cell (p := ⟨w.heap.size, 0, none⟩) (by simp)).trans (by rw [Joins.cell_of_block (heap_alloc_new _ _)]; rfl)
      have k1 : w1.cell? ⟨w.heap.size, 1, none⟩ = some (.int .i64 n) := (hb.cell (p := ⟨w.heap.size, 1, none⟩) (by simp)).trans (by rw [Joins.cell_of_block (heap_alloc_new _ _)]; rfl)
      clear hb
      go_wp2_with fail
      go_ret
      exact ⟨by rw [HE.out]; rfl, B1.out⟩
    · have HE : Hid (valT 0 n = ⟨#[110, 111, 110, 101]⟩) := Lib.hid (by unfold valT; rw [if_pos hv]; rfl)
      go_enter Tryd.func14, Tryd.ntmps14
      go_wp2_with fail
      refine (valueOk_i 0 n _).mono ?_
      rintro e w1 ⟨rfl, hb⟩
      have B1 := Lib.hid (bel_call (bel_alloc (Below.refl _ _) _) hb)
      have k0 : w1.cell? ⟨w.heap.size, 0, none⟩ = some (.int .i64 0) := (hb.cell (p := ⟨w.heap.size, 0, none⟩) (by simp)).trans (by rw [Joins.cell_of_block (heap_alloc_new _ _)]; rfl)
      have k1 : w1.cell? ⟨w.heap.size, 1, none⟩ = some (.int .i64 n) := (hb.cell (p := ⟨w.heap.size, 1, none⟩) (by simp)).trans (by rw [Joins.cell_of_block (heap_alloc_new _ _)]; rfl)
      clear hb
      go_wp2_with fail
      go_ret
      exact ⟨by rw [HE.out]; rfl, B1.out⟩
  · have HE : Hid (valT k n = ⟨#[63]⟩) := Lib.hid (by unfold valT; rw [hv]; rfl)
    go_enter Tryd.func14, Tryd.ntmps14
    go_wp2_with fail
    refine (valueOk_i k n _).mono ?_
    rintro e w1 ⟨rfl, hb⟩
    have B1 := Lib.hid (bel_call (bel_alloc (Below.refl _ _) _) hb)
    have k0 : w1.cell? ⟨w.heap.size, 0, none⟩ = some (.int .i64 k) := (hb.cell (p := ⟨w.heap.size, 0, none⟩) (by simp)).trans (by rw [Joins.cell_of_block (heap_alloc_new _ _)]; rfl)
    have k1 : w1.cell? ⟨w.heap.size, 1, none⟩ = some (.int .i64 n) := (hb.cell (p := ⟨w.heap.size, 1, none⟩) (by simp)).trans (by rw [Joins.cell_of_block (heap_alloc_new _ _)]; rfl)
    clear hb
    go_wp2_with fail
    go_ret
    exact ⟨by rw [HE.out]; rfl, B1.out⟩
end Go.Proofs.YtdkinllmmdlpiaaDoor
