/- Plain facts that the laws of chapters 4 to 8 tell: no program in sight. No condition. -/
import Derived.Test.YtcmanaklojomeaaMath
namespace Go.Proofs.Ytcmanaklojomeaa
open Go.RowKit
set_option linter.unusedVariables false
theorem clamp_in {n : Int} (h0 : 0 ≤ n) (h1 : n ≤ 1048576) : clamped n = n := by
  unfold clamped brought
  (repeat' split) <;> omega
/-- The other way of reading turns a row about, and never a column. -/
theorem axes_turn (d : Int) (rtl : Bool) : (isRowB d = true ∧ firstSide (isRowB d) (mainBackB d rtl) = lastSide (isRowB d) (mainBackB d (!rtl)) ∧ lastSide (isRowB d) (mainBackB d rtl) = firstSide (isRowB d) (mainBackB d (!rtl))) ∨
    (isRowB d = false ∧ firstSide (isRowB d) (mainBackB d rtl) = firstSide (isRowB d) (mainBackB d (!rtl)) ∧ lastSide (isRowB d) (mainBackB d rtl) = lastSide (isRowB d) (mainBackB d (!rtl))) := by
  by_cases h1 : d = 1
  · subst h1; cases rtl <;> decide
  · by_cases h3 : d = 3
    · subst h3; cases rtl <;> decide
    · right
      have e1 : (d == 1) = false := by simpa using h1
      have e3 : (d == 3) = false := by simpa using h3
      simp [isRowB, mainBackB, e1, e3]
theorem sides_ne (r b : Bool) : firstSide r b ≠ lastSide r b := by cases r <;> cases b <;> decide
theorem mirrored_in {a b c : Int} (a0 : 0 ≤ a) (a1 : a ≤ 4999) (b0 : 0 ≤ b) (b1 : b ≤ 4999) (c0 : 0 ≤ c) (c1 : c ≤ 499) (d : Bool) : mirrored a (mirrored a b c d) c d = b := by
  unfold mirrored
  cases d
  · rfl
  · simp only [if_true]
    unfold wrap64
    omega
/-- Sides with begin and end exchanged. -/
def turnG (g : Nat → Int) : Nat → Int := fun i => if i = 8 then g 10 else if i = 9 then g 11 else if i = 10 then g 8 else if i = 11 then g 9 else g i
theorem side_turn (g : Nat → Int) (side : Int) (rtl : Bool) : sideK (turnG g) side (!rtl) = sideK g side rtl ∧ sideN (turnG g) side (!rtl) = sideN g side rtl := by
  cases rtl <;> simp [sideK, sideN, turnG]
theorem addEdges_bd (a b : Int) : 0 ≤ addEdges a b ∧ addEdges a b ≤ 1048576 := clamped_le _
theorem frame_ok (a b c d a' b' c' d' : Int) : edgesOkB (addEdges a a') (addEdges b b') (addEdges c c') (addEdges d d') = true := by
  have h1 := addEdges_bd a a'
  have h2 := addEdges_bd b b'
  have h3 := addEdges_bd c c'
  have h4 := addEdges_bd d d'
  unfold edgesOkB inB
  simp [h1, h2, h3, h4]
theorem ratio_wide {h r : Int} (h0 : 0 ≤ h) (h1 : h ≤ 1999) (r0 : 1 ≤ r) (r1 : r ≤ 640) : byRatio r true h = floorDiv (h * r) 64 ∧ 0 ≤ floorDiv (h * r) 64 ∧ floorDiv (h * r) 64 ≤ 19990 ∧ floorDiv (h * r) 64 * 64 ≤ h * r ∧ h * r < floorDiv (h * r) 64 * 64 + 64 ∧ 0 ≤ h * r ∧ h * r ≤ 1279360 := by
  have p0 : 0 ≤ h * r := Int.mul_nonneg h0 (by omega)
  have p1 : h * r ≤ 1999 * 640 := Int.mul_le_mul h1 r1 (by omega) (by omega)
  have e : floorDiv (h * r) 64 = h * r / 64 := rfl
  have b0 : 0 ≤ floorDiv (h * r) 64 := by rw [e]; omega
  have b1 : floorDiv (h * r) 64 ≤ 19990 := by rw [e]; omega
  refine ⟨?_, b0, b1, by rw [e]; omega, by rw [e]; omega, p0, by omega⟩
  unfold byRatio
  rw [if_neg (by omega), if_pos rfl, clamp_in h0 (by omega), clamp_in (show 0 ≤ r by omega) (by omega), clamp_in b0 (by omega)]
theorem ratio_high {n r : Int} (h0 : 0 ≤ n) (h1 : n ≤ 9999) (r0 : 1 ≤ r) (r1 : r ≤ 640) : byRatio r false n = clamped (floorDiv (64 * n) r) := by
  unfold byRatio
  rw [if_neg (by omega), if_neg (by simp), clamp_in h0 (by omega), clamp_in (show 0 ≤ r by omega) (by omega), Int.mul_comm]
theorem ratio_none (n : Int) : byRatio 0 true n = -1 := by unfold byRatio; rw [if_pos (by omega)]
theorem length_all {n : Int} (h0 : 0 ≤ n) (h1 : n ≤ 9999) : lengthOf 2 100 n = n ∧ lengthOf 2 50 n = n / 2 := by
  have k : knownB 2 n = true := by unfold knownB; simp; omega
  unfold lengthOf
  rw [if_pos k, if_neg (by decide), clamp_in h0 (by omega), if_pos k]
  have e1 : brought 100 (-1000000) 1000000 = 100 := by decide
  have e2 : brought 50 (-1000000) 1000000 = 50 := by decide
  rw [e1, e2]
  unfold floorDiv
  constructor <;> omega
theorem known_size (k n base : Int) : (knownB k base = true ∧ 0 ≤ sizeOf k n base) ∨ (knownB k base = false ∧ lengthOf k n base = -1 ∧ sizeOf k n base = -1) := by
  rcases Bool.eq_false_or_eq_true (knownB k base) with h | h
  · left
    refine ⟨h, ?_⟩
    unfold sizeOf
    rw [if_pos h]
    exact (clamped_le _).1
  · right
    unfold sizeOf lengthOf
    simp [h]
end Go.Proofs.Ytcmanaklojomeaa
