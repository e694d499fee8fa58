/- The plain functions that the program computes: integers and bools, no program in sight, no condition. -/
import Derived.WalkKit
namespace Go.Proofs.Ytpbjpkkomaopfaa

def brought (n l m : Int) : Int := if m < l ∨ n < l then l else if m < n then m else n
def clamped (n : Int) : Int := brought n 0 1048576
def signed (n : Int) : Int := brought n (-1048576) 1048576
def addLen (a b : Int) : Int := clamped (signed a + signed b)
def within (n l m : Int) : Int := if 0 ≤ m then (if min n m < l then l else min n m) else (if n < l then l else n)
def floorDiv (a b : Int) : Int := if b < 1 then 0 else a / b
def inB (n l m : Int) : Bool := decide (l ≤ n) && decide (n ≤ m)
def knownB (k base : Int) : Bool := k == 1 || k == 2 && decide (0 ≤ base)
def valueOkB (k n : Int) : Bool := if k = 0 ∨ k = 3 then n == 0 else if k = 1 then inB n (-1048576) 1048576 else if k = 2 then inB n (-1000) 1000 else false
def edgesOkB (a b c d : Int) : Bool := inB a 0 1048576 && inB b 0 1048576 && inB c 0 1048576 && inB d 0 1048576

def orElse (n m : Int) : Int := if n = -1 then m else n
def mirrored (a b c : Int) (d : Bool) : Int := if d then Go.RowKit.wrap64 (Go.RowKit.wrap64 (a - b) - c) else b

/-- The integer kind's bounds, as 'omega' wants them. -/
def In64 (n : Int) : Prop := -9223372036854775808 ≤ n ∧ n ≤ 9223372036854775807
theorem wrap_in {n : Int} (h : In64 n) : Go.RowKit.wrap64 n = n := by
  obtain ⟨h1, h2⟩ := h; unfold Go.RowKit.wrap64; omega
theorem ediv_in {a b : Int} (hb : 1 ≤ b) (ha : In64 a) : In64 (a / b) := by
  obtain ⟨h1, h2⟩ := ha
  refine ⟨Int.le_ediv_of_mul_le (by omega) (by omega), ?_⟩
  rw [← Int.lt_add_one_iff]
  exact Int.ediv_lt_of_lt_mul (by omega) (by omega)
theorem fd_neg {a b : Int} (hb : 1 ≤ b) (h : a.tmod b < 0) (ha : In64 a) : Go.RowKit.wrap64 (a.tdiv b - 1) = floorDiv a b := by
  have e := Int.tmod_add_mul_tdiv a b
  have l := Int.lt_tmod_of_pos a (show 0 < b by omega)
  have u := (Int.ediv_emod_unique (a := a) (b := b) (q := a.tdiv b - 1) (r := a.tmod b + b) (by omega)).mpr ⟨by rw [Int.mul_sub]; omega, by omega, by omega⟩
  rw [← u.1, wrap_in (ediv_in hb ha)]
  unfold floorDiv
  rw [if_neg (by omega)]
theorem fd_pos {a b : Int} (hb : 1 ≤ b) (h : 0 ≤ a.tmod b) : a.tdiv b = floorDiv a b := by
  have e := Int.tmod_add_mul_tdiv a b
  have l := Int.tmod_lt_of_pos a (show 0 < b by omega)
  have u := (Int.ediv_emod_unique (a := a) (b := b) (q := a.tdiv b) (r := a.tmod b) (by omega)).mpr ⟨by omega, by omega, by omega⟩
  unfold floorDiv
  rw [if_neg (by omega), u.1]
theorem floorDiv_in {a b : Int} (ha : In64 a) : In64 (floorDiv a b) := by
  unfold floorDiv
  split
  · exact ⟨by omega, by omega⟩
  · exact ediv_in (by omega) ha

theorem clamped_le (n : Int) : 0 ≤ clamped n ∧ clamped n ≤ 1048576 := by
  unfold clamped brought; constructor <;> (repeat' split) <;> omega
theorem signed_le (n : Int) : -1048576 ≤ signed n ∧ signed n ≤ 1048576 := by
  unfold signed brought; constructor <;> (repeat' split) <;> omega
theorem brought_le (n l m : Int) (h : l ≤ m) : l ≤ brought n l m ∧ brought n l m ≤ m := by
  unfold brought; constructor <;> (repeat' split) <;> omega

end Go.Proofs.Ytpbjpkkomaopfaa
