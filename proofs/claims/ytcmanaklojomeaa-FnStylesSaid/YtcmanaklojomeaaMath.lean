/- The plain functions that the program computes: integers and bools, no program in sight, no condition. -/
import Derived.WalkKit
import Derived.IntWalk
namespace Go.Proofs.Ytcmanaklojomeaa

def brought (n l m : Int) : Int := if m < l ∨ n < l then l else if m < n then m else n
def clamped (n : Int) : Int := brought n 0 1048576
def signed (n : Int) : Int := brought n (-1048576) 1048576
def addLen (a b : Int) : Int := clamped (signed a + signed b)
def within (n l m : Int) : Int := if 0 ≤ m then (if min n m < l then l else min n m) else (if n < l then l else n)
def floorDiv (a b : Int) : Int := if b < 1 then 0 else a / b
def inB (n l m : Int) : Bool := decide (l ≤ n) && decide (n ≤ m)
def knownB (k base : Int) : Bool := k == 1 || k == 2 && decide (0 ≤ base)
def valueOkB (k n : Int) : Bool := if k = 0 ∨ k = 3 then n == 0 else if k = 1 then inB n (-1048576) 1048576 else if k = 2 then inB n (-1000) 1000 else false
def edgesOkB (a b c d : Int) : Bool := inB a 0 1048576 && inB b 0 1048576 && inB c 0 1048576 && inB d 0 1048576

def orElse (n m : Int) : Int := if n = -1 then m else n
def mirrored (a b c : Int) (d : Bool) : Int := if d then Go.RowKit.wrap64 (Go.RowKit.wrap64 (a - b) - c) else b

/-- The integer kind's bounds, as 'omega' wants them. -/
def In64 (n : Int) : Prop := -9223372036854775808 ≤ n ∧ n ≤ 9223372036854775807
theorem wrap_in {n : Int} (h : In64 n) : Go.RowKit.wrap64 n = n := by
  obtain ⟨h1, h2⟩ := h; unfold Go.RowKit.wrap64; omega
theorem ediv_in {a b : Int} (hb : 1 ≤ b) (ha : In64 a) : In64 (a / b) := by
  obtain ⟨h1, h2⟩ := ha
  refine ⟨Int.le_ediv_of_mul_le (by omega) (by omega), ?_⟩
  rw [← Int.lt_add_one_iff]
  exact Int.ediv_lt_of_lt_mul (by omega) (by omega)
theorem fd_neg {a b : Int} (hb : 1 ≤ b) (h : a.tmod b < 0) (ha : In64 a) : Go.RowKit.wrap64 (a.tdiv b - 1) = floorDiv a b := by
  have e := Int.tmod_add_mul_tdiv a b
  have l := Int.lt_tmod_of_pos a (show 0 < b by omega)
  have u := (Int.ediv_emod_unique (a := a) (b := b) (q := a.tdiv b - 1) (r := a.tmod b + b) (by omega)).mpr ⟨by rw [Int.mul_sub]; omega, by omega, by omega⟩
  rw [← u.1, wrap_in (ediv_in hb ha)]
  unfold floorDiv
  rw [if_neg (by omega)]
theorem fd_pos {a b : Int} (hb : 1 ≤ b) (h : 0 ≤ a.tmod b) : a.tdiv b = floorDiv a b := by
  have e := Int.tmod_add_mul_tdiv a b
  have l := Int.tmod_lt_of_pos a (show 0 < b by omega)
  have u := (Int.ediv_emod_unique (a := a) (b := b) (q := a.tdiv b) (r := a.tmod b) (by omega)).mpr ⟨by omega, by omega, by omega⟩
  unfold floorDiv
  rw [if_neg (by omega), u.1]
theorem floorDiv_in {a b : Int} (ha : In64 a) : In64 (floorDiv a b) := by
  unfold floorDiv
  split
  · exact ⟨by omega, by omega⟩
  · exact ediv_in (by omega) ha

theorem clamped_le (n : Int) : 0 ≤ clamped n ∧ clamped n ≤ 1048576 := by
  unfold clamped brought; constructor <;> (repeat' split) <;> omega
theorem signed_le (n : Int) : -1048576 ≤ signed n ∧ signed n ≤ 1048576 := by
  unfold signed brought; constructor <;> (repeat' split) <;> omega
theorem brought_le (n l m : Int) (h : l ≤ m) : l ≤ brought n l m ∧ brought n l m ≤ m := by
  unfold brought; constructor <;> (repeat' split) <;> omega

def part (n k all : Int) : Int := floorDiv (signed n * brought k 0 2147483647) (brought all 0 2147483647)
def lengthOf (k n base : Int) : Int := if knownB k base = true then (if k = 1 then n else floorDiv (clamped base * brought n (-1000000) 1000000) 100) else -1
def sizeOf (k n base : Int) : Int := if knownB k base = true then clamped (lengthOf k n base) else -1
def addEdges (a b : Int) : Int := clamped (clamped a + clamped b)
def sideK (g : Nat → Int) (side : Int) (rtl : Bool) : Int :=
  if side = 1 then g 2 else if side = 3 then g 6
  else if side = 0 then (if g (if rtl then 10 else 8) = 0 then g 0 else g (if rtl then 10 else 8))
  else if side = 2 then (if g (if rtl then 8 else 10) = 0 then g 4 else g (if rtl then 8 else 10)) else 0
def sideN (g : Nat → Int) (side : Int) (rtl : Bool) : Int :=
  if side = 1 then g 3 else if side = 3 then g 7
  else if side = 0 then (if g (if rtl then 10 else 8) = 0 then g 1 else g (if rtl then 11 else 9))
  else if side = 2 then (if g (if rtl then 8 else 10) = 0 then g 5 else g (if rtl then 9 else 11)) else 0
def marginOf (g : Nat → Int) (side : Int) (rtl : Bool) (base : Int) : Int :=
  if knownB (sideK g side rtl) base = true then signed (lengthOf (sideK g side rtl) (sideN g side rtl) base) else 0
def sidesOkB (g : Nat → Int) : Bool := valueOkB (g 0) (g 1) && valueOkB (g 2) (g 3) && valueOkB (g 4) (g 5) && valueOkB (g 6) (g 7) && valueOkB (g 8) (g 9) && valueOkB (g 10) (g 11)
def totalOf : List Int → Int
  | [] => 0
  | x :: l => signed x + totalOf l

theorem mul_bd {a b A B : Int} (h1 : -A ≤ a) (h2 : a ≤ A) (h3 : -B ≤ b) (h4 : b ≤ B) (hA : 0 ≤ A) : -(A * B) ≤ a * b ∧ a * b ≤ A * B := by
  have hB : 0 ≤ B := by omega
  have h5 : (a * b).natAbs = a.natAbs * b.natAbs := Int.natAbs_mul a b
  have h6 : a.natAbs * b.natAbs ≤ A.natAbs * B.natAbs := Nat.mul_le_mul (by omega) (by omega)
  have h7 : (A * B).natAbs = A.natAbs * B.natAbs := Int.natAbs_mul A B
  have h8 : 0 ≤ A * B := Int.mul_nonneg hA hB
  omega
theorem part_in (n k : Int) : In64 (signed n * brought k 0 2147483647) := by
  have h1 := signed_le n
  have h2 := brought_le k 0 2147483647 (by omega)
  have h3 := mul_bd (A := 1048576) (B := 2147483647) (by omega) h1.2 (by omega : -2147483647 ≤ brought k 0 2147483647) h2.2 (by omega)
  exact ⟨by omega, by omega⟩
theorem brought_in (k : Int) : In64 (brought k 0 2147483647) := by
  have h2 := brought_le k 0 2147483647 (by omega)
  exact ⟨by omega, by omega⟩
theorem length_bd (n base : Int) : 0 ≤ 1 ∧ -1048576000000 ≤ clamped base * brought n (-1000000) 1000000 ∧ clamped base * brought n (-1000000) 1000000 ≤ 1048576000000 := by
  have h1 := clamped_le base
  have h2 := brought_le n (-1000000) 1000000 (by omega)
  have h3 := mul_bd (A := 1048576) (B := 1000000) (by omega) h1.2 (by omega : -1000000 ≤ brought n (-1000000) 1000000) h2.2 (by omega)
  exact ⟨by omega, by omega, by omega⟩

theorem clamped_wrap (a b : Int) : Go.IntKind.i64.wrap (clamped a + clamped b) = clamped a + clamped b := by
  have h1 := clamped_le a
  have h2 := clamped_le b
  exact Go.IntWalk.i64_in _ (by omega)

def gapOf (g : Nat → Int) (wide : Bool) : Int := if wide = true then clamped (g 59) else clamped (g 58)
def isRowB (d : Int) : Bool := d == 1 || d == 3
def mainBackB (d : Int) (rtl : Bool) : Bool := d == 1 && rtl || d == 3 && !rtl || d == 4
def crossBackB (d wr : Int) (rtl : Bool) : Bool := (wr == 3) != (rtl && !isRowB d)
def firstSide (row back : Bool) : Int := if row = true then (if back = true then 2 else 0) else (if back = true then 3 else 1)
def lastSide (row back : Bool) : Int := if row = true then (if back = true then 0 else 2) else (if back = true then 1 else 3)
def alignIn (self items : Int) : Int := if self = 0 then items else self
def alignOf (d self items : Int) : Int := if isRowB d = false ∧ alignIn self items = 5 then 2 else alignIn self items

def sel (wide : Bool) (a b : Int) : Int := if wide = true then a else b
def frameSize (g : Nat → Int) (wide : Bool) : Int :=
  if wide = true then addEdges (addEdges (g 50) (g 54)) (addEdges (g 52) (g 56)) else addEdges (addEdges (g 51) (g 55)) (addEdges (g 53) (g 57))
def fixedOf (g : Nat → Int) (wide : Bool) (base : Int) : Int := sizeOf (sel wide (g 13) (g 15)) (sel wide (g 14) (g 16)) base
def mostOf (g : Nat → Int) (wide : Bool) (base : Int) : Int := sizeOf (sel wide (g 21) (g 23)) (sel wide (g 22) (g 24)) base
def minOf (g : Nat → Int) (wide : Bool) (base : Int) : Int := orElse (sizeOf (sel wide (g 17) (g 19)) (sel wide (g 18) (g 20)) base) 0
def leastOf (g : Nat → Int) (wide : Bool) (base : Int) : Int := if minOf g wide base < frameSize g wide then frameSize g wide else minOf g wide base
def bounded (g : Nat → Int) (wide : Bool) (base n : Int) : Int := clamped (within n (leastOf g wide base) (mostOf g wide base))
def byRatio (ratio : Int) (wide : Bool) (other : Int) : Int :=
  if ratio ≤ 0 ∨ other < 0 then -1 else if wide = true then clamped (floorDiv (clamped other * clamped ratio) 64) else clamped (floorDiv (clamped other * 64) (clamped ratio))
def givenOf (g : Nat → Int) (wide : Bool) (base other : Int) : Int := if fixedOf g wide base = -1 then byRatio (g 25) wide other else fixedOf g wide base
theorem ratio_bd (a b : Int) : 0 ≤ clamped a * clamped b ∧ clamped a * clamped b ≤ 1099511627776 := by
  have h1 := clamped_le a
  have h2 := clamped_le b
  have h3 := mul_bd (A := 1048576) (B := 1048576) (by omega : -1048576 ≤ clamped a) h1.2 (by omega : -1048576 ≤ clamped b) h2.2 (by omega)
  exact ⟨Int.mul_nonneg h1.1 h2.1, by omega⟩

def sizeOkB (k n : Int) : Bool := valueOkB k n && decide (0 ≤ n)
def sidesOk12 (x0 x1 x2 x3 x4 x5 x6 x7 x8 x9 x10 x11 : Int) : Bool := valueOkB x0 x1 && valueOkB x2 x3 && valueOkB x4 x5 && valueOkB x6 x7 && valueOkB x8 x9 && valueOkB x10 x11
def sizesTo (g : Nat → Int) (k : Nat) : Prop := ∀ i, i < k → sizeOkB (g (11 + 2 * i)) (g (12 + 2 * i)) = true
def styleOkB (g : Nat → Int) : Bool :=
  inB (g 0) 1 4 && inB (g 1) 1 3 && inB (g 2) 1 6 && inB (g 4) 0 5 && inB (g 5) 1 6 && inB (g 3) 1 5 &&
  inB (g 8) (-1000) 1000 && inB (g 9) 0 1000 && inB (g 10) 0 1000 && inB (g 25) 0 6400 && inB (g 58) 0 1048576 && inB (g 59) 0 1048576 &&
  sizeOkB (g 11) (g 12) && sizeOkB (g 13) (g 14) && sizeOkB (g 15) (g 16) && sizeOkB (g 17) (g 18) && sizeOkB (g 19) (g 20) && sizeOkB (g 21) (g 22) && sizeOkB (g 23) (g 24) &&
  sidesOk12 (g 26) (g 27) (g 28) (g 29) (g 30) (g 31) (g 32) (g 33) (g 34) (g 35) (g 36) (g 37) && sidesOk12 (g 38) (g 39) (g 40) (g 41) (g 42) (g 43) (g 44) (g 45) (g 46) (g 47) (g 48) (g 49) &&
  edgesOkB (g 50) (g 51) (g 52) (g 53) && edgesOkB (g 54) (g 55) (g 56) (g 57)

end Go.Proofs.Ytcmanaklojomeaa
