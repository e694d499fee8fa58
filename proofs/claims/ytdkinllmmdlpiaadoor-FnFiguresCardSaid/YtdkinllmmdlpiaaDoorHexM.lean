/- What Hex and Unhex compute: plain functions and plain facts, no program in sight. No condition. -/
import Derived.Test.YtdkinllmmdlpiaaDoorRowsG
namespace Go.Proofs.YtdkinllmmdlpiaaDoor
open Go.RowKit Go.Deep
set_option linter.unusedVariables false
def hexDig (x : Int) : Int := if x < 10 then 48 + x else 87 + x
def nib (c : Int) : Int := if 48 ≤ c ∧ c ≤ 57 then c - 48 else if 97 ≤ c ∧ c ≤ 102 then c - 87 else -1
theorem nib_bd (c : Int) : -1 ≤ nib c ∧ nib c ≤ 15 := by unfold nib; constructor <;> (repeat' split) <;> omega
def byteAt (s : ByteArray) (k : Nat) : Int := if h : k < s.size then (s[k].toNat : Int) else 0
theorem byteAt_lt {s : ByteArray} {k : Nat} (h : k < s.size) : byteAt s k = (s[k].toNat : Int) := by simp [byteAt, h]
theorem byte_bd (b : UInt8) : (0 : Int) ≤ (b.toNat : Int) ∧ (b.toNat : Int) ≤ 255 := by have := b.toNat_lt; omega
def hexTo (s : ByteArray) : Nat → List Int
  | 0 => []
  | k + 1 => hexTo s k ++ [hexDig (byteAt s k / 16), hexDig (byteAt s k % 16)]
theorem hexTo_len (s : ByteArray) : ∀ k, (hexTo s k).length = 2 * k
  | 0 => rfl
  | k + 1 => by simp [hexTo, hexTo_len s k]; omega
theorem hexTo_succ {s : ByteArray} {k : Nat} (h : k < s.size) : hexTo s (k + 1) = hexTo s k ++ [hexDig ((s[k].toNat : Int) / 16), hexDig ((s[k].toNat : Int) % 16)] := by
  rw [hexTo, byteAt_lt h]
def hexS (s : ByteArray) : ByteArray := if 20000 < s.size then ByteArray.empty else strOf (hexTo s s.size)
def hexB (s : ByteArray) : Bool := if 20000 < s.size then false else true
def unhTo (s : ByteArray) : Nat → List Int
  | 0 => []
  | k + 1 => unhTo s k ++ [16 * nib (byteAt s (2 * k)) + nib (byteAt s (2 * k + 1))]
theorem unhTo_len (s : ByteArray) : ∀ k, (unhTo s k).length = k
  | 0 => rfl
  | k + 1 => by simp [unhTo, unhTo_len s k]
/-- The first k pairs are figures. -/
def Figs (s : ByteArray) (k : Nat) : Prop := ∀ j, j < k → 0 ≤ nib (byteAt s (2 * j)) ∧ 0 ≤ nib (byteAt s (2 * j + 1))
theorem Figs.succ {s : ByteArray} {k : Nat} (h : Figs s k) (h1 : 0 ≤ nib (byteAt s (2 * k))) (h2 : 0 ≤ nib (byteAt s (2 * k + 1))) : Figs s (k + 1) := fun j hj => by
  by_cases e : j = k
  · subst e; exact ⟨h1, h2⟩
  · exact h j (by omega)
open Classical in
noncomputable def unhB (s : ByteArray) : Bool := decide (s.size ≤ 40000 ∧ s.size % 2 = 0 ∧ Figs s (s.size / 2))
noncomputable def unhS (s : ByteArray) : ByteArray := if unhB s = true then strOf (unhTo s (s.size / 2)) else ByteArray.empty
theorem unh_no {s : ByteArray} (h : ¬ (s.size ≤ 40000 ∧ s.size % 2 = 0 ∧ Figs s (s.size / 2))) : unhB s = false ∧ unhS s = ByteArray.empty := by
  have e : unhB s = false := by unfold unhB; simpa using h
  exact ⟨e, by rw [unhS, e]; rfl⟩
theorem unh_yes {s : ByteArray} (h : s.size ≤ 40000 ∧ s.size % 2 = 0 ∧ Figs s (s.size / 2)) : unhB s = true ∧ unhS s = strOf (unhTo s (s.size / 2)) := by
  have e : unhB s = true := by unfold unhB; simpa using h
  exact ⟨e, by rw [unhS, e]; rfl⟩
theorem figs_no {s : ByteArray} {k : Nat} (hk : k < s.size / 2) (h : nib (byteAt s (2 * k)) < 0 ∨ nib (byteAt s (2 * k + 1)) < 0) : ¬ Figs s (s.size / 2) := fun hf => by
  have := hf k hk
  omega
end Go.Proofs.YtdkinllmmdlpiaaDoor
