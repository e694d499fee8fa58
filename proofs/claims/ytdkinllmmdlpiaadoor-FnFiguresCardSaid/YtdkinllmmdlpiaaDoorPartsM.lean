/- What PartsOf computes: plain functions and plain facts, no program in sight. No condition. -/
import Derived.Test.YtdkinllmmdlpiaaDoorHexM
namespace Go.Proofs.YtdkinllmmdlpiaaDoor
open Go.RowKit Go.Deep
set_option linter.unusedVariables false
/-- A part ends here: behind the line, or at a space. -/
def gapAt (s : ByteArray) (i : Nat) : Bool := decide (s.size ≤ i) || byteAt s i == 32
structure Pst where
  out : List ByteArray
  beg : Nat
def pStep (s : ByteArray) (st : Pst) (i : Nat) : Pst :=
  if gapAt s i = true then ⟨if st.beg < i then st.out ++ [s.extract st.beg i] else st.out, i + 1⟩ else st
def pTo (s : ByteArray) : Nat → Pst
  | 0 => ⟨[], 0⟩
  | k + 1 => pStep s (pTo s k) k
theorem pTo_beg (s : ByteArray) : ∀ k, (pTo s k).beg ≤ k
  | 0 => Nat.le_refl _
  | k + 1 => by have := pTo_beg s k; simp only [pTo, pStep]; split; exact Nat.le_refl _; omega
theorem pTo_len (s : ByteArray) : ∀ k, (pTo s k).out.length ≤ k
  | 0 => Nat.le_refl _
  | k + 1 => by
    have := pTo_len s k
    simp only [pTo, pStep]
    (repeat' split) <;> simp <;> omega
theorem pTo_gap {s : ByteArray} {k : Nat} (h : gapAt s k = true) (hb : (pTo s k).beg < k) : (pTo s (k + 1)).out = (pTo s k).out ++ [s.extract (pTo s k).beg k] ∧ (pTo s (k + 1)).beg = k + 1 := by
  simp [pTo, pStep, h, hb]
theorem pTo_gap0 {s : ByteArray} {k : Nat} (h : gapAt s k = true) (hb : ¬ (pTo s k).beg < k) : (pTo s (k + 1)).out = (pTo s k).out ∧ (pTo s (k + 1)).beg = k + 1 := by
  simp [pTo, pStep, h, hb]
theorem pTo_in {s : ByteArray} {k : Nat} (h : gapAt s k = false) : (pTo s (k + 1)).out = (pTo s k).out ∧ (pTo s (k + 1)).beg = (pTo s k).beg := by
  simp [pTo, pStep, h]
theorem gap_end (s : ByteArray) : gapAt s s.size = true := by simp [gapAt]
theorem gap_sp {s : ByteArray} {k : Nat} (hk : k < s.size) (h : (s[k].toNat : Int) = 32) : gapAt s k = true := by simp [gapAt, byteAt, hk, h]
theorem gap_no {s : ByteArray} {k : Nat} (hk : k < s.size) (h : ¬ (s[k].toNat : Int) = 32) : gapAt s k = false := by
  have : ¬ s.size ≤ k := by omega
  simp [gapAt, byteAt, hk, this, h]
/-- The first k bytes may stand in a line. -/
def Line (s : ByteArray) (k : Nat) : Prop := ∀ j, j < k → 32 ≤ byteAt s j ∧ byteAt s j ≤ 126
theorem Line.succ {s : ByteArray} {k : Nat} (h : Line s k) (hk : k < s.size) (h1 : 32 ≤ (s[k].toNat : Int)) (h2 : (s[k].toNat : Int) ≤ 126) : Line s (k + 1) := fun j hj => by
  by_cases e : j = k
  · subst e; rw [byteAt_lt hk]; exact ⟨h1, h2⟩
  · exact h j (by omega)
theorem line_no {s : ByteArray} {k : Nat} (hk : k < s.size) (h : (s[k].toNat : Int) < 32 ∨ 126 < (s[k].toNat : Int)) : ¬ Line s s.size := fun hf => by
  have := hf k hk
  rw [byteAt_lt hk] at this
  omega
def partsL (s : ByteArray) : List ByteArray := (pTo s (s.size + 1)).out
open Classical in
noncomputable def partsB (s : ByteArray) : Bool := decide (s.size ≤ 600 ∧ Line s s.size ∧ (partsL s).length ≤ 12)
noncomputable def partsR (s : ByteArray) : List ByteArray := if partsB s = true then partsL s else []
theorem parts_no {s : ByteArray} (h : ¬ (s.size ≤ 600 ∧ Line s s.size ∧ (partsL s).length ≤ 12)) : partsB s = false ∧ partsR s = [] := by
  have e : partsB s = false := by unfold partsB; simpa using h
  exact ⟨e, by rw [partsR, e]; rfl⟩
theorem parts_yes {s : ByteArray} (h : s.size ≤ 600 ∧ Line s s.size ∧ (partsL s).length ≤ 12) : partsB s = true ∧ partsR s = partsL s := by
  have e : partsB s = true := by unfold partsB; simpa using h
  exact ⟨e, by rw [partsR, e]; rfl⟩
theorem partsR_len (s : ByteArray) : (partsR s).length ≤ 12 := by
  unfold partsR
  split
  · rename_i h
    unfold partsB at h
    simp at h
    exact h.2.2
  · simp
/-- A number's figures ahead of what stands there. -/
def figs (n : Nat) (acc : ByteArray) : ByteArray := if h : n = 0 then acc else figs (n / 10) (strOf [((48 + n % 10 : Nat) : Int)] ++ acc)
termination_by n
decreasing_by omega
theorem figs_zero (acc : ByteArray) : figs 0 acc = acc := by rw [figs]; simp
theorem figs_step {n : Nat} (h : n ≠ 0) (acc : ByteArray) : figs n acc = figs (n / 10) (strOf [((48 + n % 10 : Nat) : Int)] ++ acc) := by rw [figs]; simp [h]
end Go.Proofs.YtdkinllmmdlpiaaDoor
