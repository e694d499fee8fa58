/- What Decimal and ReadDecimal compute: plain functions and plain facts, no program in sight. No condition. -/
import Derived.Test.YtdkinllmmdlpiaaDoorPartsM
import Derived.Lib.ItoaNum
import Derived.Lib.Atoi
namespace Go.Proofs.YtdkinllmmdlpiaaDoor
open Go.RowKit Go.Deep
set_option linter.unusedVariables false
def decS (n : Int) : ByteArray := ⟨(Lib.itoa n).toArray⟩
theorem strOf_one (x : Int) : strOf [x] = ⟨#[UInt8.ofNat x.toNat]⟩ := rfl
theorem dec_one {u : Nat} (h : u < 10) : Lib.decDigits u = [UInt8.ofNat (48 + u)] := by rw [Lib.decDigits, dif_pos h]
theorem dec_more {u : Nat} (h : ¬ u < 10) : Lib.decDigits u = Lib.decDigits (u / 10) ++ [UInt8.ofNat (48 + u % 10)] := by rw [Lib.decDigits, dif_neg h]
theorem figs_dec : ∀ (k u : Nat), u < k → u ≠ 0 → ∀ acc, figs u acc = ⟨(Lib.decDigits u).toArray⟩ ++ acc
  | 0, u, h, _, _ => absurd h (by omega)
  | k + 1, u, h, h0, acc => by
    rw [figs_step h0]
    have e : strOf [((48 + u % 10 : Nat) : Int)] = ⟨[UInt8.ofNat (48 + u % 10)].toArray⟩ := by rw [strOf_one]; rfl
    by_cases h1 : u < 10
    · rw [show u / 10 = 0 by omega, figs_zero, dec_one h1, e, show u % 10 = u by omega]
    · rw [figs_dec k (u / 10) (by omega) (by omega), dec_more h1, e, ← ByteArray.append_assoc]
      congr 1
theorem dec_ne (u : Nat) : Lib.decDigits u ≠ [] := by
  by_cases h : u < 10
  · rw [dec_one h]; simp
  · rw [dec_more h]; simp
theorem digit_ofNat {d : Nat} (h : d < 10) : Lib.digitVal (UInt8.ofNat (48 + d)) = some d := by
  unfold Lib.digitVal
  have e : (UInt8.ofNat (48 + d)).toNat = 48 + d := by simp [UInt8.toNat_ofNat']; omega
  rw [e, if_pos (by omega)]
  simp
theorem decFrom_snoc (l : List UInt8) : ∀ (acc n : Nat) (b : UInt8) (d : Nat), Lib.decFrom acc l = some n → Lib.digitVal b = some d → Lib.decFrom acc (l ++ [b]) = some (n * 10 + d) := by
  induction l with
  | nil => intro acc n b d h hb; simp [Lib.decFrom] at h; subst h; simp [Lib.decFrom, hb]
  | cons c l ih =>
    intro acc n b d h hb
    simp only [List.cons_append, Lib.decFrom] at h ⊢
    cases hc : Lib.digitVal c with
    | none => rw [hc] at h; cases h
    | some d' => rw [hc] at h; exact ih _ _ _ _ h hb
theorem decFrom_dec : ∀ (k u : Nat), u < k → Lib.decFrom 0 (Lib.decDigits u) = some u
  | 0, u, h => absurd h (by omega)
  | k + 1, u, h => by
    by_cases h1 : u < 10
    · rw [dec_one h1]; simp only [Lib.decFrom, digit_ofNat h1]; simp
    · rw [dec_more h1, decFrom_snoc _ _ _ _ _ (decFrom_dec k (u / 10) (by omega)) (digit_ofNat (d := u % 10) (by omega))]
      congr 1
      omega
/-- The first figure is a figure. -/
theorem dec_head (u : Nat) : ∃ b r, Lib.decDigits u = b :: r ∧ 48 ≤ b.toNat ∧ b.toNat ≤ 57 := by
  have h := decFrom_dec (u + 1) u (by omega)
  cases hl : Lib.decDigits u with
  | nil => exact absurd hl (dec_ne u)
  | cons b r =>
    rw [hl] at h
    simp only [Lib.decFrom] at h
    cases hd : Lib.digitVal b with
    | none => rw [hd] at h; cases h
    | some d => have := Lib.digitVal_eq hd; exact ⟨b, r, rfl, this.1, this.2.1⟩
theorem atoi_dec (u : Nat) : Lib.atoi (Lib.decDigits u) = some (u : Int) := by
  obtain ⟨b, r, hl, h1, h2⟩ := dec_head u
  have h := decFrom_dec (u + 1) u (by omega)
  rw [hl] at h ⊢
  have e1 : (b == 45) = false := by
    rw [beq_eq_false_iff_ne]; intro e; subst e; simp at h1
  have e2 : (b == 43) = false := by
    rw [beq_eq_false_iff_ne]; intro e; subst e; simp at h1
  simp only [Lib.atoi, e1, e2, Lib.decNat, List.isEmpty_cons]
  simp [h]
theorem decS_nat (n : Nat) : decS n = ⟨(Lib.decDigits n).toArray⟩ := by
  unfold decS Lib.itoa
  rw [if_neg (by omega)]
  simp
theorem decS_inj {n m : Nat} (h : decS n = decS m) : n = m := by
  rw [decS_nat, decS_nat] at h
  have : Lib.decDigits n = Lib.decDigits m := by
    have := congrArg (fun s : ByteArray => s.data.toList) h
    simpa using this
  have h1 := decFrom_dec (n + 1) n (by omega)
  rw [this, decFrom_dec (m + 1) m (by omega)] at h1
  exact (Option.some.inj h1).symm
theorem dec_len : ∀ (k u : Nat), u < 10 ^ (k + 1) → (Lib.decDigits u).length ≤ k + 1
  | 0, u, h => by rw [dec_one (by simpa using h)]; simp
  | k + 1, u, h => by
    by_cases h1 : u < 10
    · rw [dec_one h1]; simp
    · rw [dec_more h1]
      have := dec_len k (u / 10) (by rw [Nat.pow_succ] at h; omega)
      simp; omega
/-- What ReadDecimal reads: the numeral of a number up to a thousand million. -/
def Reads10 (s : ByteArray) (n : Nat) : Prop := n ≤ 1000000000 ∧ s = decS n
open Classical in
noncomputable def readB (s : ByteArray) : Bool := decide (∃ n, Reads10 s n)
open Classical in
noncomputable def readN (s : ByteArray) : Int := if h : ∃ n, Reads10 s n then ((Classical.choose h : Nat) : Int) else 0
theorem read_yes {s : ByteArray} {n : Nat} (h : Reads10 s n) : readB s = true ∧ readN s = n := by
  have he : ∃ n, Reads10 s n := ⟨n, h⟩
  refine ⟨by unfold readB; simpa using he, ?_⟩
  unfold readN
  rw [dif_pos he]
  have := Classical.choose_spec he
  have e := decS_inj (this.2.symm.trans h.2)
  rw [e]
theorem read_no {s : ByteArray} (h : ¬ ∃ n, Reads10 s n) : readB s = false ∧ readN s = 0 := by
  refine ⟨by unfold readB; simpa using h, ?_⟩
  unfold readN
  rw [dif_neg h]
theorem reads_size {s : ByteArray} {n : Nat} (h : Reads10 s n) : 1 ≤ s.size ∧ s.size ≤ 10 := by
  rw [h.2, decS_nat]
  have h1 := dec_len 9 n (by have := h.1; omega)
  have h2 := dec_ne n
  show 1 ≤ (Lib.decDigits n).toArray.size ∧ (Lib.decDigits n).toArray.size ≤ 10
  simp
  exact ⟨List.length_pos_iff.2 h2, h1⟩
theorem reads_from {s : ByteArray} {n : Nat} (h : Reads10 s n) : Lib.decFrom 0 s.data.toList = some n := by
  rw [h.2, decS_nat]; exact decFrom_dec (n + 1) n (by omega)
theorem reads_atoi {s : ByteArray} {n : Nat} (h : Reads10 s n) : Lib.atoi s.data.toList = some (n : Int) := by
  rw [h.2, decS_nat]; exact atoi_dec n
end Go.Proofs.YtdkinllmmdlpiaaDoor
