/- Hex and Unhex are inverse: plain facts, no program in sight. No condition. -/
import Derived.Test.YtdkinllmmdlpiaaDoorHexM
namespace Go.Proofs.YtdkinllmmdlpiaaDoor
open Go.RowKit Go.Deep
set_option linter.unusedVariables false
theorem strOf_data (l : List Int) : strOf l = ⟨(l.map (fun n => UInt8.ofNat n.toNat)).toArray⟩ := by
  have key : ∀ (l : List Int) (r : ByteArray), l.foldl (fun r n => r.push (UInt8.ofNat n.toNat)) r = ⟨r.data ++ (l.map (fun n => UInt8.ofNat n.toNat)).toArray⟩ := by
    intro l
    induction l with
    | nil => intro r; simp
    | cons n l ih => intro r; rw [List.foldl_cons, ih]; simp [ByteArray.push]
  rw [strOf, key]
  simp
theorem byteAt_strOf {l : List Int} {k : Nat} {x : Int} (h : l[k]? = some x) (h0 : 0 ≤ x) (h1 : x ≤ 255) : byteAt (strOf l) k = x := by
  obtain ⟨hk, hx⟩ := List.getElem?_eq_some_iff.1 h
  have hs : k < (strOf l).size := by rw [strOf_size]; exact hk
  rw [byteAt_lt hs]
  have e : (strOf l)[k] = UInt8.ofNat x.toNat := by
    show (strOf l).data[k] = _
    simp [strOf_data, hx]
  rw [e]
  simp [UInt8.toNat_ofNat']
  omega
theorem hexTo_even (s : ByteArray) : ∀ (n j : Nat), j < n → (hexTo s n)[2 * j]? = some (hexDig (byteAt s j / 16)) ∧ (hexTo s n)[2 * j + 1]? = some (hexDig (byteAt s j % 16))
  | 0, j, h => by omega
  | n + 1, j, h => by
    by_cases e : j = n
    · subst e
      rw [hexTo, List.getElem?_append_right (by rw [hexTo_len]; omega), List.getElem?_append_right (by rw [hexTo_len]; omega), hexTo_len]
      constructor
      · rw [show 2 * j - 2 * j = 0 by omega]; rfl
      · rw [show 2 * j + 1 - 2 * j = 1 by omega]; rfl
    · have := hexTo_even s n j (by omega)
      rw [hexTo, List.getElem?_append_left (by rw [hexTo_len]; omega), List.getElem?_append_left (by rw [hexTo_len]; omega)]
      exact this
theorem byteAt_bd (s : ByteArray) (j : Nat) : 0 ≤ byteAt s j ∧ byteAt s j ≤ 255 := by
  unfold byteAt
  split
  · exact byte_bd _
  · omega
theorem nib_hexDig {x : Int} (h0 : 0 ≤ x) (h1 : x ≤ 15) : nib (hexDig x) = x := by
  unfold hexDig nib
  split <;> (repeat' split) <;> omega
theorem hexDig_bd {x : Int} (h0 : 0 ≤ x) (h1 : x ≤ 15) : 0 ≤ hexDig x ∧ hexDig x ≤ 255 := by
  unfold hexDig
  split <;> omega
theorem nib_pair (s : ByteArray) {n j : Nat} (h : j < n) : nib (byteAt (strOf (hexTo s n)) (2 * j)) = byteAt s j / 16 ∧ nib (byteAt (strOf (hexTo s n)) (2 * j + 1)) = byteAt s j % 16 := by
  obtain ⟨h1, h2⟩ := hexTo_even s n j h
  obtain ⟨b0, b1⟩ := byteAt_bd s j
  have d0 : 0 ≤ byteAt s j / 16 := by omega
  have d1 : byteAt s j / 16 ≤ 15 := by omega
  have r0 : 0 ≤ byteAt s j % 16 := by omega
  have r1 : byteAt s j % 16 ≤ 15 := by omega
  rw [byteAt_strOf h1 (hexDig_bd d0 d1).1 (hexDig_bd d0 d1).2, byteAt_strOf h2 (hexDig_bd r0 r1).1 (hexDig_bd r0 r1).2]
  exact ⟨nib_hexDig d0 d1, nib_hexDig r0 r1⟩
theorem unhTo_hex (s : ByteArray) (n : Nat) : ∀ k, k ≤ n → unhTo (strOf (hexTo s n)) k = (List.range k).map (byteAt s)
  | 0, _ => rfl
  | k + 1, h => by
    obtain ⟨h1, h2⟩ := nib_pair s (n := n) (j := k) (by omega)
    rw [unhTo, unhTo_hex s n k (by omega), h1, h2, List.range_succ, List.map_append]
    have : 16 * (byteAt s k / 16) + byteAt s k % 16 = byteAt s k := by omega
    rw [this]
    rfl
theorem strOf_self (s : ByteArray) : strOf ((List.range s.size).map (byteAt s)) = s := by
  rw [strOf_data]
  apply ByteArray.ext
  apply Array.ext
  · simp
  · intro i h1 h2
    have hi : i < s.size := h2
    simp [byteAt, hi]
    rfl
theorem hex_there (t : ByteArray) (h : t.size ≤ 20000) : hexB t = true ∧ hexS t = strOf (hexTo t t.size) ∧ (hexS t).size = 2 * t.size := by
  have e : hexS t = strOf (hexTo t t.size) := by unfold hexS; rw [if_neg (by omega)]
  refine ⟨by unfold hexB; rw [if_neg (by omega)], e, ?_⟩
  rw [e, strOf_size, hexTo_len]
theorem hex_back (t : ByteArray) (h : t.size ≤ 20000) : unhB (hexS t) = true ∧ unhS (hexS t) = t := by
  obtain ⟨_, e, hs⟩ := hex_there t h
  have hd : (hexS t).size / 2 = t.size := by omega
  have hf : Figs (hexS t) ((hexS t).size / 2) := fun j hj => by
    rw [hd] at hj
    obtain ⟨b0, b1⟩ := byteAt_bd t j
    obtain ⟨h1, h2⟩ := nib_pair t (n := t.size) hj
    rw [← e] at h1 h2
    rw [h1, h2]
    omega
  obtain ⟨y1, y2⟩ := unh_yes (s := hexS t) ⟨by omega, by omega, hf⟩
  refine ⟨y1, ?_⟩
  rw [y2, hd, e, unhTo_hex t t.size t.size (Nat.le_refl _), strOf_self]
end Go.Proofs.YtdkinllmmdlpiaaDoor
