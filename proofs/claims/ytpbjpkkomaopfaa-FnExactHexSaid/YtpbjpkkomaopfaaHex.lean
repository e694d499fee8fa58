/- Contracts of Hex, and its law: FnExactHex returns true for every input: Hex of the program and of the reference return the same. Conditions: none. -/
import Derived.Test.YtpbjpkkomaopfaaHexM
import Derived.Laws.BitsAllLaws
namespace Go.Proofs.Ytpbjpkkomaopfaa
open Go.ChangeShapes Go.WideShapes Go.ChangeAt Go.RowKit Go.Deep
open Go.ChangeMaps (open_string shut_string)
set_option linter.unusedVariables false
theorem hexTab (x : Int) (h0 : 0 ≤ x) (h : x < 16) (hlt : x.toNat < (⟨#[48, 49, 50, 51, 52, 53, 54, 55, 56, 57, 97, 98, 99, 100, 101, 102]⟩ : ByteArray).size) :
    (((⟨#[48, 49, 50, 51, 52, 53, 54, 55, 56, 57, 97, 98, 99, 100, 101, 102]⟩ : ByteArray)[x.toNat]'hlt).toNat : Int) = hexDig x := by
  obtain ⟨n, rfl⟩ : ∃ n : Nat, x = n := ⟨x.toNat, by omega⟩
  have hn : n = 0 ∨ n = 1 ∨ n = 2 ∨ n = 3 ∨ n = 4 ∨ n = 5 ∨ n = 6 ∨ n = 7 ∨ n = 8 ∨ n = 9 ∨ n = 10 ∨ n = 11 ∨ n = 12 ∨ n = 13 ∨ n = 14 ∨ n = 15 := by omega
  rcases hn with rfl | rfl | rfl | rfl | rfl | rfl | rfl | rfl | rfl | rfl | rfl | rfl | rfl | rfl | rfl | rfl <;> rfl
theorem and15 (n : Nat) (h : n < 256) : bits .and .u8 (n : Int) 15 = (n : Int) % 16 := by
  have := u8_and_nat n 15 h (by decide)
  rw [nat_mask4] at this
  simpa using this
set_option maxHeartbeats 400000 in
theorem figure_s (x : Int) (h0 : 0 ≤ x) (h1 : x ≤ 15) (w : World) :
    Calls Try.prog 43 #[.int .i64 x] w fun e w' => e = .returned (.int .u8 (hexDig x)) ∧ w = w' := by
  go_enter Try.func43, Try.ntmps43
  go_wp2
  all_goals (go_ret; exact ⟨ret_int (by unfold hexDig; (repeat' split) <;> omega), rfl⟩)
set_option maxHeartbeats 1600000 in
theorem hex_s (s : ByteArray) (hs : s.size ≤ 1048576) (w : World) :
    Calls Try.prog 35 #[.string s] w fun e w' => e = .returned (.tuple #[.string (hexS s), .bool (hexB s)]) ∧ Below w.heap.size w w' := by
  by_cases hb : 20000 < s.size
  · have HE : Hid (hexS s = ByteArray.empty ∧ hexB s = false) := Lib.hid (by simp [hexS, hexB, hb])
    go_enter Try.func35, Try.ntmps35
    go_wp2
    go_ret2
    exact ⟨by rw [HE.out.1, HE.out.2]; rfl, Below.refl _ _⟩
  · have HE : Hid (hexS s = strOf (hexTo s s.size) ∧ hexB s = true) := Lib.hid (by simp [hexS, hexB, hb])
    go_enter Try.func35, Try.ntmps35
    go_wp2
    go_loopw [4, 5] (fun v i wr => ∃ k : Nat, k ≤ s.size ∧ i = .int .i64 k ∧ Ob w wr v (hexTo s k)) (fun _ i _ => s.size - (intOf i).toNat)
    case atStart => exact ⟨0, Nat.zero_le _, rfl, Og.made (Below.refl _ _)⟩
    case round =>
      obtain ⟨k, hk, rfl, how⟩ := hrel
      have HW := Lib.hid how
      clear how
      by_cases hlt : k < s.size
      · obtain ⟨b0, b1⟩ := byte_bd s[k]
        have HX := Lib.hid (hexTo_succ hlt)
        have HL : Hid ((hexTo s k).length ≤ 1048575) := Lib.hid (by rw [hexTo_len]; omega)
        have i0 : (0 : Int) ≤ ↑k := by omega
        have i1 : (k : Int) < ↑s.size := by omega
        have d0 : 0 ≤ (s[k].toNat : Int) / 16 := by omega
        have d1 : (s[k].toNat : Int) / 16 ≤ 15 := by omega
        have r0 : 0 ≤ (s[k].toNat : Int) % 16 := by omega
        have r1 : (s[k].toNat : Int) % 16 ≤ 15 := by omega
        have e1 : IntKind.i64.wrap (s[k].toNat : Int) = (s[k].toNat : Int) := IntWalk.i64_in _ (by omega)
        have e2 : (s[k].toNat : Int).tdiv 16 = (s[k].toNat : Int) / 16 := Int.tdiv_eq_ediv_of_nonneg b0
        have e3 : (s[k].toNat : Int).tmod 16 = (s[k].toNat : Int) % 16 := Int.tmod_eq_emod_of_nonneg b0
        have e4 : IntKind.i64.wrap ((s[k].toNat : Int) / 16) = (s[k].toNat : Int) / 16 := IntWalk.i64_in _ (by omega)
        have e5 : IntKind.i64.wrap ((s[k].toNat : Int) % 16) = (s[k].toNat : Int) % 16 := IntWalk.i64_in _ (by omega)
        go_wp2
        go_region_law (first | (go_simp; (go_at_call 43; refine (figure_s _ (by assumption) (by assumption) _).mono ?_; rintro e w' ⟨rfl, rfl⟩)) | ((apply step_appb2 (s := .tmp 16) (x := .tmp 29) HW.out.drew); (· rfl); (· rfl); (· simp [Act.eval]); (· simp [Act.eval]); (· exact HL.out); (intro v' w1 h1); (rw [← HX.out] at h1)))
        clear e1 e2 e3 e4 e5
        all_goals go_wp2
        all_goals go_roundw
        all_goals (first | exact ⟨k + 1, by omega, by go_num, h1⟩ | (simp [intOf]; omega))
      · obtain rfl : k = s.size := by omega
        have hcv := HW.out.conv
        go_wp2
        go_ret2
        exact ⟨by rw [HE.out.1, HE.out.2]; rfl, HW.out.bel⟩
set_option maxHeartbeats 1600000 in
theorem hex_i (s : ByteArray) (hs : s.size ≤ 1048576) (w : World) :
    Calls Try.prog 36 #[.string s] w fun e w' => e = .returned (.tuple #[.string (hexS s), .bool (hexB s)]) ∧ Below w.heap.size w w' := by
  by_cases hb : 20000 < s.size
  · have HE : Hid (hexS s = ByteArray.empty ∧ hexB s = false) := Lib.hid (by simp [hexS, hexB, hb])
    go_enter Try.func36, Try.ntmps36
    go_wp2
    go_ret2
    exact ⟨by rw [HE.out.1, HE.out.2]; rfl, Below.refl _ _⟩
  · have HE : Hid (hexS s = strOf (hexTo s s.size) ∧ hexB s = true) := Lib.hid (by simp [hexS, hexB, hb])
    go_enter Try.func36, Try.ntmps36
    go_wp2
    go_loopw [4, 5] (fun v i wr => ∃ k : Nat, k ≤ s.size ∧ i = .int .i64 k ∧ Ob w wr v (hexTo s k)) (fun _ i _ => s.size - (intOf i).toNat)
    case atStart => exact ⟨0, Nat.zero_le _, rfl, Og.nilB (Below.refl _ _)⟩
    case round =>
      obtain ⟨k, hk, rfl, how⟩ := hrel
      have HW := Lib.hid how
      clear how
      by_cases hlt : k < s.size
      · obtain ⟨b0, b1⟩ := byte_bd s[k]
        have HX := Lib.hid (hexTo_succ hlt)
        have HL : Hid ((hexTo s k).length ≤ 1048575) := Lib.hid (by rw [hexTo_len]; omega)
        have i0 : (0 : Int) ≤ ↑k := by omega
        have i1 : (k : Int) < ↑s.size := by omega
        have d0 : 0 ≤ (s[k].toNat : Int) / 16 := by omega
        have d1 : (s[k].toNat : Int) / 16 ≤ 15 := by omega
        have r0 : 0 ≤ (s[k].toNat : Int) % 16 := by omega
        have r1 : (s[k].toNat : Int) % 16 ≤ 15 := by omega
        have d2 : (s[k].toNat : Int) / 16 < 16 := by omega
        have r2 : (s[k].toNat : Int) % 16 < 16 := by omega
        have ea : bits .and .u8 (s[k].toNat : Int) 15 = (s[k].toNat : Int) % 16 := and15 _ (by omega)
        have HT := Lib.hid (hexTab (↑s[k].toNat / 16) d0 d2)
        have HT2 := Lib.hid (hexTab (↑s[k].toNat % 16) r0 r2)
        have e1 : IntKind.i64.wrap (s[k].toNat : Int) = (s[k].toNat : Int) := IntWalk.i64_in _ (by omega)
        have e2 : (s[k].toNat : Int).tdiv 16 = (s[k].toNat : Int) / 16 := Int.tdiv_eq_ediv_of_nonneg b0
        have e3 : (s[k].toNat : Int).tmod 16 = (s[k].toNat : Int) % 16 := Int.tmod_eq_emod_of_nonneg b0
        have e4 : IntKind.i64.wrap ((s[k].toNat : Int) / 16) = (s[k].toNat : Int) / 16 := IntWalk.i64_in _ (by omega)
        have e5 : IntKind.i64.wrap ((s[k].toNat : Int) % 16) = (s[k].toNat : Int) % 16 := IntWalk.i64_in _ (by omega)
        go_wp2
        go_region_law (first | ((apply step_appb2 (s := .tmp 15) (x := .tmp 26) HW.out.drew); (· rfl); (· rfl); (· simp [Act.eval]); (· simp [Act.eval]); (· exact HL.out); (intro v' w1 h1); (rw [HT.out, HT2.out, ← HX.out] at h1)))
        clear ea e1 e2 e3 e4 e5
        all_goals go_wp2
        all_goals go_roundw
        all_goals (first | exact ⟨k + 1, by omega, by go_num, h1⟩ | (simp [intOf]; omega))
      · obtain rfl : k = s.size := by omega
        have hcv := HW.out.conv
        go_wp2
        go_ret2
        exact ⟨by rw [HE.out.1, HE.out.2]; rfl, HW.out.bel⟩
end Go.Proofs.Ytpbjpkkomaopfaa
