/- Contracts of Unhex. No condition. -/
import Derived.Test.YtdkinllmmdlpiaaDoorHexM
namespace Go.Proofs.YtdkinllmmdlpiaaDoor
open Go.RowKit Go.Deep
set_option linter.unusedVariables false
set_option maxHeartbeats 400000 in
theorem nib_i (x : Int) (h0 : 0 ≤ x) (h1 : x ≤ 255) (w : World) :
    Calls Tryd.prog 36 #[.int .u8 x] w fun e w' => e = .returned (.int .i64 (nib x)) ∧ w = w' := by
  go_enter Tryd.func36, Tryd.ntmps36
  go_wp2
  all_goals (go_ret; exact ⟨ret_int (by unfold nib; (repeat' split) <;> omega), rfl⟩)
/-- In the midst: the pairs up to j are read. -/
def Upto (s : ByteArray) (j : Nat) (w wr : World) (v : Value) : Prop := ∃ k : Nat, j = 2 * k ∧ Figs s k ∧ Ob w wr v (unhTo s k)
set_option maxHeartbeats 1600000 in
theorem unhex_i (s : ByteArray) (hs : s.size ≤ 1048576) (w : World) :
    Calls Tryd.prog 18 #[.string s] w fun e w' => e = .returned (.tuple #[.string (unhS s), .bool (unhB s)]) ∧ Below w.heap.size w w' := by
  by_cases hb : 40000 < s.size
  · have HE := Lib.hid (unh_no (s := s) (by omega))
    rcases (show s.size % 2 = 0 ∨ s.size % 2 = 1 from by omega) with ho | ho
    · have ho' : ((s.size : Int) % 2) = 0 := by omega
      clear ho
      go_enter Tryd.func18, Tryd.ntmps18
      go_wp2
      go_ret2
      exact ⟨by rw [HE.out.1, HE.out.2]; rfl, Below.refl _ _⟩
    · have ho' : ((s.size : Int) % 2) = 1 := by omega
      clear ho
      go_enter Tryd.func18, Tryd.ntmps18
      go_wp2
      go_ret2
      exact ⟨by rw [HE.out.1, HE.out.2]; rfl, Below.refl _ _⟩
  · by_cases ho : s.size % 2 = 0
    · have HD : Hid (s.size % 2 = 0) := Lib.hid ho
      have ho' : ((s.size : Int) % 2) = 0 := by omega
      clear ho
      go_enter Tryd.func18, Tryd.ntmps18
      go_wp2
      clear ho'
      go_loopw [4, 5] (fun v i wr => ∃ j : Nat, j ≤ s.size ∧ i = .int .i64 j ∧ Upto s j w wr v) (fun _ i _ => s.size - (intOf i).toNat)
      case atStart => exact ⟨0, Nat.zero_le _, rfl, 0, rfl, fun j hj => absurd hj (by omega), Og.nilB (Below.refl _ _)⟩
      case round =>
        obtain ⟨j, hj, rfl, k, hjk, hfig, how⟩ := hrel
        have HW := Lib.hid how
        have HF := Lib.hid hfig
        clear how hfig
        by_cases hlt : j < s.size
        · have hlt2 : j + 1 < s.size := by have := HD.out; omega
          have g1 : byteAt s (2 * k) = _ := (by rw [← hjk] : byteAt s (2 * k) = byteAt s j).trans (byteAt_lt hlt)
          have g2 : byteAt s (2 * k + 1) = _ := (by rw [← hjk] : byteAt s (2 * k + 1) = byteAt s (j + 1)).trans (byteAt_lt hlt2)
          obtain ⟨b0, b1⟩ := byte_bd s[j]
          obtain ⟨b2, b3⟩ := byte_bd s[j + 1]
          obtain ⟨n0, n1⟩ := nib_bd (s[j].toNat : Int)
          obtain ⟨n2, n3⟩ := nib_bd (s[j + 1].toNat : Int)
          have G1 := Lib.hid g1
          have G2 := Lib.hid g2
          have i0 : (0 : Int) ≤ ↑j := by omega
          have i1 : (j : Int) < ↑s.size := by omega
          have i2 : (j : Int) + 1 < ↑s.size := by omega
          clear g1 g2
          have HK := Lib.hid hjk
          have HN : Hid (nib (s[j].toNat : Int) < 0 ∨ nib (s[j + 1].toNat : Int) < 0 → ¬ Figs s (s.size / 2)) := Lib.hid (fun h => figs_no (k := k) (by omega) (by rw [G1.out, G2.out]; exact h))
          have HX : Hid (unhTo s (k + 1) = unhTo s k ++ [16 * nib (s[j].toNat : Int) + nib (s[j + 1].toNat : Int)]) := Lib.hid (by rw [unhTo, G1.out, G2.out])
          have HL : Hid ((unhTo s k).length ≤ 1048576) := Lib.hid (by rw [unhTo_len]; omega)
          clear hjk
          have i3 : (0 : Int) ≤ (j : Int) + 1 := by omega
          have e1 : IntKind.i64.wrap ((j : Int) + 1) = (j : Int) + 1 := IntWalk.i64_in _ (by omega)
          have e2 : ((j : Int) + 1).toNat = j + 1 := by omega
          by_cases c1 : nib (s[j].toNat : Int) < 0
          · have HE := Lib.hid (unh_no (s := s) (fun h => HN.out (Or.inl c1) h.2.2))
            go_wp2
            go_quiet ((go_at_call 36; exact quiet_same (nib_i _ (by assumption) (by assumption) _)))
            go_wp2
            go_ret2
            exact ⟨by rw [HE.out.1, HE.out.2]; rfl, bel_drewN HW.out.bel _⟩
          · by_cases c2 : nib (s[j + 1].toNat : Int) < 0
            · have HE := Lib.hid (unh_no (s := s) (fun h => HN.out (Or.inr c2) h.2.2))
              go_wp2
              go_quiet ((go_at_call 36; exact quiet_same (nib_i _ (by assumption) (by assumption) _)))
              go_wp2
              go_ret2
              exact ⟨by rw [HE.out.1, HE.out.2]; rfl, bel_drewN HW.out.bel _⟩
            · have HG := Lib.hid (HF.out.succ (by rw [G1.out]; omega) (by rw [G2.out]; omega))
              go_wp2
              go_quiet ((go_at_call 36; exact quiet_same (nib_i _ (by assumption) (by assumption) _)))
              go_wp2_with (at_builtin; go_loud ((apply wpList_appb1 (s := .tmp 38) (x := .tmp 44) (HW.out.drewN _)); (· rfl); (· rfl); (· rfl); (· rfl); (· exact HL.out); (intro v' w1 h1)))
              go_roundw
              case rel => exact ⟨j + 2, by omega, by go_num, k + 1, by have := HK.out; omega, HG.out, by rw [HX.out]; exact h1⟩
              case measure => simp [intOf]; omega
        · have hm : k = s.size / 2 := by have := HD.out; omega
          obtain rfl : j = s.size := by omega
          have HE := Lib.hid (unh_yes (s := s) ⟨by omega, HD.out, by rw [← hm]; exact HF.out⟩)
          have hcv := HW.out.conv
          have HM := Lib.hid hm
          clear hm hjk
          go_wp2
          go_ret2
          exact ⟨by rw [HE.out.1, HE.out.2, ← HM.out]; rfl, HW.out.bel⟩
    · have HE := Lib.hid (unh_no (s := s) (fun h => ho h.2.1))
      have ho' : ((s.size : Int) % 2) = 1 := by omega
      clear ho
      go_enter Tryd.func18, Tryd.ntmps18
      go_wp2
      go_ret2
      exact ⟨by rw [HE.out.1, HE.out.2]; rfl, Below.refl _ _⟩
end Go.Proofs.YtdkinllmmdlpiaaDoor
