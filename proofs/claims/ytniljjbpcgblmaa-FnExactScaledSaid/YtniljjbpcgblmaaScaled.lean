/- Contracts of Scaled. No condition. -/
import Derived.Test.YtniljjbpcgblmaaOwn
import Derived.Deep.RegionLaw
import Derived.Deep.RegionHeldLaw
namespace Go.Proofs.Ytniljjbpcgblmaa
open Go.RowKit Go.Deep
set_option linter.unusedVariables false
def scaledV (l m : List Int) (k : Nat) : Int := clamped (nth l k) * brought (nth m k) 0 1000
def scaledTo (l m : List Int) (k : Nat) : List Int := (List.range k).map (scaledV l m)
def scaledOf (l m : List Int) : List Int := scaledTo l m (min l.length m.length)
theorem scaledTo_succ (l m : List Int) (k : Nat) : scaledTo l m (k + 1) = scaledTo l m k ++ [scaledV l m k] := by simp [scaledTo, List.range_succ]
theorem scaledTo_len (l m : List Int) (k : Nat) : (scaledTo l m k).length = k := by simp [scaledTo]
theorem clamped_bd (n : Int) : 0 ≤ clamped n ∧ clamped n ≤ 1048576 := by unfold clamped brought; (repeat' split) <;> omega
theorem brought_bd (n : Int) : 0 ≤ brought n 0 1000 ∧ brought n 0 1000 ≤ 1000 := by unfold brought; (repeat' split) <;> omega
theorem scaledV_in (l m : List Int) (k : Nat) : IntKind.i64.wrap (clamped (nth l k) * brought (nth m k) 0 1000) = scaledV l m k := by
  have h1 := clamped_bd (nth l k)
  have h2 := brought_bd (nth m k)
  have h3 : clamped (nth l k) * brought (nth m k) 0 1000 ≤ 1048576 * 1000 := Int.mul_le_mul h1.2 h2.2 h2.1 (by omega)
  have h4 : 0 ≤ clamped (nth l k) * brought (nth m k) 0 1000 := Int.mul_nonneg h1.1 h2.1
  unfold scaledV
  generalize clamped (nth l k) * brought (nth m k) 0 1000 = x at *
  rw [IntKind.wrap_i64]
  (try unfold wrap64)
  omega
set_option maxHeartbeats 1600000 in
theorem scaled_i (l m : List Int) (a b : Option Addr) (c1 c2 : Nat) (hl : l.length ≤ 1048576) (hm : m.length ≤ 1048576) (w : World) (hA : Rd w a l) (hB : Rd w b m) :
    Calls Try.prog 15 #[.slice a l.length c1, .slice b m.length c2] w (Gives (scaledOf l m) w) := by
  have HA := Lib.hid hA
  have HB := Lib.hid hB
  clear hA hB
  go_enter Try.func15, Try.ntmps15
  go_wp2
  go_loopw [5, 6] (fun v i wr => ∃ k : Nat, k ≤ l.length ∧ k ≤ m.length ∧ i = .int .i64 k ∧ Ow w wr v (scaledTo l m k)) (fun _ i _ => l.length - (intOf i).toNat)
  case atStart => exact ⟨0, Nat.zero_le _, Nat.zero_le _, rfl, Ow.nil _⟩
  case round =>
    obtain ⟨k, hk1, hk2, rfl, how⟩ := hrel
    have HW := Lib.hid how
    clear how
    by_cases hlt : k < l.length
    · by_cases hlt2 : k < m.length
      · rcases HA.out with ⟨b1, o1, rfl, hc1⟩ | hz
        · rcases HB.out with ⟨b2, o2, rfl, hc2⟩ | hz
          · have hc := hc1 k hlt
            have hd := hc2 k hlt2
            have hc' := (HW.out.bel.cell (World.block_lt_of_cell? _ _ hc)).trans hc
            have hd' := (HW.out.bel.cell (World.block_lt_of_cell? _ _ hd)).trans hd
            clear hc hd hc1 hc2
            have i0 : (0 : Int) ≤ ↑k := by omega
            have i1 : (k : Int) < ↑l.length := by omega
            have i2 : (k : Int) < ↑m.length := by omega
            have HL : Hid ((scaledTo l m k).length ≤ 1048576) := Lib.hid (by rw [scaledTo_len]; omega)
            have HV := Lib.hid (scaledV_in l m k)
            go_wp2
            go_region_law (first | (go_simp; (go_at_call 35; refine (clamped_i _ _).mono ?_; rintro e w' ⟨rfl, rfl⟩)) | (go_simp; (go_at_call 36; refine (brought_i _ _ _ _).mono ?_; rintro e w' ⟨rfl, rfl⟩)) | (go_loud (refine step_app (W := wr.drew) ⟨HW.out.bel.drew, HW.out.own⟩ rfl _ _ rfl (IntKind.i64.wrap (clamped (nth l k) * brought (nth m k) 0 1000)) (by simp [Act.eval]) (by simp [Act.eval]) HL.out ?_); intro v' w1 h1; rw [HV.out, ← scaledTo_succ] at h1))
            all_goals go_wp2
            all_goals go_roundw
            all_goals (first | exact ⟨k + 1, by omega, by omega, by go_num, h1⟩ | (simp [intOf]; omega))
          · omega
        · omega
      · obtain rfl : k = m.length := by omega
        have HE : Hid (scaledOf l m = scaledTo l m m.length) := Lib.hid (by rw [scaledOf, Nat.min_eq_right hk1])
        go_wp2
        go_ret
        rw [HE.out]
        exact HW.out.done
    · obtain rfl : k = l.length := by omega
      have HE : Hid (scaledOf l m = scaledTo l m l.length) := Lib.hid (by rw [scaledOf, Nat.min_eq_left hk2])
      go_wp2
      go_ret
      rw [HE.out]
      exact HW.out.done
set_option maxHeartbeats 1600000 in
theorem scaled_s (l m : List Int) (a b : Option Addr) (c1 c2 : Nat) (hl : l.length ≤ 1048576) (hm : m.length ≤ 1048576) (w : World) (hA : Rd w a l) (hB : Rd w b m) :
    Calls Try.prog 14 #[.slice a l.length c1, .slice b m.length c2] w (Gives (scaledOf l m) w) := by
  have HA := Lib.hid hA
  have HB := Lib.hid hB
  clear hA hB
  go_enter Try.func14, Try.ntmps14
  go_wp2
  go_loopw [5, 6] (fun v i wr => ∃ k : Nat, k ≤ l.length ∧ k ≤ m.length ∧ i = .int .i64 k ∧ Ow w wr v (scaledTo l m k)) (fun _ i _ => l.length - (intOf i).toNat)
  case atStart => exact ⟨0, Nat.zero_le _, Nat.zero_le _, rfl, Ow.made (Below.refl _ _)⟩
  case round =>
    obtain ⟨k, hk1, hk2, rfl, how⟩ := hrel
    have HW := Lib.hid how
    clear how
    by_cases hlt : k < l.length
    · by_cases hlt2 : k < m.length
      · rcases HA.out with ⟨b1, o1, rfl, hc1⟩ | hz
        · rcases HB.out with ⟨b2, o2, rfl, hc2⟩ | hz
          · have hc := hc1 k hlt
            have hd := hc2 k hlt2
            have hc' := (HW.out.bel.cell (World.block_lt_of_cell? _ _ hc)).trans hc
            have hd' := (HW.out.bel.cell (World.block_lt_of_cell? _ _ hd)).trans hd
            clear hc hd hc1 hc2
            have i0 : (0 : Int) ≤ ↑k := by omega
            have i1 : (k : Int) < ↑l.length := by omega
            have i2 : (k : Int) < ↑m.length := by omega
            have HL : Hid ((scaledTo l m k).length ≤ 1048576) := Lib.hid (by rw [scaledTo_len]; omega)
            have HV := Lib.hid (scaledV_in l m k)
            go_wp2
            go_region_law (first | (go_simp; (go_at_call 33; refine (clamped_s _ _).mono ?_; rintro e w' ⟨rfl, rfl⟩)) | (go_simp; (go_at_call 34; refine (brought_s _ _ _ _).mono ?_; rintro e w' ⟨rfl, rfl⟩)) | (go_loud (refine step_app (W := wr.drew) ⟨HW.out.bel.drew, HW.out.own⟩ rfl _ _ rfl (IntKind.i64.wrap (clamped (nth l k) * brought (nth m k) 0 1000)) (by simp [Act.eval]) (by simp [Act.eval]) HL.out ?_); intro v' w1 h1; rw [HV.out, ← scaledTo_succ] at h1))
            all_goals go_wp2
            all_goals go_roundw
            all_goals (first | exact ⟨k + 1, by omega, by omega, by go_num, h1⟩ | (simp [intOf]; omega))
          · omega
        · omega
      · obtain rfl : k = m.length := by omega
        have HE : Hid (scaledOf l m = scaledTo l m m.length) := Lib.hid (by rw [scaledOf, Nat.min_eq_right hk1])
        go_wp2
        go_ret
        rw [HE.out]
        exact HW.out.done
    · obtain rfl : k = l.length := by omega
      have HE : Hid (scaledOf l m = scaledTo l m l.length) := Lib.hid (by rw [scaledOf, Nat.min_eq_left hk2])
      go_wp2
      go_ret
      rw [HE.out]
      exact HW.out.done
end Go.Proofs.Ytniljjbpcgblmaa
