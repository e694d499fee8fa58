/- Contracts of Shares. No condition. -/
import Derived.Test.YtniljjbpcgblmaaOwn
import Derived.Test.YtniljjbpcgblmaaWeights
namespace Go.Proofs.Ytniljjbpcgblmaa
open Go.RowKit Go.Deep
set_option linter.unusedVariables false
def preW (l : List Int) : Nat → Int
  | 0 => 0
  | k + 1 => wrap64 (preW l k + nth l k)
def shareV (m : Int) (l : List Int) (k : Nat) : Int := wrap64 (floorDiv (wrap64 (m * preW l (k + 1))) (preW l l.length) - floorDiv (wrap64 (m * preW l k)) (preW l l.length))
def sharesTo (m : Int) (l : List Int) (k : Nat) : List Int := (List.range k).map (shareV m l)
def sharesOf (n : Int) (l : List Int) : List Int := if weightsOkB l = true then sharesTo (signed n) l l.length else []
theorem sharesTo_succ (m : Int) (l : List Int) (k : Nat) : sharesTo m l (k + 1) = sharesTo m l k ++ [shareV m l k] := by simp [sharesTo, List.range_succ]
theorem sharesTo_len (m : Int) (l : List Int) (k : Nat) : (sharesTo m l k).length = k := by simp [sharesTo]
theorem preW_in (l : List Int) : ∀ k, In64 (preW l k)
  | 0 => ⟨by simp [preW], by simp [preW]⟩
  | k + 1 => w64_in _
set_option maxHeartbeats 800000 in
theorem weightsOkR_i (l : List Int) (a : Option Addr) (cap : Nat) (hl : l.length ≤ 1048576) (w : World) (hr : Rd w a l) :
    Calls Try.prog 12 #[.slice a l.length cap] w fun e w' => e = .returned (.bool (weightsOkB l)) ∧ w = w' := by
  have HR := Lib.hid hr
  clear hr
  go_enter Try.func12, Try.ntmps12
  go_wp2
  go_loop [7] (fun i => ∃ k : Nat, k ≤ l.length ∧ i = .int .i64 k ∧ OkTo l k) (fun i => l.length - (intOf i).toNat)
  case atStart => exact ⟨0, Nat.zero_le _, rfl, fun i hi => by omega⟩
  case round =>
    obtain ⟨k, hk, rfl, hok⟩ := hrel
    have HO := Lib.hid hok
    clear hok
    by_cases hlt : k < l.length
    · rcases HR.out with ⟨b, off, rfl, hcell⟩ | h0
      · have hc := hcell k hlt
        clear hcell
        rcases Bool.eq_false_or_eq_true (inB (nth l k) 0 1073741824) with hb | hb
        · have HB := Lib.hid hb
          go_wp2_with ((go_at_call 32; refine (in_i _ _ _ _).mono ?_; rintro e w' ⟨rfl, rfl⟩))
          go_round
          case rel => exact ⟨k + 1, by omega, by go_num, HO.out.succ HB.out⟩
          case measure => simp [intOf]; omega
        · have HB := Lib.hid hb
          go_wp2_with ((go_at_call 32; refine (in_i _ _ _ _).mono ?_; rintro e w' ⟨rfl, rfl⟩))
          go_ret
          exact ⟨ret_bool (weights_no hlt HB.out).symm, rfl⟩
      · omega
    · obtain rfl : k = l.length := by omega
      go_wp2
      go_ret
      exact ⟨ret_bool (by simp [weightsOkB, all_nth HO.out] <;> omega), rfl⟩
set_option maxHeartbeats 800000 in
theorem weightsOkR_s (l : List Int) (a : Option Addr) (cap : Nat) (hl : l.length ≤ 1048576) (w : World) (hr : Rd w a l) :
    Calls Try.prog 10 #[.slice a l.length cap] w fun e w' => e = .returned (.bool (weightsOkB l)) ∧ w = w' := by
  have HR := Lib.hid hr
  clear hr
  go_enter Try.func10, Try.ntmps10
  go_wp2
  go_loop [3] (fun i => ∃ k : Nat, k ≤ l.length ∧ i = .int .i64 k ∧ OkTo l k) (fun i => l.length - (intOf i).toNat)
  case atStart => exact ⟨0, Nat.zero_le _, rfl, fun i hi => by omega⟩
  case round =>
    obtain ⟨k, hk, rfl, hok⟩ := hrel
    have HO := Lib.hid hok
    clear hok
    by_cases hlt : k < l.length
    · rcases HR.out with ⟨b, off, rfl, hcell⟩ | h0
      · have hc := hcell k hlt
        clear hcell
        rcases Bool.eq_false_or_eq_true (inB (nth l k) 0 1073741824) with hb | hb
        · have HB := Lib.hid hb
          go_wp2_with ((go_at_call 31; refine (in_s _ _ _ _).mono ?_; rintro e w' ⟨rfl, rfl⟩))
          go_round
          case rel => exact ⟨k + 1, by omega, by go_num, HO.out.succ HB.out⟩
          case measure => simp [intOf]; omega
        · have HB := Lib.hid hb
          go_wp2_with ((go_at_call 31; refine (in_s _ _ _ _).mono ?_; rintro e w' ⟨rfl, rfl⟩))
          go_ret
          exact ⟨ret_bool (weights_no hlt HB.out).symm, rfl⟩
      · omega
    · obtain rfl : k = l.length := by omega
      go_wp2
      go_ret
      exact ⟨ret_bool (by simp [weightsOkB, all_nth HO.out] <;> omega), rfl⟩
set_option maxHeartbeats 1600000 in
theorem shares_i (n : Int) (l : List Int) (a : Option Addr) (cap : Nat) (hl : l.length ≤ 1048576) (w : World) (hr : Rd w a l) :
    Calls Try.prog 19 #[.int .i64 n, .slice a l.length cap] w (Gives (sharesOf n l) w) := by
  have HR := Lib.hid hr
  clear hr
  rcases Bool.eq_false_or_eq_true (weightsOkB l) with hw | hw
  · have HE : Hid (sharesOf n l = sharesTo (signed n) l l.length) := Lib.hid (by rw [sharesOf, if_pos hw])
    go_enter Try.func19, Try.ntmps19
    go_wp2_with (first | (go_at_call 12; refine (weightsOkR_i l a cap hl _ HR.out).mono ?_; rintro e w' ⟨rfl, rfl⟩) | (go_at_call 39; refine (signed_i _ _).mono ?_; rintro e w' ⟨rfl, rfl⟩))
    clear hw
    go_loop [5, 19] (fun s i => ∃ k : Nat, k ≤ l.length ∧ i = .int .i64 k ∧ s = .int .i64 (preW l k)) (fun _ i => l.length - (intOf i).toNat)
    case atStart => exact ⟨0, Nat.zero_le _, rfl, rfl⟩
    case round =>
      obtain ⟨k, hk, rfl, rfl⟩ := hrel
      by_cases hlt : k < l.length
      · rcases HR.out with ⟨b, off, rfl, hcell⟩ | h0
        · have hc := hcell k hlt
          clear hcell
          go_wp2
          go_round
          case rel => exact ⟨k + 1, by omega, by go_num, rfl⟩
          case measure => simp [intOf]; omega
        · omega
      · obtain rfl : k = l.length := by omega
        go_wp2
        go_loopw [8, 9, 29] (fun v s i wr => ∃ k : Nat, k ≤ l.length ∧ i = .int .i64 k ∧ s = .int .i64 (preW l k) ∧ Ow w wr v (sharesTo (signed n) l k)) (fun _ _ i _ => l.length - (intOf i).toNat)
        case atStart => exact ⟨0, Nat.zero_le _, rfl, rfl, Ow.nil _⟩
        case round =>
          obtain ⟨k, hk, rfl, rfl, how⟩ := hrel
          have HW := Lib.hid how
          clear how
          by_cases hlt : k < l.length
          · rcases HR.out with ⟨b, off, rfl, hcell⟩ | h0
            · have hc := hcell k hlt
              have hc' := (HW.out.bel.cell (World.block_lt_of_cell? _ _ hc)).trans hc
              clear hcell hc
              go_wp2_with (first | (go_at_call 40; refine (floorDiv_i _ _ (w64_in _) (preW_in _ _) _).mono ?_; rintro e w' ⟨rfl, rfl⟩) | (at_builtin; refine wpList_app HW.out rfl _ _ rfl (shareV (signed n) l k) rfl rfl (by rw [sharesTo_len]; omega) ?_; intro v' w1 h1))
              go_roundw
              case rel => exact ⟨k + 1, by omega, by go_num, rfl, by rw [sharesTo_succ]; exact h1⟩
              case measure => simp [intOf]; omega
            · omega
          · obtain rfl : k = l.length := by omega
            go_wp2
            go_ret
            rw [HE.out]
            exact HW.out.done
  · have HE : Hid (sharesOf n l = []) := Lib.hid (by rw [sharesOf, hw]; rfl)
    go_enter Try.func19, Try.ntmps19
    go_wp2_with (first | (go_at_call 12; refine (weightsOkR_i l a cap hl _ HR.out).mono ?_; rintro e w' ⟨rfl, rfl⟩) | (go_at_call 39; refine (signed_i _ _).mono ?_; rintro e w' ⟨rfl, rfl⟩))
    go_ret
    rw [HE.out]
    exact (Ow.nil _).done
set_option maxHeartbeats 1600000 in
theorem shares_s (n : Int) (l : List Int) (a : Option Addr) (cap : Nat) (hl : l.length ≤ 1048576) (w : World) (hr : Rd w a l) :
    Calls Try.prog 18 #[.int .i64 n, .slice a l.length cap] w (Gives (sharesOf n l) w) := by
  have HR := Lib.hid hr
  have HS := Lib.hid (hr.below (bel_alloc (Below.refl w.heap.size w) (.cells #[] 3)))
  clear hr
  rcases Bool.eq_false_or_eq_true (weightsOkB l) with hw | hw
  · have HE : Hid (sharesOf n l = sharesTo (signed n) l l.length) := Lib.hid (by rw [sharesOf, if_pos hw])
    go_enter Try.func18, Try.ntmps18
    go_wp2_with (first | (go_at_call 10; refine (weightsOkR_s l a cap hl _ HS.out).mono ?_; rintro e w' ⟨rfl, rfl⟩) | (go_at_call 37; refine (signed_s _ _).mono ?_; rintro e w' ⟨rfl, rfl⟩))
    clear hw
    go_loop [6, 7] (fun s i => ∃ k : Nat, k ≤ l.length ∧ i = .int .i64 k ∧ s = .int .i64 (preW l k)) (fun _ i => l.length - (intOf i).toNat)
    case atStart => exact ⟨0, Nat.zero_le _, rfl, rfl⟩
    case round =>
      obtain ⟨k, hk, rfl, rfl⟩ := hrel
      by_cases hlt : k < l.length
      · rcases HS.out with ⟨b, off, rfl, hcell⟩ | h0
        · have hc := hcell k hlt
          clear hcell
          go_wp2
          go_round
          case rel => exact ⟨k + 1, by omega, by go_num, rfl⟩
          case measure => simp [intOf]; omega
        · omega
      · obtain rfl : k = l.length := by omega
        go_wp2_with ((go_at_call 37; refine (signed_s _ _).mono ?_; rintro e w' ⟨rfl, rfl⟩))
        go_loopw [5, 8, 9] (fun v s i wr => ∃ k : Nat, k ≤ l.length ∧ i = .int .i64 k ∧ s = .int .i64 (preW l k) ∧ Ow w wr v (sharesTo (signed n) l k)) (fun _ _ i _ => l.length - (intOf i).toNat)
        case atStart => exact ⟨0, Nat.zero_le _, rfl, rfl, Ow.made (Below.refl _ _)⟩
        case round =>
          obtain ⟨k, hk, rfl, rfl, how⟩ := hrel
          have HW := Lib.hid how
          clear how
          by_cases hlt : k < l.length
          · rcases HR.out with ⟨b, off, rfl, hcell⟩ | h0
            · have hc := hcell k hlt
              have hc' := (HW.out.bel.cell (World.block_lt_of_cell? _ _ hc)).trans hc
              clear hcell hc
              go_wp2_with (first | (go_at_call 38; refine (floorDiv_s _ _ (w64_in _) (preW_in _ _) _).mono ?_; rintro e w' ⟨rfl, rfl⟩) | (at_builtin; refine wpList_app HW.out rfl _ _ rfl (shareV (signed n) l k) rfl rfl (by rw [sharesTo_len]; omega) ?_; intro v' w1 h1))
              go_roundw
              case rel => exact ⟨k + 1, by omega, by go_num, rfl, by rw [sharesTo_succ]; exact h1⟩
              case measure => simp [intOf]; omega
            · omega
          · obtain rfl : k = l.length := by omega
            go_wp2
            go_ret
            rw [HE.out]
            exact HW.out.done
  · have HE : Hid (sharesOf n l = []) := Lib.hid (by rw [sharesOf, hw]; rfl)
    go_enter Try.func18, Try.ntmps18
    go_wp2_with (first | (go_at_call 10; refine (weightsOkR_s l a cap hl _ HS.out).mono ?_; rintro e w' ⟨rfl, rfl⟩) | (go_at_call 37; refine (signed_s _ _).mono ?_; rintro e w' ⟨rfl, rfl⟩))
    go_ret
    rw [HE.out]
    exact (Ow.made (Below.refl _ _)).done
theorem sharesOf_len (n : Int) (l : List Int) : (sharesOf n l).length ≤ l.length := by
  unfold sharesOf
  split
  · rw [sharesTo_len]; omega
  · simp
def elemOf (l : List Int) (i : Int) : Int := if i < 0 ∨ (l.length : Int) ≤ i then 0 else nth l i.toNat
set_option maxHeartbeats 800000 in
theorem elementOf_i (l : List Int) (a : Option Addr) (cap : Nat) (i : Int) (hl : l.length ≤ 1048576) (w : World) (hr : Rd w a l) :
    Calls Try.prog 41 #[.slice a l.length cap, .int .i64 i] w fun e w' => e = .returned (.int .i64 (elemOf l i)) ∧ w = w' := by
  by_cases h : i < 0 ∨ (l.length : Int) ≤ i
  · have HE : Hid (elemOf l i = 0) := Lib.hid (by rw [elemOf, if_pos h])
    clear hr
    by_cases h0 : i < 0
    · clear h
      go_enter Try.func41, Try.ntmps41
      go_wp2
      go_ret
      exact ⟨ret_int HE.out.symm, rfl⟩
    · have h1 : (l.length : Int) ≤ i := by omega
      clear h
      go_enter Try.func41, Try.ntmps41
      go_wp2
      go_ret
      exact ⟨ret_int HE.out.symm, rfl⟩
  · have HE : Hid (elemOf l i = nth l i.toNat) := Lib.hid (by rw [elemOf, if_neg h])
    obtain ⟨k, rfl⟩ : ∃ k : Nat, i = k := ⟨i.toNat, by omega⟩
    have hlt : k < l.length := by omega
    clear h
    rcases hr with ⟨b, off, rfl, hcell⟩ | h0
    · have hc := hcell k hlt
      clear hcell
      go_enter Try.func41, Try.ntmps41
      go_wp2
      go_ret
      exact ⟨ret_int (by rw [HE.out]; simp), rfl⟩
    · omega
end Go.Proofs.Ytniljjbpcgblmaa
