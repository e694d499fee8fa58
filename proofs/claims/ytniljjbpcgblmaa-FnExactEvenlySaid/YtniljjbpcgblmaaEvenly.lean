/- Contracts of Evenly. No condition. -/
import Derived.Test.YtniljjbpcgblmaaShares
namespace Go.Proofs.Ytniljjbpcgblmaa
open Go.RowKit Go.Deep
set_option linter.unusedVariables false
theorem Ow.up {w W W' : World} {v : Value} {l : List Int} (h : Below w.heap.size w W) (k : Ow W W' v l) : Ow w W' v l := by
  refine ⟨bel_call h k.bel, k.own.1, k.own.2.imp id ?_⟩
  rintro ⟨g, cap, cur, hv, hb, hr⟩
  exact ⟨g, cap, cur, hv, Nat.le_trans h.size hb, hr⟩
def ones (k : Nat) : List Int := List.replicate k 1
theorem ones_succ (k : Nat) : ones (k + 1) = ones k ++ [1] := List.replicate_succ'
theorem ones_len (k : Nat) : (ones k).length = k := List.length_replicate
def evenlyOf (n many : Int) : List Int := sharesOf n (ones (if 0 ≤ many ∧ many ≤ 64 then many.toNat else 0))
theorem evenly_in (n : Int) (m : Nat) (h : m ≤ 64) : evenlyOf n m = sharesOf n (ones m) := by
  rw [evenlyOf, if_pos (by omega)]; simp
theorem evenly_out (n many : Int) (h : ¬ (0 ≤ many ∧ many ≤ 64)) : evenlyOf n many = sharesOf n (ones 0) := by
  rw [evenlyOf, if_neg h]
theorem shares_none (n : Int) : sharesOf n (ones 0) = [] := rfl
theorem evenlyOf_len (n many : Int) : (evenlyOf n many).length ≤ 1048576 := by
  unfold evenlyOf
  refine Nat.le_trans (sharesOf_len _ _) ?_
  rw [ones_len]
  split <;> omega
set_option maxHeartbeats 1600000 in
theorem evenly_s (n many : Int) (w : World) :
    Calls Try.prog 22 #[.int .i64 n, .int .i64 many] w (Gives (evenlyOf n many) w) := by
  by_cases hr : 0 ≤ many ∧ many ≤ 64
  · obtain ⟨m, rfl⟩ : ∃ m : Nat, many = m := ⟨many.toNat, by omega⟩
    have hm : m ≤ 64 := by omega
    have HE := Lib.hid (evenly_in n m hm)
    clear hr
    go_enter Try.func22, Try.ntmps22
    go_wp2
    go_loopw [5, 6] (fun v i wr => ∃ k : Nat, k ≤ m ∧ i = .int .i64 k ∧ Ow w wr v (ones k)) (fun _ i _ => m - (intOf i).toNat)
    case atStart => exact ⟨0, Nat.zero_le _, rfl, Ow.made (Below.refl _ _)⟩
    case round =>
      obtain ⟨k, hk, rfl, how⟩ := hrel
      have HW := Lib.hid how
      clear how
      by_cases hlt : k < m
      · go_wp2_with (at_builtin; refine wpList_app HW.out rfl _ _ rfl 1 rfl rfl (by rw [ones_len]; omega) ?_; intro v' w1 h1)
        go_roundw
        case rel => exact ⟨k + 1, by omega, by go_num, by rw [ones_succ]; exact h1⟩
        case measure => simp [intOf]; omega
      · obtain rfl : k = m := by omega
        obtain ⟨a, cap, rfl, hrd⟩ := HW.out.rd
        have HR := Lib.hid hrd
        clear hrd
        go_wp2_with fail
        refine (shares_s n (ones k) a cap (by rw [ones_len]; omega) _ HR.out).mono ?_
        rintro e w' ⟨v, rfl, ho⟩
        have HO := Lib.hid ho
        clear ho
        go_wp2_with fail
        go_ret
        rw [HE.out]
        exact (Ow.up HW.out.bel HO.out).done
  · have HE := Lib.hid (evenly_out n many hr)
    have hr' : many < 0 ∨ 64 < many := by omega
    clear hr
    go_enter Try.func22, Try.ntmps22
    go_wp2
    go_loopw [5, 6] (fun v i wr => i = .int .i64 0 ∧ Ow w wr v (ones 0)) (fun _ _ _ => 0)
    case atStart => exact ⟨rfl, Ow.made (Below.refl _ _)⟩
    case round =>
      obtain ⟨rfl, how⟩ := hrel
      have HW := Lib.hid how
      clear how
      obtain ⟨a, cap, rfl, hrd⟩ := HW.out.rd
      have HR := Lib.hid hrd
      clear hrd
      rcases hr' with h | h
      all_goals
        go_wp2_with fail
        refine (shares_s n (ones 0) a cap (by rw [ones_len]; omega) _ HR.out).mono ?_
        rintro e w' ⟨v, rfl, ho⟩
        have HO := Lib.hid ho
        clear ho
        go_wp2_with fail
        go_ret
        rw [HE.out]
        exact (Ow.up HW.out.bel HO.out).done
set_option maxHeartbeats 1600000 in
theorem evenly_i (n many : Int) (w : World) :
    Calls Try.prog 23 #[.int .i64 n, .int .i64 many] w (Gives (evenlyOf n many) w) := by
  by_cases hr : 0 ≤ many ∧ many ≤ 64
  · obtain ⟨m, rfl⟩ : ∃ m : Nat, many = m := ⟨many.toNat, by omega⟩
    have hm : m ≤ 64 := by omega
    have HE := Lib.hid (evenly_in n m hm)
    have hin : inB (m : Int) 0 64 = true := by unfold inB; simp; omega
    clear hr
    go_enter Try.func23, Try.ntmps23
    go_wp2_with ((go_at_call 32; refine (in_i _ _ _ _).mono ?_; rintro e w' ⟨rfl, rfl⟩))
    go_loopw [5, 10] (fun v i wr => ∃ k : Nat, k ≤ m ∧ i = .int .i64 k ∧ Ow w wr v (ones k)) (fun _ i _ => m - (intOf i).toNat)
    case atStart => exact ⟨0, Nat.zero_le _, rfl, Ow.nil _⟩
    case round =>
      obtain ⟨k, hk, rfl, how⟩ := hrel
      have HW := Lib.hid how
      clear how
      by_cases hlt : k < m
      · go_wp2_with (at_builtin; refine wpList_app HW.out rfl _ _ rfl 1 rfl rfl (by rw [ones_len]; omega) ?_; intro v' w1 h1)
        go_roundw
        case rel => exact ⟨k + 1, by omega, by go_num, by rw [ones_succ]; exact h1⟩
        case measure => simp [intOf]; omega
      · obtain rfl : k = m := by omega
        obtain ⟨a, cap, rfl, hrd⟩ := HW.out.rd
        have HR := Lib.hid hrd
        clear hrd
        go_wp2_with fail
        refine (shares_i n (ones k) a cap (by rw [ones_len]; omega) _ HR.out).mono ?_
        rintro e w' ⟨v, rfl, ho⟩
        have HO := Lib.hid ho
        clear ho
        go_wp2_with fail
        go_ret
        rw [HE.out]
        exact (Ow.up HW.out.bel HO.out).done
  · have HE : Hid (evenlyOf n many = []) := Lib.hid (by rw [evenly_out n many hr, shares_none])
    have hin : inB many 0 64 = false := by unfold inB; simp; omega
    clear hr
    go_enter Try.func23, Try.ntmps23
    go_wp2_with ((go_at_call 32; refine (in_i _ _ _ _).mono ?_; rintro e w' ⟨rfl, rfl⟩))
    go_ret
    rw [HE.out]
    exact (Ow.nil _).done
end Go.Proofs.Ytniljjbpcgblmaa
