/- The contract of WeightsOk. No condition. -/
import Derived.Test.YtniljjbpcgblmaaToInts
namespace Go.Proofs.Ytniljjbpcgblmaa
open Go.RowKit Go.Deep
set_option linter.unusedVariables false
def weightsOkB (l : List Int) : Bool := l.all (fun x => inB x 0 1073741824) && decide (l.length ≤ 64)
theorem all_nth {l : List Int} (h : ∀ i, i < l.length → inB (nth l i) 0 1073741824 = true) : l.all (fun x => inB x 0 1073741824) = true := by
  rw [List.all_eq_true]
  intro x hx
  obtain ⟨i, hi, rfl⟩ := List.mem_iff_getElem.mp hx
  have := h i hi
  simpa [nth, hi, List.getD_eq_getElem?_getD] using this
theorem weights_no {l : List Int} {k : Nat} (hk : k < l.length) (h : inB (nth l k) 0 1073741824 = false) : weightsOkB l = false := by
  have : l.all (fun x => inB x 0 1073741824) = false := by
    rw [List.all_eq_false]
    exact ⟨l[k], List.getElem_mem hk, by simpa [nth, hk, List.getD_eq_getElem?_getD] using h⟩
  simp [weightsOkB, this]
/-- The first k weights are right. -/
def OkTo (l : List Int) (k : Nat) : Prop := ∀ i, i < k → inB (nth l i) 0 1073741824 = true
theorem OkTo.succ {l : List Int} {k : Nat} (h : OkTo l k) (hk : inB (nth l k) 0 1073741824 = true) : OkTo l (k + 1) := fun i hi => by
  by_cases e : i = k
  · rw [e]; exact hk
  · exact h i (by omega)
set_option maxHeartbeats 800000 in
theorem weightsOk_i (l : List Int) (g : Nat) (hl : l.length ≤ 1048576) (w : World) (hA : w.heap[g]? = some (.cells (arr l) 3 (0, 0))) :
    Calls Try.prog 12 #[.slice (some ⟨g, 0, none⟩) l.length l.length] w fun e w' => e = .returned (.bool (weightsOkB l)) ∧ w = w' := by
  have HC := Lib.hid (cell_made hA)
  clear hA
  go_enter Try.func12, Try.ntmps12
  go_wp2
  go_loop [7] (fun i => ∃ k : Nat, k ≤ l.length ∧ i = .int .i64 k ∧ OkTo l k) (fun i => l.length - (intOf i).toNat)
  case atStart => exact ⟨0, Nat.zero_le _, rfl, fun i hi => by omega⟩
  case round =>
    obtain ⟨k, hk, rfl, hok⟩ := hrel
    have HO := Lib.hid hok
    clear hok
    by_cases hlt : k < l.length
    · have hc := HC.out k hlt
      rcases Bool.eq_false_or_eq_true (inB (nth l k) 0 1073741824) with hb | hb
      · have HB := Lib.hid hb
        go_wp2_with ((go_at_call 32; refine (in_i _ _ _ _).mono ?_; rintro e w' ⟨rfl, rfl⟩))
        go_round
        case rel => exact ⟨k + 1, by omega, by go_num, HO.out.succ HB.out⟩
        case measure => simp [intOf]; omega
      · have HB := Lib.hid hb
        go_wp2_with ((go_at_call 32; refine (in_i _ _ _ _).mono ?_; rintro e w' ⟨rfl, rfl⟩))
        go_ret
        exact ⟨ret_bool (weights_no hlt HB.out).symm, rfl⟩
    · obtain rfl : k = l.length := by omega
      go_wp2
      go_ret
      exact ⟨ret_bool (by simp [weightsOkB, all_nth HO.out] <;> omega), rfl⟩
set_option maxHeartbeats 800000 in
theorem weightsOk_s (l : List Int) (g : Nat) (hl : l.length ≤ 1048576) (w : World) (hA : w.heap[g]? = some (.cells (arr l) 3 (0, 0))) :
    Calls Try.prog 10 #[.slice (some ⟨g, 0, none⟩) l.length l.length] w fun e w' => e = .returned (.bool (weightsOkB l)) ∧ w = w' := by
  have HC := Lib.hid (cell_made hA)
  clear hA
  go_enter Try.func10, Try.ntmps10
  go_wp2
  go_loop [3] (fun i => ∃ k : Nat, k ≤ l.length ∧ i = .int .i64 k ∧ OkTo l k) (fun i => l.length - (intOf i).toNat)
  case atStart => exact ⟨0, Nat.zero_le _, rfl, fun i hi => by omega⟩
  case round =>
    obtain ⟨k, hk, rfl, hok⟩ := hrel
    have HO := Lib.hid hok
    clear hok
    by_cases hlt : k < l.length
    · have hc := HC.out k hlt
      rcases Bool.eq_false_or_eq_true (inB (nth l k) 0 1073741824) with hb | hb
      · have HB := Lib.hid hb
        go_wp2_with ((go_at_call 31; refine (in_s _ _ _ _).mono ?_; rintro e w' ⟨rfl, rfl⟩))
        go_round
        case rel => exact ⟨k + 1, by omega, by go_num, HO.out.succ HB.out⟩
        case measure => simp [intOf]; omega
      · have HB := Lib.hid hb
        go_wp2_with ((go_at_call 31; refine (in_s _ _ _ _).mono ?_; rintro e w' ⟨rfl, rfl⟩))
        go_ret
        exact ⟨ret_bool (weights_no hlt HB.out).symm, rfl⟩
    · obtain rfl : k = l.length := by omega
      go_wp2
      go_ret
      exact ⟨ret_bool (by simp [weightsOkB, all_nth HO.out] <;> omega), rfl⟩
end Go.Proofs.Ytniljjbpcgblmaa
