/- Contracts of the small functions over styles. No condition. -/
import Derived.Test.YtcmanaklojomeaaCore2
import Derived.Test.YtcmanaklojomeaaConv
namespace Go.Proofs.Ytcmanaklojomeaa
open Go.RowKit
set_option linter.unusedVariables false
set_option maxRecDepth 100000 in
set_option maxHeartbeats 800000 in
theorem isRow_i (g : Nat → Int) (q : Nat → Bool) (w : World) :
    Calls Try.prog 29 #[.agg (syA g q)] w fun e w' => e = .returned (.bool (isRowB (g 0))) ∧ Below w.heap.size w w' := by
  have h0 := syA_int g q 0 rfl
  go_enter Try.func29, Try.ntmps29
  go_wp2
  all_goals (go_ret; exact ⟨ret_bool (by unfold isRowB; simp_all), by (repeat (first | exact Below.refl _ _ | assumption | (refine bel_call ?_ (by assumption)) | (refine bel_alloc ?_ _) | (refine Below.drew ?_) | (refine bel_drewN ?_ _) | (refine Below.setCell ?_ (by first | exact Nat.le_refl _ | assumption | (simp; done) | (simp; omega)) _)))⟩)
set_option maxRecDepth 100000 in
set_option maxHeartbeats 800000 in
theorem isRow_s (g : Nat → Int) (q : Nat → Bool) (w : World) :
    Calls Try.prog 33 #[.agg (syA g q)] w fun e w' => e = .returned (.bool (isRowB (g 0))) ∧ Below w.heap.size w w' := by
  have h0 := syA_int g q 0 rfl
  go_enter Try.func33, Try.ntmps33
  go_wp2
  all_goals (go_ret; exact ⟨ret_bool (by unfold isRowB; simp_all), by (repeat (first | exact Below.refl _ _ | assumption | (refine bel_call ?_ (by assumption)) | (refine bel_alloc ?_ _) | (refine Below.drew ?_) | (refine bel_drewN ?_ _) | (refine Below.setCell ?_ (by first | exact Nat.le_refl _ | assumption | (simp; done) | (simp; omega)) _)))⟩)
set_option maxRecDepth 100000 in
set_option maxHeartbeats 800000 in
theorem mainBack_i (g : Nat → Int) (q : Nat → Bool) (rtl : Bool) (w : World) :
    Calls Try.prog 34 #[.agg (syA g q), .bool rtl] w fun e w' => e = .returned (.bool (mainBackB (g 0) rtl)) ∧ Below w.heap.size w w' := by
  have h0 := syA_int g q 0 rfl
  cases rtl
  all_goals
    go_enter Try.func34, Try.ntmps34
    go_wp2
    all_goals (go_ret; exact ⟨ret_bool (by unfold mainBackB; simp_all), by (repeat (first | exact Below.refl _ _ | assumption | (refine bel_call ?_ (by assumption)) | (refine bel_alloc ?_ _) | (refine Below.drew ?_) | (refine bel_drewN ?_ _) | (refine Below.setCell ?_ (by first | exact Nat.le_refl _ | assumption | (simp; done) | (simp; omega)) _)))⟩)
set_option maxRecDepth 100000 in
set_option maxHeartbeats 800000 in
theorem mainBack_s (g : Nat → Int) (q : Nat → Bool) (rtl : Bool) (w : World) :
    Calls Try.prog 35 #[.agg (syA g q), .bool rtl] w fun e w' => e = .returned (.bool (mainBackB (g 0) rtl)) ∧ Below w.heap.size w w' := by
  have h0 := syA_int g q 0 rfl
  cases rtl
  all_goals
    go_enter Try.func35, Try.ntmps35
    go_wp2
    all_goals (go_ret; exact ⟨ret_bool (by unfold mainBackB; simp_all), by (repeat (first | exact Below.refl _ _ | assumption | (refine bel_call ?_ (by assumption)) | (refine bel_alloc ?_ _) | (refine Below.drew ?_) | (refine bel_drewN ?_ _) | (refine Below.setCell ?_ (by first | exact Nat.le_refl _ | assumption | (simp; done) | (simp; omega)) _)))⟩)
set_option maxRecDepth 100000 in
set_option maxHeartbeats 800000 in
theorem axisSides_i (row back : Bool) (w : World) :
    Calls Try.prog 80 #[.bool row, .bool back] w fun e w' => e = .returned (.tuple #[.int .i64 (firstSide row back), .int .i64 (lastSide row back)]) ∧ w = w' := by
  cases row <;> cases back
  all_goals
    go_enter Try.func80, Try.ntmps80
    go_wp2
    go_ret2
    exact ⟨rfl, rfl⟩
set_option maxRecDepth 100000 in
set_option maxHeartbeats 800000 in
theorem axisSides_s (row back : Bool) (w : World) :
    Calls Try.prog 81 #[.bool row, .bool back] w fun e w' => e = .returned (.tuple #[.int .i64 (firstSide row back), .int .i64 (lastSide row back)]) ∧ w = w' := by
  cases row <;> cases back
  all_goals
    go_enter Try.func81, Try.ntmps81
    go_wp2
    go_ret2
    exact ⟨rfl, rfl⟩
set_option maxRecDepth 100000 in
set_option maxHeartbeats 800000 in
theorem gapOf_i (g : Nat → Int) (q : Nat → Bool) (wide : Bool) (w : World) :
    Calls Try.prog 68 #[.agg (syA g q), .bool wide] w fun e w' => e = .returned (.int .i64 (gapOf g wide)) ∧ Below w.heap.size w w' := by
  have h58 := syA_int g q 58 rfl; have h59 := syA_int g q 59 rfl
  cases wide
  all_goals
    go_enter Try.func68, Try.ntmps68
    go_wp2_with ((go_at_call 17; refine (clamped_i _ _).mono ?_; rintro e w' ⟨rfl, rfl⟩))
    go_ret
    exact ⟨rfl, by (repeat (first | exact Below.refl _ _ | assumption | (refine bel_call ?_ (by assumption)) | (refine bel_alloc ?_ _) | (refine Below.drew ?_) | (refine bel_drewN ?_ _) | (refine Below.setCell ?_ (by first | exact Nat.le_refl _ | assumption | (simp; done) | (simp; omega)) _)))⟩
set_option maxRecDepth 100000 in
set_option maxHeartbeats 800000 in
theorem gapOf_s (g : Nat → Int) (q : Nat → Bool) (wide : Bool) (w : World) :
    Calls Try.prog 69 #[.agg (syA g q), .bool wide] w fun e w' => e = .returned (.int .i64 (gapOf g wide)) ∧ Below w.heap.size w w' := by
  have h58 := syA_int g q 58 rfl; have h59 := syA_int g q 59 rfl
  cases wide
  all_goals
    go_enter Try.func69, Try.ntmps69
    go_wp2_with ((go_at_call 24; refine (clamped_s _ _).mono ?_; rintro e w' ⟨rfl, rfl⟩))
    go_ret
    exact ⟨rfl, by (repeat (first | exact Below.refl _ _ | assumption | (refine bel_call ?_ (by assumption)) | (refine bel_alloc ?_ _) | (refine Below.drew ?_) | (refine bel_drewN ?_ _) | (refine Below.setCell ?_ (by first | exact Nat.le_refl _ | assumption | (simp; done) | (simp; omega)) _)))⟩

end Go.Proofs.Ytcmanaklojomeaa
