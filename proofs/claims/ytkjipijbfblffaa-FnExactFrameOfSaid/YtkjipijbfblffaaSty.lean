/- Contracts of the small functions over styles. No condition. -/
import Derived.Test.YtkjipijbfblffaaCore2
import Derived.Test.YtkjipijbfblffaaConv
namespace Go.Proofs.Ytkjipijbfblffaa
open Go.RowKit
set_option linter.unusedVariables false
set_option maxRecDepth 100000 in
set_option maxHeartbeats 800000 in
theorem isRow_i (g : Nat → Int) (q : Nat → Bool) (w : World) :
    Calls Try.prog 17 #[.agg (syA g q)] w fun e w' => e = .returned (.bool (isRowB (g 0))) ∧ Below w.heap.size w w' := by
  have h0 := syA_int g q 0 rfl
  go_enter Try.func17, Try.ntmps17
  go_wp2
  all_goals (go_ret; exact ⟨ret_bool (by unfold isRowB; simp_all), by (repeat (first | exact Below.refl _ _ | assumption | (refine bel_call ?_ (by assumption)) | (refine bel_alloc ?_ _) | (refine Below.drew ?_) | (refine bel_drewN ?_ _) | (refine Below.setCell ?_ (by first | exact Nat.le_refl _ | (simp; done) | (simp; omega)) _)))⟩)
set_option maxRecDepth 100000 in
set_option maxHeartbeats 800000 in
theorem isRow_s (g : Nat → Int) (q : Nat → Bool) (w : World) :
    Calls Try.prog 15 #[.agg (syA g q)] w fun e w' => e = .returned (.bool (isRowB (g 0))) ∧ Below w.heap.size w w' := by
  have h0 := syA_int g q 0 rfl
  go_enter Try.func15, Try.ntmps15
  go_wp2
  all_goals (go_ret; exact ⟨ret_bool (by unfold isRowB; simp_all), by (repeat (first | exact Below.refl _ _ | assumption | (refine bel_call ?_ (by assumption)) | (refine bel_alloc ?_ _) | (refine Below.drew ?_) | (refine bel_drewN ?_ _) | (refine Below.setCell ?_ (by first | exact Nat.le_refl _ | (simp; done) | (simp; omega)) _)))⟩)
set_option maxRecDepth 100000 in
set_option maxHeartbeats 800000 in
theorem mainBack_i (g : Nat → Int) (q : Nat → Bool) (rtl : Bool) (w : World) :
    Calls Try.prog 23 #[.agg (syA g q), .bool rtl] w fun e w' => e = .returned (.bool (mainBackB (g 0) rtl)) ∧ Below w.heap.size w w' := by
  have h0 := syA_int g q 0 rfl
  cases rtl
  all_goals
    go_enter Try.func23, Try.ntmps23
    go_wp2
    all_goals (go_ret; exact ⟨ret_bool (by unfold mainBackB; simp_all), by (repeat (first | exact Below.refl _ _ | assumption | (refine bel_call ?_ (by assumption)) | (refine bel_alloc ?_ _) | (refine Below.drew ?_) | (refine bel_drewN ?_ _) | (refine Below.setCell ?_ (by first | exact Nat.le_refl _ | (simp; done) | (simp; omega)) _)))⟩)
set_option maxRecDepth 100000 in
set_option maxHeartbeats 800000 in
theorem mainBack_s (g : Nat → Int) (q : Nat → Bool) (rtl : Bool) (w : World) :
    Calls Try.prog 22 #[.agg (syA g q), .bool rtl] w fun e w' => e = .returned (.bool (mainBackB (g 0) rtl)) ∧ Below w.heap.size w w' := by
  have h0 := syA_int g q 0 rfl
  cases rtl
  all_goals
    go_enter Try.func22, Try.ntmps22
    go_wp2
    all_goals (go_ret; exact ⟨ret_bool (by unfold mainBackB; simp_all), by (repeat (first | exact Below.refl _ _ | assumption | (refine bel_call ?_ (by assumption)) | (refine bel_alloc ?_ _) | (refine Below.drew ?_) | (refine bel_drewN ?_ _) | (refine Below.setCell ?_ (by first | exact Nat.le_refl _ | (simp; done) | (simp; omega)) _)))⟩)
set_option maxRecDepth 100000 in
set_option maxHeartbeats 800000 in
theorem axisSides_i (row back : Bool) (w : World) :
    Calls Try.prog 46 #[.bool row, .bool back] w fun e w' => e = .returned (.tuple #[.int .i64 (firstSide row back), .int .i64 (lastSide row back)]) ∧ w = w' := by
  cases row <;> cases back
  all_goals
    go_enter Try.func46, Try.ntmps46
    go_wp2
    go_ret2
    exact ⟨rfl, rfl⟩
set_option maxRecDepth 100000 in
set_option maxHeartbeats 800000 in
theorem axisSides_s (row back : Bool) (w : World) :
    Calls Try.prog 45 #[.bool row, .bool back] w fun e w' => e = .returned (.tuple #[.int .i64 (firstSide row back), .int .i64 (lastSide row back)]) ∧ w = w' := by
  cases row <;> cases back
  all_goals
    go_enter Try.func45, Try.ntmps45
    go_wp2
    go_ret2
    exact ⟨rfl, rfl⟩
set_option maxRecDepth 100000 in
set_option maxHeartbeats 800000 in
theorem gapOf_i (g : Nat → Int) (q : Nat → Bool) (wide : Bool) (w : World) :
    Calls Try.prog 31 #[.agg (syA g q), .bool wide] w fun e w' => e = .returned (.int .i64 (gapOf g wide)) ∧ Below w.heap.size w w' := by
  have h58 := syA_int g q 58 rfl; have h59 := syA_int g q 59 rfl
  cases wide
  all_goals
    go_enter Try.func31, Try.ntmps31
    go_wp2_with ((go_at_call 48; refine (clamped_i _ _).mono ?_; rintro e w' ⟨rfl, rfl⟩))
    go_ret
    exact ⟨rfl, by (repeat (first | exact Below.refl _ _ | assumption | (refine bel_call ?_ (by assumption)) | (refine bel_alloc ?_ _) | (refine Below.drew ?_) | (refine bel_drewN ?_ _) | (refine Below.setCell ?_ (by first | exact Nat.le_refl _ | (simp; done) | (simp; omega)) _)))⟩
set_option maxRecDepth 100000 in
set_option maxHeartbeats 800000 in
theorem gapOf_s (g : Nat → Int) (q : Nat → Bool) (wide : Bool) (w : World) :
    Calls Try.prog 30 #[.agg (syA g q), .bool wide] w fun e w' => e = .returned (.int .i64 (gapOf g wide)) ∧ Below w.heap.size w w' := by
  have h58 := syA_int g q 58 rfl; have h59 := syA_int g q 59 rfl
  cases wide
  all_goals
    go_enter Try.func30, Try.ntmps30
    go_wp2_with ((go_at_call 47; refine (clamped_s _ _).mono ?_; rintro e w' ⟨rfl, rfl⟩))
    go_ret
    exact ⟨rfl, by (repeat (first | exact Below.refl _ _ | assumption | (refine bel_call ?_ (by assumption)) | (refine bel_alloc ?_ _) | (refine Below.drew ?_) | (refine bel_drewN ?_ _) | (refine Below.setCell ?_ (by first | exact Nat.le_refl _ | (simp; done) | (simp; omega)) _)))⟩

end Go.Proofs.Ytkjipijbfblffaa
