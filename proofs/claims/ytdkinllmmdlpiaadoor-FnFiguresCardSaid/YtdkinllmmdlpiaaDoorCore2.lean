/- Contracts of the functions over values, edges and sides. No condition. -/
import Derived.Test.YtdkinllmmdlpiaaDoorCore
import Derived.StillTailTactics
import Derived.IntWalk
namespace Go.Proofs.YtdkinllmmdlpiaaDoor
open Go.RowKit
set_option linter.unusedVariables false

set_option maxHeartbeats 400000 in
theorem l04N_s (n : Int) (w : World) :
    Calls Tryd.prog 42 #[.int .i64 n] w fun e w' => e = .returned (.int .i64 (brought n (-1000000) 1000000)) ∧ w = w' := by
  go_enter Tryd.func42, Tryd.ntmps42
  go_wp2_with ((go_at_call 51; refine (brought_s _ _ _ _).mono ?_; rintro e w' ⟨rfl, rfl⟩))
  go_ret
  exact ⟨rfl, rfl⟩
set_option maxHeartbeats 400000 in
theorem lengthOf_i (k n base : Int) (w : World) :
    Calls Tryd.prog 21 #[.agg #[.int .i64 k, .int .i64 n], .int .i64 base] w fun e w' => e = .returned (.int .i64 (lengthOf k n base)) ∧ Below w.heap.size w w' := by
  have h1 := (length_bd n base).2.1
  have h2 := (length_bd n base).2.2
  go_enter Tryd.func21, Tryd.ntmps21
  go_wp2_with (first | (go_at_call 22; refine (known_i _ _ _ _).mono ?_; rintro e w' ⟨rfl, hb⟩; have hz := (Nat.le_trans (by first | assumption | (simp; done) | (simp; omega)) hb.size : w.heap.size + 1 ≤ w'.heap.size); have c0 := fun o => hb.cell (p := ⟨w.heap.size, o, none⟩) (by first | (simp; done) | (simp; omega)); have f0 := fun o => hb.frozen (p := ⟨w.heap.size, o, none⟩) (by first | (simp; done) | (simp; omega))) | (go_at_call 39; refine (clamped_i _ _).mono ?_; rintro e w' ⟨rfl, rfl⟩) | (go_at_call 19; refine (brought_i _ _ _ _).mono ?_; rintro e w' ⟨rfl, rfl⟩) | (go_at_call 38; refine (floorDiv_i _ _ ⟨by omega, by omega⟩ ⟨by omega, by omega⟩ _).mono ?_; rintro e w' ⟨rfl, rfl⟩) | (go_at_call 42; refine (l04N_s _ _).mono ?_; rintro e w' ⟨rfl, rfl⟩))
  any_goals (go_quiet ((first | (go_at_call 39; exact quiet_same (clamped_i _ _)) | (go_at_call 19; exact quiet_same (brought_i _ _ _ _)) | (go_at_call 38; exact quiet_same (floorDiv_i _ _ ⟨by omega, by omega⟩ ⟨by omega, by omega⟩ _)) | (go_at_call 42; exact quiet_same (l04N_s _ _)))); go_wp2)
  all_goals (go_ret; exact ⟨ret_int (by unfold lengthOf; simp_all), by (repeat (first | exact Below.refl _ _ | assumption | (refine bel_call ?_ (by assumption)) | (refine bel_alloc ?_ _) | (refine Below.drew ?_) | (refine bel_drewN ?_ _) | (refine Below.setCell ?_ (by first | exact Nat.le_refl _ | assumption | (simp; done) | (simp; omega)) _)))⟩)
set_option maxHeartbeats 400000 in
theorem lengthOf_s (k n base : Int) (w : World) :
    Calls Tryd.prog 24 #[.agg #[.int .i64 k, .int .i64 n], .int .i64 base] w fun e w' => e = .returned (.int .i64 (lengthOf k n base)) ∧ Below w.heap.size w w' := by
  have h1 := (length_bd n base).2.1
  have h2 := (length_bd n base).2.2
  go_enter Tryd.func24, Tryd.ntmps24
  go_wp2_with (first | (go_at_call 25; refine (known_s _ _ _ _).mono ?_; rintro e w' ⟨rfl, hb⟩; have hz := (Nat.le_trans (by first | assumption | (simp; done) | (simp; omega)) hb.size : w.heap.size + 1 ≤ w'.heap.size); have c0 := fun o => hb.cell (p := ⟨w.heap.size, o, none⟩) (by first | (simp; done) | (simp; omega)); have f0 := fun o => hb.frozen (p := ⟨w.heap.size, o, none⟩) (by first | (simp; done) | (simp; omega))) | (go_at_call 41; refine (clamped_s _ _).mono ?_; rintro e w' ⟨rfl, rfl⟩) | (go_at_call 51; refine (brought_s _ _ _ _).mono ?_; rintro e w' ⟨rfl, rfl⟩) | (go_at_call 40; refine (floorDiv_s _ _ ⟨by omega, by omega⟩ ⟨by omega, by omega⟩ _).mono ?_; rintro e w' ⟨rfl, rfl⟩) | (go_at_call 42; refine (l04N_s _ _).mono ?_; rintro e w' ⟨rfl, rfl⟩))
  any_goals (go_quiet ((first | (go_at_call 41; exact quiet_same (clamped_s _ _)) | (go_at_call 51; exact quiet_same (brought_s _ _ _ _)) | (go_at_call 40; exact quiet_same (floorDiv_s _ _ ⟨by omega, by omega⟩ ⟨by omega, by omega⟩ _)) | (go_at_call 42; exact quiet_same (l04N_s _ _)))); go_wp2)
  all_goals (go_ret; exact ⟨ret_int (by unfold lengthOf; simp_all), by (repeat (first | exact Below.refl _ _ | assumption | (refine bel_call ?_ (by assumption)) | (refine bel_alloc ?_ _) | (refine Below.drew ?_) | (refine bel_drewN ?_ _) | (refine Below.setCell ?_ (by first | exact Nat.le_refl _ | assumption | (simp; done) | (simp; omega)) _)))⟩)
set_option maxHeartbeats 400000 in
theorem sizeOf_i (k n base : Int) (w : World) :
    Calls Tryd.prog 23 #[.agg #[.int .i64 k, .int .i64 n], .int .i64 base] w fun e w' => e = .returned (.int .i64 (sizeOf k n base)) ∧ Below w.heap.size w w' := by
  go_enter Tryd.func23, Tryd.ntmps23
  go_wp2_with (first | (go_at_call 22; refine (known_i _ _ _ _).mono ?_; rintro e w' ⟨rfl, hb⟩; have hz := (Nat.le_trans (by first | assumption | (simp; done) | (simp; omega)) hb.size : w.heap.size + 1 ≤ w'.heap.size); have c0 := fun o => hb.cell (p := ⟨w.heap.size, o, none⟩) (by first | (simp; done) | (simp; omega)); have f0 := fun o => hb.frozen (p := ⟨w.heap.size, o, none⟩) (by first | (simp; done) | (simp; omega))) | (go_at_call 39; refine (clamped_i _ _).mono ?_; rintro e w' ⟨rfl, rfl⟩) | (go_at_call 21; refine (lengthOf_i _ _ _ _).mono ?_; rintro e w' ⟨rfl, hb⟩; have hz := (Nat.le_trans (by first | assumption | (simp; done) | (simp; omega)) hb.size : w.heap.size + 1 ≤ w'.heap.size); have c0 := fun o => hb.cell (p := ⟨w.heap.size, o, none⟩) (by first | (simp; done) | (simp; omega)); have f0 := fun o => hb.frozen (p := ⟨w.heap.size, o, none⟩) (by first | (simp; done) | (simp; omega))))
  all_goals (go_ret; exact ⟨ret_int (by unfold sizeOf; simp_all), by (repeat (first | exact Below.refl _ _ | assumption | (refine bel_call ?_ (by assumption)) | (refine bel_alloc ?_ _) | (refine Below.drew ?_) | (refine bel_drewN ?_ _) | (refine Below.setCell ?_ (by first | exact Nat.le_refl _ | assumption | (simp; done) | (simp; omega)) _)))⟩)
set_option maxHeartbeats 400000 in
theorem sizeOf_s (k n base : Int) (w : World) :
    Calls Tryd.prog 26 #[.agg #[.int .i64 k, .int .i64 n], .int .i64 base] w fun e w' => e = .returned (.int .i64 (sizeOf k n base)) ∧ Below w.heap.size w w' := by
  go_enter Tryd.func26, Tryd.ntmps26
  go_wp2_with (first | (go_at_call 25; refine (known_s _ _ _ _).mono ?_; rintro e w' ⟨rfl, hb⟩; have hz := (Nat.le_trans (by first | assumption | (simp; done) | (simp; omega)) hb.size : w.heap.size + 1 ≤ w'.heap.size); have c0 := fun o => hb.cell (p := ⟨w.heap.size, o, none⟩) (by first | (simp; done) | (simp; omega)); have f0 := fun o => hb.frozen (p := ⟨w.heap.size, o, none⟩) (by first | (simp; done) | (simp; omega))) | (go_at_call 41; refine (clamped_s _ _).mono ?_; rintro e w' ⟨rfl, rfl⟩) | (go_at_call 24; refine (lengthOf_s _ _ _ _).mono ?_; rintro e w' ⟨rfl, hb⟩; have hz := (Nat.le_trans (by first | assumption | (simp; done) | (simp; omega)) hb.size : w.heap.size + 1 ≤ w'.heap.size); have c0 := fun o => hb.cell (p := ⟨w.heap.size, o, none⟩) (by first | (simp; done) | (simp; omega)); have f0 := fun o => hb.frozen (p := ⟨w.heap.size, o, none⟩) (by first | (simp; done) | (simp; omega))))
  all_goals (go_ret; exact ⟨ret_int (by unfold sizeOf; simp_all), by (repeat (first | exact Below.refl _ _ | assumption | (refine bel_call ?_ (by assumption)) | (refine bel_alloc ?_ _) | (refine Below.drew ?_) | (refine bel_drewN ?_ _) | (refine Below.setCell ?_ (by first | exact Nat.le_refl _ | assumption | (simp; done) | (simp; omega)) _)))⟩)

end Go.Proofs.YtdkinllmmdlpiaaDoor
