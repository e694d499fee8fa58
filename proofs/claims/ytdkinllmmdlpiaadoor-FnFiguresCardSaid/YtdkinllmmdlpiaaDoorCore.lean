/- Contracts of the small functions: each returns its plain function; a function that only computes leaves the world alone, another makes new memory only. No condition. -/
import Derived.Test.YtdkinllmmdlpiaaDoorBase
namespace Go.Proofs.YtdkinllmmdlpiaaDoor
open Go.RowKit
set_option linter.unusedVariables false
def tsValue : List TypeId := [3, 3]

set_option maxHeartbeats 400000 in
theorem brought_i (n l m : Int) (w : World) :
    Calls Tryd.prog 19 #[.int .i64 n, .int .i64 l, .int .i64 m] w fun e w' => e = .returned (.int .i64 (brought n l m)) ∧ w = w' := by
  go_enter Tryd.func19, Tryd.ntmps19
  go_wp2
  all_goals (go_ret; exact ⟨ret_int (by unfold brought; (repeat' split) <;> omega), rfl⟩)
set_option maxHeartbeats 400000 in
theorem brought_s (n l m : Int) (w : World) :
    Calls Tryd.prog 51 #[.int .i64 n, .int .i64 l, .int .i64 m] w fun e w' => e = .returned (.int .i64 (brought n l m)) ∧ w = w' := by
  go_enter Tryd.func51, Tryd.ntmps51
  go_wp2
  all_goals (go_ret; exact ⟨ret_int (by unfold brought; (repeat' split) <;> omega), rfl⟩)
set_option maxHeartbeats 400000 in
theorem clamped_i (n : Int) (w : World) :
    Calls Tryd.prog 39 #[.int .i64 n] w fun e w' => e = .returned (.int .i64 (clamped n)) ∧ w = w' := by
  go_enter Tryd.func39, Tryd.ntmps39
  go_wp2_with ((go_at_call 19; refine (brought_i _ _ _ _).mono ?_; rintro e w' ⟨rfl, rfl⟩))
  go_ret
  exact ⟨rfl, rfl⟩
set_option maxHeartbeats 400000 in
theorem clamped_s (n : Int) (w : World) :
    Calls Tryd.prog 41 #[.int .i64 n] w fun e w' => e = .returned (.int .i64 (clamped n)) ∧ w = w' := by
  go_enter Tryd.func41, Tryd.ntmps41
  go_wp2_with ((go_at_call 51; refine (brought_s _ _ _ _).mono ?_; rintro e w' ⟨rfl, rfl⟩))
  go_ret
  exact ⟨rfl, rfl⟩
set_option maxHeartbeats 400000 in
theorem floorDiv_i (a b : Int) (ha : In64 a) (hb : In64 b) (w : World) :
    Calls Tryd.prog 38 #[.int .i64 a, .int .i64 b] w fun e w' => e = .returned (.int .i64 (floorDiv a b)) ∧ w = w' := by
  obtain ⟨ha1, ha2⟩ := ha
  obtain ⟨hb1, hb2⟩ := hb
  by_cases h : b < 1
  · go_enter Tryd.func38, Tryd.ntmps38
    go_wp2
    go_ret
    exact ⟨ret_int (by unfold floorDiv; rw [if_pos h]), rfl⟩
  · go_enter Tryd.func38, Tryd.ntmps38
    go_wp2
    all_goals (go_ret; exact ⟨ret_int (by first | exact fd_neg h ‹_› ⟨ha1, ha2⟩ | exact fd_pos h ‹_›), rfl⟩)
set_option maxHeartbeats 400000 in
theorem floorDiv_s (a b : Int) (ha : In64 a) (hb : In64 b) (w : World) :
    Calls Tryd.prog 40 #[.int .i64 a, .int .i64 b] w fun e w' => e = .returned (.int .i64 (floorDiv a b)) ∧ w = w' := by
  obtain ⟨ha1, ha2⟩ := ha
  obtain ⟨hb1, hb2⟩ := hb
  by_cases h : b < 1
  · go_enter Tryd.func40, Tryd.ntmps40
    go_wp2
    go_ret
    exact ⟨ret_int (by unfold floorDiv; rw [if_pos h]), rfl⟩
  · go_enter Tryd.func40, Tryd.ntmps40
    go_wp2
    all_goals (go_ret; exact ⟨ret_int (by first | exact fd_neg h ‹_› ⟨ha1, ha2⟩ | exact fd_pos h ‹_›), rfl⟩)
set_option maxHeartbeats 400000 in
theorem in_i (n l m : Int) (w : World) :
    Calls Tryd.prog 43 #[.int .i64 n, .int .i64 l, .int .i64 m] w fun e w' => e = .returned (.bool (inB n l m)) ∧ w = w' := by
  go_enter Tryd.func43, Tryd.ntmps43
  go_wp2
  all_goals (go_ret; exact ⟨ret_bool (by unfold inB; simp [*] <;> omega), rfl⟩)
set_option maxHeartbeats 400000 in
theorem in_s (n l m : Int) (w : World) :
    Calls Tryd.prog 44 #[.int .i64 n, .int .i64 l, .int .i64 m] w fun e w' => e = .returned (.bool (inB n l m)) ∧ w = w' := by
  go_enter Tryd.func44, Tryd.ntmps44
  go_wp2
  all_goals (go_ret; exact ⟨ret_bool (by unfold inB; simp [*] <;> omega), rfl⟩)
set_option maxHeartbeats 400000 in
theorem orElse_i (n m : Int) (w : World) :
    Calls Tryd.prog 29 #[.int .i64 n, .int .i64 m] w fun e w' => e = .returned (.int .i64 (orElse n m)) ∧ w = w' := by
  by_cases h : n = -1
  all_goals
    go_enter Tryd.func29, Tryd.ntmps29
    go_wp2
    go_ret
    exact ⟨ret_int (by unfold orElse; simp [h]), rfl⟩
set_option maxHeartbeats 400000 in
theorem orElse_s (n m : Int) (w : World) :
    Calls Tryd.prog 30 #[.int .i64 n, .int .i64 m] w fun e w' => e = .returned (.int .i64 (orElse n m)) ∧ w = w' := by
  by_cases h : n = -1
  all_goals
    go_enter Tryd.func30, Tryd.ntmps30
    go_wp2
    go_ret
    exact ⟨ret_int (by unfold orElse; simp [h]), rfl⟩
set_option maxHeartbeats 400000 in
theorem known_i (a b base : Int) (w : World) :
    Calls Tryd.prog 22 #[.agg #[.int .i64 a, .int .i64 b], .int .i64 base] w fun e w' => e = .returned (.bool (knownB a base)) ∧ Below w.heap.size w w' := by
  go_enter Tryd.func22, Tryd.ntmps22
  go_wp2
  all_goals (go_ret; exact ⟨ret_bool (by unfold knownB; simp [*] <;> omega), by (repeat (first | exact Below.refl _ _ | assumption | (refine bel_call ?_ (by assumption)) | (refine bel_alloc ?_ _) | (refine Below.drew ?_) | (refine bel_drewN ?_ _) | (refine Below.setCell ?_ (by first | exact Nat.le_refl _ | assumption | (simp; done) | (simp; omega)) _)))⟩)
set_option maxHeartbeats 400000 in
theorem known_s (a b base : Int) (w : World) :
    Calls Tryd.prog 25 #[.agg #[.int .i64 a, .int .i64 b], .int .i64 base] w fun e w' => e = .returned (.bool (knownB a base)) ∧ Below w.heap.size w w' := by
  go_enter Tryd.func25, Tryd.ntmps25
  go_wp2
  all_goals (go_ret; exact ⟨ret_bool (by unfold knownB; simp [*] <;> omega), by (repeat (first | exact Below.refl _ _ | assumption | (refine bel_call ?_ (by assumption)) | (refine bel_alloc ?_ _) | (refine Below.drew ?_) | (refine bel_drewN ?_ _) | (refine Below.setCell ?_ (by first | exact Nat.le_refl _ | assumption | (simp; done) | (simp; omega)) _)))⟩)
set_option maxHeartbeats 400000 in
theorem valueOk_i (k n : Int) (w : World) :
    Calls Tryd.prog 27 #[.agg #[.int .i64 k, .int .i64 n]] w fun e w' => e = .returned (.bool (valueOkB k n)) ∧ Below w.heap.size w w' := by
  go_enter Tryd.func27, Tryd.ntmps27
  go_wp2_with ((go_at_call 43; refine (in_i _ _ _ _).mono ?_; rintro e w' ⟨rfl, rfl⟩))
  all_goals (go_ret; exact ⟨ret_bool (by unfold valueOkB; simp_all <;> omega), by (repeat (first | exact Below.refl _ _ | assumption | (refine bel_call ?_ (by assumption)) | (refine bel_alloc ?_ _) | (refine Below.drew ?_) | (refine bel_drewN ?_ _) | (refine Below.setCell ?_ (by first | exact Nat.le_refl _ | assumption | (simp; done) | (simp; omega)) _)))⟩)
set_option maxHeartbeats 400000 in
theorem valueOk_s (k n : Int) (w : World) :
    Calls Tryd.prog 28 #[.agg #[.int .i64 k, .int .i64 n]] w fun e w' => e = .returned (.bool (valueOkB k n)) ∧ Below w.heap.size w w' := by
  go_enter Tryd.func28, Tryd.ntmps28
  go_wp2_with ((go_at_call 44; refine (in_s _ _ _ _).mono ?_; rintro e w' ⟨rfl, rfl⟩))
  all_goals (go_ret; exact ⟨ret_bool (by unfold valueOkB; simp_all <;> omega), by (repeat (first | exact Below.refl _ _ | assumption | (refine bel_call ?_ (by assumption)) | (refine bel_alloc ?_ _) | (refine Below.drew ?_) | (refine bel_drewN ?_ _) | (refine Below.setCell ?_ (by first | exact Nat.le_refl _ | assumption | (simp; done) | (simp; omega)) _)))⟩)
set_option maxHeartbeats 400000 in
theorem toValue_l (a b : Int) (w : World) :
    Calls Tryd.prog 13 #[.agg #[.int .i64 a, .int .i64 b]] w fun e w' => e = .returned (.agg #[.int .i64 a, .int .i64 b]) ∧ Below w.heap.size w w' := by
  go_enter Tryd.func13, Tryd.ntmps13
  go_wp2
  refine bodyPost_ret (v := .agg #[.int .i64 a, .int .i64 b]) (by simp [results, Tryd.results13, go_sem]) rfl ⟨rfl, ?_⟩
  (repeat (first | exact Below.refl _ _ | assumption | (refine bel_call ?_ (by assumption)) | (refine bel_alloc ?_ _) | (refine Below.drew ?_) | (refine bel_drewN ?_ _) | (refine Below.setCell ?_ (by first | exact Nat.le_refl _ | assumption | (simp; done) | (simp; omega)) _)))

end Go.Proofs.YtdkinllmmdlpiaaDoor
