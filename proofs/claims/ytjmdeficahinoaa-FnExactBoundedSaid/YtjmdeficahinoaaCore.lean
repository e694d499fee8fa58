/- Contracts of the small functions: each returns its plain function; a function that only computes leaves the world alone, another makes new memory only. No condition. -/
import Derived.Test.YtjmdeficahinoaaBase
namespace Go.Proofs.Ytjmdeficahinoaa
open Go.RowKit
set_option linter.unusedVariables false
def tsValue : List TypeId := [3, 3]

set_option maxHeartbeats 400000 in
theorem brought_i (n l m : Int) (w : World) :
    Calls Try.prog 50 #[.int .i64 n, .int .i64 l, .int .i64 m] w fun e w' => e = .returned (.int .i64 (brought n l m)) ∧ w = w' := by
  go_enter Try.func50, Try.ntmps50
  go_wp2
  all_goals (go_ret; exact ⟨ret_int (by unfold brought; (repeat' split) <;> omega), rfl⟩)
set_option maxHeartbeats 400000 in
theorem brought_s (n l m : Int) (w : World) :
    Calls Try.prog 49 #[.int .i64 n, .int .i64 l, .int .i64 m] w fun e w' => e = .returned (.int .i64 (brought n l m)) ∧ w = w' := by
  go_enter Try.func49, Try.ntmps49
  go_wp2
  all_goals (go_ret; exact ⟨ret_int (by unfold brought; (repeat' split) <;> omega), rfl⟩)
set_option maxHeartbeats 400000 in
theorem clamped_i (n : Int) (w : World) :
    Calls Try.prog 36 #[.int .i64 n] w fun e w' => e = .returned (.int .i64 (clamped n)) ∧ w = w' := by
  go_enter Try.func36, Try.ntmps36
  go_wp2_with ((go_at_call 50; refine (brought_i _ _ _ _).mono ?_; rintro e w' ⟨rfl, rfl⟩))
  go_ret
  exact ⟨rfl, rfl⟩
set_option maxHeartbeats 400000 in
theorem clamped_s (n : Int) (w : World) :
    Calls Try.prog 34 #[.int .i64 n] w fun e w' => e = .returned (.int .i64 (clamped n)) ∧ w = w' := by
  go_enter Try.func34, Try.ntmps34
  go_wp2_with ((go_at_call 49; refine (brought_s _ _ _ _).mono ?_; rintro e w' ⟨rfl, rfl⟩))
  go_ret
  exact ⟨rfl, rfl⟩
set_option maxHeartbeats 400000 in
theorem within_i (n l m : Int) (w : World) :
    Calls Try.prog 45 #[.int .i64 n, .int .i64 l, .int .i64 m] w fun e w' => e = .returned (.int .i64 (within n l m)) ∧ w = w' := by
  go_enter Try.func45, Try.ntmps45
  go_wp2
  all_goals (go_ret; exact ⟨ret_int (by unfold within; (repeat' split) <;> omega), rfl⟩)
set_option maxHeartbeats 400000 in
theorem within_s (n l m : Int) (w : World) :
    Calls Try.prog 44 #[.int .i64 n, .int .i64 l, .int .i64 m] w fun e w' => e = .returned (.int .i64 (within n l m)) ∧ w = w' := by
  go_enter Try.func44, Try.ntmps44
  go_wp2
  all_goals (go_ret; exact ⟨ret_int (by unfold within; (repeat' split) <;> omega), rfl⟩)
set_option maxHeartbeats 400000 in
theorem floorDiv_i (a b : Int) (ha : In64 a) (hb : In64 b) (w : World) :
    Calls Try.prog 37 #[.int .i64 a, .int .i64 b] w fun e w' => e = .returned (.int .i64 (floorDiv a b)) ∧ w = w' := by
  obtain ⟨ha1, ha2⟩ := ha
  obtain ⟨hb1, hb2⟩ := hb
  by_cases h : b < 1
  · go_enter Try.func37, Try.ntmps37
    go_wp2
    go_ret
    exact ⟨ret_int (by unfold floorDiv; rw [if_pos h]), rfl⟩
  · go_enter Try.func37, Try.ntmps37
    go_wp2
    all_goals (go_ret; exact ⟨ret_int (by first | exact fd_neg h ‹_› ⟨ha1, ha2⟩ | exact fd_pos h ‹_›), rfl⟩)
set_option maxHeartbeats 400000 in
theorem floorDiv_s (a b : Int) (ha : In64 a) (hb : In64 b) (w : World) :
    Calls Try.prog 35 #[.int .i64 a, .int .i64 b] w fun e w' => e = .returned (.int .i64 (floorDiv a b)) ∧ w = w' := by
  obtain ⟨ha1, ha2⟩ := ha
  obtain ⟨hb1, hb2⟩ := hb
  by_cases h : b < 1
  · go_enter Try.func35, Try.ntmps35
    go_wp2
    go_ret
    exact ⟨ret_int (by unfold floorDiv; rw [if_pos h]), rfl⟩
  · go_enter Try.func35, Try.ntmps35
    go_wp2
    all_goals (go_ret; exact ⟨ret_int (by first | exact fd_neg h ‹_› ⟨ha1, ha2⟩ | exact fd_pos h ‹_›), rfl⟩)
set_option maxHeartbeats 400000 in
theorem orElse_i (n m : Int) (w : World) :
    Calls Try.prog 43 #[.int .i64 n, .int .i64 m] w fun e w' => e = .returned (.int .i64 (orElse n m)) ∧ w = w' := by
  by_cases h : n = -1
  all_goals
    go_enter Try.func43, Try.ntmps43
    go_wp2
    go_ret
    exact ⟨ret_int (by unfold orElse; simp [h]), rfl⟩
set_option maxHeartbeats 400000 in
theorem orElse_s (n m : Int) (w : World) :
    Calls Try.prog 42 #[.int .i64 n, .int .i64 m] w fun e w' => e = .returned (.int .i64 (orElse n m)) ∧ w = w' := by
  by_cases h : n = -1
  all_goals
    go_enter Try.func42, Try.ntmps42
    go_wp2
    go_ret
    exact ⟨ret_int (by unfold orElse; simp [h]), rfl⟩
set_option maxHeartbeats 400000 in
theorem known_i (a b base : Int) (w : World) :
    Calls Try.prog 53 #[.agg #[.int .i64 a, .int .i64 b], .int .i64 base] w fun e w' => e = .returned (.bool (knownB a base)) ∧ Below w.heap.size w w' := by
  go_enter Try.func53, Try.ntmps53
  go_wp2
  all_goals (go_ret; exact ⟨ret_bool (by unfold knownB; simp [*] <;> omega), by (repeat (first | exact Below.refl _ _ | assumption | (refine bel_call ?_ (by assumption)) | (refine bel_alloc ?_ _) | (refine Below.drew ?_) | (refine bel_drewN ?_ _) | (refine Below.setCell ?_ (by first | exact Nat.le_refl _ | (simp; done) | (simp; omega)) _)))⟩)
set_option maxHeartbeats 400000 in
theorem known_s (a b base : Int) (w : World) :
    Calls Try.prog 51 #[.agg #[.int .i64 a, .int .i64 b], .int .i64 base] w fun e w' => e = .returned (.bool (knownB a base)) ∧ Below w.heap.size w w' := by
  go_enter Try.func51, Try.ntmps51
  go_wp2
  all_goals (go_ret; exact ⟨ret_bool (by unfold knownB; simp [*] <;> omega), by (repeat (first | exact Below.refl _ _ | assumption | (refine bel_call ?_ (by assumption)) | (refine bel_alloc ?_ _) | (refine Below.drew ?_) | (refine bel_drewN ?_ _) | (refine Below.setCell ?_ (by first | exact Nat.le_refl _ | (simp; done) | (simp; omega)) _)))⟩)
set_option maxHeartbeats 400000 in
theorem toValue_l (a b : Int) (w : World) :
    Calls Try.prog 28 #[.agg #[.int .i64 a, .int .i64 b]] w fun e w' => e = .returned (.agg #[.int .i64 a, .int .i64 b]) ∧ Below w.heap.size w w' := by
  go_enter Try.func28, Try.ntmps28
  go_wp2
  refine bodyPost_ret (v := .agg #[.int .i64 a, .int .i64 b]) (by simp [results, Try.results28, go_sem]) rfl ⟨rfl, ?_⟩
  (repeat (first | exact Below.refl _ _ | assumption | (refine bel_call ?_ (by assumption)) | (refine bel_alloc ?_ _) | (refine Below.drew ?_) | (refine bel_drewN ?_ _) | (refine Below.setCell ?_ (by first | exact Nat.le_refl _ | (simp; done) | (simp; omega)) _)))
def tsEdges : List TypeId := [3, 3, 3, 3]
set_option maxHeartbeats 400000 in
theorem toEdges_l (a b c d : Int) (w : World) :
    Calls Try.prog 30 #[.agg #[.int .i64 a, .int .i64 b, .int .i64 c, .int .i64 d]] w fun e w' => e = .returned (.agg #[.int .i64 a, .int .i64 b, .int .i64 c, .int .i64 d]) ∧ Below w.heap.size w w' := by
  go_enter Try.func30, Try.ntmps30
  go_wp2
  refine bodyPost_ret (v := .agg #[.int .i64 a, .int .i64 b, .int .i64 c, .int .i64 d]) (by simp [results, Try.results30, go_sem]) rfl ⟨rfl, ?_⟩
  (repeat (first | exact Below.refl _ _ | assumption | (refine bel_call ?_ (by assumption)) | (refine bel_alloc ?_ _) | (refine Below.drew ?_) | (refine bel_drewN ?_ _) | (refine Below.setCell ?_ (by first | exact Nat.le_refl _ | (simp; done) | (simp; omega)) _)))

end Go.Proofs.Ytjmdeficahinoaa
