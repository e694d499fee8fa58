/- Contracts of the small functions: each returns its plain function; a function that only computes leaves the world alone, another makes new memory only. No condition. -/
import Derived.Test.YtljaagjdaolonaaBase
namespace Go.Proofs.Ytljaagjdaolonaa
open Go.RowKit
set_option linter.unusedVariables false
def tsValue : List TypeId := [3, 3]

set_option maxHeartbeats 400000 in
theorem brought_i (n l m : Int) (w : World) :
    Calls Try.prog 55 #[.int .i64 n, .int .i64 l, .int .i64 m] w fun e w' => e = .returned (.int .i64 (brought n l m)) ∧ w = w' := by
  go_enter Try.func55, Try.ntmps55
  go_wp2
  all_goals (go_ret; exact ⟨ret_int (by unfold brought; (repeat' split) <;> omega), rfl⟩)
set_option maxHeartbeats 400000 in
theorem brought_s (n l m : Int) (w : World) :
    Calls Try.prog 52 #[.int .i64 n, .int .i64 l, .int .i64 m] w fun e w' => e = .returned (.int .i64 (brought n l m)) ∧ w = w' := by
  go_enter Try.func52, Try.ntmps52
  go_wp2
  all_goals (go_ret; exact ⟨ret_int (by unfold brought; (repeat' split) <;> omega), rfl⟩)
set_option maxHeartbeats 400000 in
theorem clamped_i (n : Int) (w : World) :
    Calls Try.prog 59 #[.int .i64 n] w fun e w' => e = .returned (.int .i64 (clamped n)) ∧ w = w' := by
  go_enter Try.func59, Try.ntmps59
  go_wp2_with ((go_at_call 55; refine (brought_i _ _ _ _).mono ?_; rintro e w' ⟨rfl, rfl⟩))
  go_ret
  exact ⟨rfl, rfl⟩
set_option maxHeartbeats 400000 in
theorem clamped_s (n : Int) (w : World) :
    Calls Try.prog 46 #[.int .i64 n] w fun e w' => e = .returned (.int .i64 (clamped n)) ∧ w = w' := by
  go_enter Try.func46, Try.ntmps46
  go_wp2_with ((go_at_call 52; refine (brought_s _ _ _ _).mono ?_; rintro e w' ⟨rfl, rfl⟩))
  go_ret
  exact ⟨rfl, rfl⟩
set_option maxHeartbeats 400000 in
theorem signed_i (n : Int) (w : World) :
    Calls Try.prog 54 #[.int .i64 n] w fun e w' => e = .returned (.int .i64 (signed n)) ∧ w = w' := by
  go_enter Try.func54, Try.ntmps54
  go_wp2_with ((go_at_call 55; refine (brought_i _ _ _ _).mono ?_; rintro e w' ⟨rfl, rfl⟩))
  go_ret
  exact ⟨rfl, rfl⟩
set_option maxHeartbeats 400000 in
theorem signed_s (n : Int) (w : World) :
    Calls Try.prog 51 #[.int .i64 n] w fun e w' => e = .returned (.int .i64 (signed n)) ∧ w = w' := by
  go_enter Try.func51, Try.ntmps51
  go_wp2_with ((go_at_call 52; refine (brought_s _ _ _ _).mono ?_; rintro e w' ⟨rfl, rfl⟩))
  go_ret
  exact ⟨rfl, rfl⟩
set_option maxHeartbeats 400000 in
theorem floorDiv_i (a b : Int) (ha : In64 a) (hb : In64 b) (w : World) :
    Calls Try.prog 53 #[.int .i64 a, .int .i64 b] w fun e w' => e = .returned (.int .i64 (floorDiv a b)) ∧ w = w' := by
  obtain ⟨ha1, ha2⟩ := ha
  obtain ⟨hb1, hb2⟩ := hb
  by_cases h : b < 1
  · go_enter Try.func53, Try.ntmps53
    go_wp2
    go_ret
    exact ⟨ret_int (by unfold floorDiv; rw [if_pos h]), rfl⟩
  · go_enter Try.func53, Try.ntmps53
    go_wp2
    all_goals (go_ret; exact ⟨ret_int (by first | exact fd_neg h ‹_› ⟨ha1, ha2⟩ | exact fd_pos h ‹_›), rfl⟩)
set_option maxHeartbeats 400000 in
theorem floorDiv_s (a b : Int) (ha : In64 a) (hb : In64 b) (w : World) :
    Calls Try.prog 50 #[.int .i64 a, .int .i64 b] w fun e w' => e = .returned (.int .i64 (floorDiv a b)) ∧ w = w' := by
  obtain ⟨ha1, ha2⟩ := ha
  obtain ⟨hb1, hb2⟩ := hb
  by_cases h : b < 1
  · go_enter Try.func50, Try.ntmps50
    go_wp2
    go_ret
    exact ⟨ret_int (by unfold floorDiv; rw [if_pos h]), rfl⟩
  · go_enter Try.func50, Try.ntmps50
    go_wp2
    all_goals (go_ret; exact ⟨ret_int (by first | exact fd_neg h ‹_› ⟨ha1, ha2⟩ | exact fd_pos h ‹_›), rfl⟩)
set_option maxHeartbeats 400000 in
theorem in_i (n l m : Int) (w : World) :
    Calls Try.prog 61 #[.int .i64 n, .int .i64 l, .int .i64 m] w fun e w' => e = .returned (.bool (inB n l m)) ∧ w = w' := by
  go_enter Try.func61, Try.ntmps61
  go_wp2
  all_goals (go_ret; exact ⟨ret_bool (by unfold inB; simp [*] <;> omega), rfl⟩)
set_option maxHeartbeats 400000 in
theorem in_s (n l m : Int) (w : World) :
    Calls Try.prog 60 #[.int .i64 n, .int .i64 l, .int .i64 m] w fun e w' => e = .returned (.bool (inB n l m)) ∧ w = w' := by
  go_enter Try.func60, Try.ntmps60
  go_wp2
  all_goals (go_ret; exact ⟨ret_bool (by unfold inB; simp [*] <;> omega), rfl⟩)
set_option maxHeartbeats 400000 in
theorem known_i (a b base : Int) (w : World) :
    Calls Try.prog 58 #[.agg #[.int .i64 a, .int .i64 b], .int .i64 base] w fun e w' => e = .returned (.bool (knownB a base)) ∧ Below w.heap.size w w' := by
  go_enter Try.func58, Try.ntmps58
  go_wp2
  all_goals (go_ret; exact ⟨ret_bool (by unfold knownB; simp [*] <;> omega), by (repeat (first | exact Below.refl _ _ | assumption | (refine bel_call ?_ (by assumption)) | (refine bel_alloc ?_ _) | (refine Below.drew ?_) | (refine bel_drewN ?_ _) | (refine Below.setCell ?_ (by first | exact Nat.le_refl _ | assumption | (simp; done) | (simp; omega)) _)))⟩)
set_option maxHeartbeats 400000 in
theorem known_s (a b base : Int) (w : World) :
    Calls Try.prog 56 #[.agg #[.int .i64 a, .int .i64 b], .int .i64 base] w fun e w' => e = .returned (.bool (knownB a base)) ∧ Below w.heap.size w w' := by
  go_enter Try.func56, Try.ntmps56
  go_wp2
  all_goals (go_ret; exact ⟨ret_bool (by unfold knownB; simp [*] <;> omega), by (repeat (first | exact Below.refl _ _ | assumption | (refine bel_call ?_ (by assumption)) | (refine bel_alloc ?_ _) | (refine Below.drew ?_) | (refine bel_drewN ?_ _) | (refine Below.setCell ?_ (by first | exact Nat.le_refl _ | assumption | (simp; done) | (simp; omega)) _)))⟩)
set_option maxHeartbeats 400000 in
theorem valueOk_i (k n : Int) (w : World) :
    Calls Try.prog 49 #[.agg #[.int .i64 k, .int .i64 n]] w fun e w' => e = .returned (.bool (valueOkB k n)) ∧ Below w.heap.size w w' := by
  go_enter Try.func49, Try.ntmps49
  go_wp2_with ((go_at_call 61; refine (in_i _ _ _ _).mono ?_; rintro e w' ⟨rfl, rfl⟩))
  all_goals (go_ret; exact ⟨ret_bool (by unfold valueOkB; simp_all <;> omega), by (repeat (first | exact Below.refl _ _ | assumption | (refine bel_call ?_ (by assumption)) | (refine bel_alloc ?_ _) | (refine Below.drew ?_) | (refine bel_drewN ?_ _) | (refine Below.setCell ?_ (by first | exact Nat.le_refl _ | assumption | (simp; done) | (simp; omega)) _)))⟩)
set_option maxHeartbeats 400000 in
theorem valueOk_s (k n : Int) (w : World) :
    Calls Try.prog 48 #[.agg #[.int .i64 k, .int .i64 n]] w fun e w' => e = .returned (.bool (valueOkB k n)) ∧ Below w.heap.size w w' := by
  go_enter Try.func48, Try.ntmps48
  go_wp2_with ((go_at_call 60; refine (in_s _ _ _ _).mono ?_; rintro e w' ⟨rfl, rfl⟩))
  all_goals (go_ret; exact ⟨ret_bool (by unfold valueOkB; simp_all <;> omega), by (repeat (first | exact Below.refl _ _ | assumption | (refine bel_call ?_ (by assumption)) | (refine bel_alloc ?_ _) | (refine Below.drew ?_) | (refine bel_drewN ?_ _) | (refine Below.setCell ?_ (by first | exact Nat.le_refl _ | assumption | (simp; done) | (simp; omega)) _)))⟩)
set_option maxHeartbeats 400000 in
theorem toValue_l (a b : Int) (w : World) :
    Calls Try.prog 29 #[.agg #[.int .i64 a, .int .i64 b]] w fun e w' => e = .returned (.agg #[.int .i64 a, .int .i64 b]) ∧ Below w.heap.size w w' := by
  go_enter Try.func29, Try.ntmps29
  go_wp2
  refine bodyPost_ret (v := .agg #[.int .i64 a, .int .i64 b]) (by simp [results, Try.results29, go_sem]) rfl ⟨rfl, ?_⟩
  (repeat (first | exact Below.refl _ _ | assumption | (refine bel_call ?_ (by assumption)) | (refine bel_alloc ?_ _) | (refine Below.drew ?_) | (refine bel_drewN ?_ _) | (refine Below.setCell ?_ (by first | exact Nat.le_refl _ | assumption | (simp; done) | (simp; omega)) _)))
def tsEdges : List TypeId := [3, 3, 3, 3]
set_option maxHeartbeats 400000 in
theorem toEdges_l (a b c d : Int) (w : World) :
    Calls Try.prog 16 #[.agg #[.int .i64 a, .int .i64 b, .int .i64 c, .int .i64 d]] w fun e w' => e = .returned (.agg #[.int .i64 a, .int .i64 b, .int .i64 c, .int .i64 d]) ∧ Below w.heap.size w w' := by
  go_enter Try.func16, Try.ntmps16
  go_wp2
  refine bodyPost_ret (v := .agg #[.int .i64 a, .int .i64 b, .int .i64 c, .int .i64 d]) (by simp [results, Try.results16, go_sem]) rfl ⟨rfl, ?_⟩
  (repeat (first | exact Below.refl _ _ | assumption | (refine bel_call ?_ (by assumption)) | (refine bel_alloc ?_ _) | (refine Below.drew ?_) | (refine bel_drewN ?_ _) | (refine Below.setCell ?_ (by first | exact Nat.le_refl _ | assumption | (simp; done) | (simp; omega)) _)))

end Go.Proofs.Ytljaagjdaolonaa
