/- Contracts of the small functions: each returns its plain function; a function that only computes leaves the world alone, another makes new memory only. No condition. -/
import Derived.Test.YtniljjbpcgblmaaBase
namespace Go.Proofs.Ytniljjbpcgblmaa
open Go.RowKit
set_option linter.unusedVariables false
def tsValue : List TypeId := [3, 3]

set_option maxHeartbeats 400000 in
theorem brought_i (n l m : Int) (w : World) :
    Calls Try.prog 36 #[.int .i64 n, .int .i64 l, .int .i64 m] w fun e w' => e = .returned (.int .i64 (brought n l m)) ∧ w = w' := by
  go_enter Try.func36, Try.ntmps36
  go_wp2
  all_goals (go_ret; exact ⟨ret_int (by unfold brought; (repeat' split) <;> omega), rfl⟩)
set_option maxHeartbeats 400000 in
theorem brought_s (n l m : Int) (w : World) :
    Calls Try.prog 34 #[.int .i64 n, .int .i64 l, .int .i64 m] w fun e w' => e = .returned (.int .i64 (brought n l m)) ∧ w = w' := by
  go_enter Try.func34, Try.ntmps34
  go_wp2
  all_goals (go_ret; exact ⟨ret_int (by unfold brought; (repeat' split) <;> omega), rfl⟩)
set_option maxHeartbeats 400000 in
theorem clamped_i (n : Int) (w : World) :
    Calls Try.prog 35 #[.int .i64 n] w fun e w' => e = .returned (.int .i64 (clamped n)) ∧ w = w' := by
  go_enter Try.func35, Try.ntmps35
  go_wp2_with ((go_at_call 36; refine (brought_i _ _ _ _).mono ?_; rintro e w' ⟨rfl, rfl⟩))
  go_ret
  exact ⟨rfl, rfl⟩
set_option maxHeartbeats 400000 in
theorem clamped_s (n : Int) (w : World) :
    Calls Try.prog 33 #[.int .i64 n] w fun e w' => e = .returned (.int .i64 (clamped n)) ∧ w = w' := by
  go_enter Try.func33, Try.ntmps33
  go_wp2_with ((go_at_call 34; refine (brought_s _ _ _ _).mono ?_; rintro e w' ⟨rfl, rfl⟩))
  go_ret
  exact ⟨rfl, rfl⟩
set_option maxHeartbeats 400000 in
theorem signed_i (n : Int) (w : World) :
    Calls Try.prog 39 #[.int .i64 n] w fun e w' => e = .returned (.int .i64 (signed n)) ∧ w = w' := by
  go_enter Try.func39, Try.ntmps39
  go_wp2_with ((go_at_call 36; refine (brought_i _ _ _ _).mono ?_; rintro e w' ⟨rfl, rfl⟩))
  go_ret
  exact ⟨rfl, rfl⟩
set_option maxHeartbeats 400000 in
theorem signed_s (n : Int) (w : World) :
    Calls Try.prog 37 #[.int .i64 n] w fun e w' => e = .returned (.int .i64 (signed n)) ∧ w = w' := by
  go_enter Try.func37, Try.ntmps37
  go_wp2_with ((go_at_call 34; refine (brought_s _ _ _ _).mono ?_; rintro e w' ⟨rfl, rfl⟩))
  go_ret
  exact ⟨rfl, rfl⟩
set_option maxHeartbeats 400000 in
theorem floorDiv_i (a b : Int) (ha : In64 a) (hb : In64 b) (w : World) :
    Calls Try.prog 40 #[.int .i64 a, .int .i64 b] w fun e w' => e = .returned (.int .i64 (floorDiv a b)) ∧ w = w' := by
  obtain ⟨ha1, ha2⟩ := ha
  obtain ⟨hb1, hb2⟩ := hb
  by_cases h : b < 1
  · go_enter Try.func40, Try.ntmps40
    go_wp2
    go_ret
    exact ⟨ret_int (by unfold floorDiv; rw [if_pos h]), rfl⟩
  · go_enter Try.func40, Try.ntmps40
    go_wp2
    all_goals (go_ret; exact ⟨ret_int (by first | exact fd_neg h ‹_› ⟨ha1, ha2⟩ | exact fd_pos h ‹_›), rfl⟩)
set_option maxHeartbeats 400000 in
theorem floorDiv_s (a b : Int) (ha : In64 a) (hb : In64 b) (w : World) :
    Calls Try.prog 38 #[.int .i64 a, .int .i64 b] w fun e w' => e = .returned (.int .i64 (floorDiv a b)) ∧ w = w' := by
  obtain ⟨ha1, ha2⟩ := ha
  obtain ⟨hb1, hb2⟩ := hb
  by_cases h : b < 1
  · go_enter Try.func38, Try.ntmps38
    go_wp2
    go_ret
    exact ⟨ret_int (by unfold floorDiv; rw [if_pos h]), rfl⟩
  · go_enter Try.func38, Try.ntmps38
    go_wp2
    all_goals (go_ret; exact ⟨ret_int (by first | exact fd_neg h ‹_› ⟨ha1, ha2⟩ | exact fd_pos h ‹_›), rfl⟩)
set_option maxHeartbeats 400000 in
theorem in_i (n l m : Int) (w : World) :
    Calls Try.prog 32 #[.int .i64 n, .int .i64 l, .int .i64 m] w fun e w' => e = .returned (.bool (inB n l m)) ∧ w = w' := by
  go_enter Try.func32, Try.ntmps32
  go_wp2
  all_goals (go_ret; exact ⟨ret_bool (by unfold inB; simp [*] <;> omega), rfl⟩)
set_option maxHeartbeats 400000 in
theorem in_s (n l m : Int) (w : World) :
    Calls Try.prog 31 #[.int .i64 n, .int .i64 l, .int .i64 m] w fun e w' => e = .returned (.bool (inB n l m)) ∧ w = w' := by
  go_enter Try.func31, Try.ntmps31
  go_wp2
  all_goals (go_ret; exact ⟨ret_bool (by unfold inB; simp [*] <;> omega), rfl⟩)

end Go.Proofs.Ytniljjbpcgblmaa
