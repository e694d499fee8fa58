/- Contracts of the small functions: each returns its plain function; a function that only computes leaves the world alone, another makes new memory only. No condition. -/
import Derived.Test.YtpbjpkkomaopfaaBase
namespace Go.Proofs.Ytpbjpkkomaopfaa
open Go.RowKit
set_option linter.unusedVariables false
def tsValue : List TypeId := [3, 3]

set_option maxHeartbeats 400000 in
theorem brought_i (n l m : Int) (w : World) :
    Calls Try.prog 28 #[.int .i64 n, .int .i64 l, .int .i64 m] w fun e w' => e = .returned (.int .i64 (brought n l m)) ∧ w = w' := by
  go_enter Try.func28, Try.ntmps28
  go_wp2
  all_goals (go_ret; exact ⟨ret_int (by unfold brought; (repeat' split) <;> omega), rfl⟩)
set_option maxHeartbeats 400000 in
theorem brought_s (n l m : Int) (w : World) :
    Calls Try.prog 27 #[.int .i64 n, .int .i64 l, .int .i64 m] w fun e w' => e = .returned (.int .i64 (brought n l m)) ∧ w = w' := by
  go_enter Try.func27, Try.ntmps27
  go_wp2
  all_goals (go_ret; exact ⟨ret_int (by unfold brought; (repeat' split) <;> omega), rfl⟩)
set_option maxHeartbeats 400000 in
theorem clamped_i (n : Int) (w : World) :
    Calls Try.prog 32 #[.int .i64 n] w fun e w' => e = .returned (.int .i64 (clamped n)) ∧ w = w' := by
  go_enter Try.func32, Try.ntmps32
  go_wp2_with ((go_at_call 28; refine (brought_i _ _ _ _).mono ?_; rintro e w' ⟨rfl, rfl⟩))
  go_ret
  exact ⟨rfl, rfl⟩
set_option maxHeartbeats 400000 in
theorem clamped_s (n : Int) (w : World) :
    Calls Try.prog 31 #[.int .i64 n] w fun e w' => e = .returned (.int .i64 (clamped n)) ∧ w = w' := by
  go_enter Try.func31, Try.ntmps31
  go_wp2_with ((go_at_call 27; refine (brought_s _ _ _ _).mono ?_; rintro e w' ⟨rfl, rfl⟩))
  go_ret
  exact ⟨rfl, rfl⟩
set_option maxHeartbeats 400000 in
theorem signed_i (n : Int) (w : World) :
    Calls Try.prog 42 #[.int .i64 n] w fun e w' => e = .returned (.int .i64 (signed n)) ∧ w = w' := by
  go_enter Try.func42, Try.ntmps42
  go_wp2_with ((go_at_call 28; refine (brought_i _ _ _ _).mono ?_; rintro e w' ⟨rfl, rfl⟩))
  go_ret
  exact ⟨rfl, rfl⟩
set_option maxHeartbeats 400000 in
theorem signed_s (n : Int) (w : World) :
    Calls Try.prog 41 #[.int .i64 n] w fun e w' => e = .returned (.int .i64 (signed n)) ∧ w = w' := by
  go_enter Try.func41, Try.ntmps41
  go_wp2_with ((go_at_call 27; refine (brought_s _ _ _ _).mono ?_; rintro e w' ⟨rfl, rfl⟩))
  go_ret
  exact ⟨rfl, rfl⟩
set_option maxHeartbeats 400000 in
theorem addLen_i (a b : Int) (w : World) :
    Calls Try.prog 34 #[.int .i64 a, .int .i64 b] w fun e w' => e = .returned (.int .i64 (addLen a b)) ∧ w = w' := by
  have h1 := (signed_le a).1
  have h2 := (signed_le a).2
  have h3 := (signed_le b).1
  have h4 := (signed_le b).2
  go_enter Try.func34, Try.ntmps34
  go_wp2_with (first | (go_at_call 42; refine (signed_i _ _).mono ?_; rintro e w' ⟨rfl, rfl⟩) | (go_at_call 32; refine (clamped_i _ _).mono ?_; rintro e w' ⟨rfl, rfl⟩))
  go_ret
  exact ⟨rfl, rfl⟩
set_option maxHeartbeats 400000 in
theorem addLen_s (a b : Int) (w : World) :
    Calls Try.prog 33 #[.int .i64 a, .int .i64 b] w fun e w' => e = .returned (.int .i64 (addLen a b)) ∧ w = w' := by
  have h1 := (signed_le a).1
  have h2 := (signed_le a).2
  have h3 := (signed_le b).1
  have h4 := (signed_le b).2
  go_enter Try.func33, Try.ntmps33
  go_wp2_with (first | (go_at_call 41; refine (signed_s _ _).mono ?_; rintro e w' ⟨rfl, rfl⟩) | (go_at_call 31; refine (clamped_s _ _).mono ?_; rintro e w' ⟨rfl, rfl⟩))
  go_ret
  exact ⟨rfl, rfl⟩
set_option maxHeartbeats 400000 in
theorem within_i (n l m : Int) (w : World) :
    Calls Try.prog 23 #[.int .i64 n, .int .i64 l, .int .i64 m] w fun e w' => e = .returned (.int .i64 (within n l m)) ∧ w = w' := by
  go_enter Try.func23, Try.ntmps23
  go_wp2
  all_goals (go_ret; exact ⟨ret_int (by unfold within; (repeat' split) <;> omega), rfl⟩)
set_option maxHeartbeats 400000 in
theorem within_s (n l m : Int) (w : World) :
    Calls Try.prog 22 #[.int .i64 n, .int .i64 l, .int .i64 m] w fun e w' => e = .returned (.int .i64 (within n l m)) ∧ w = w' := by
  go_enter Try.func22, Try.ntmps22
  go_wp2
  all_goals (go_ret; exact ⟨ret_int (by unfold within; (repeat' split) <;> omega), rfl⟩)
set_option maxHeartbeats 400000 in
theorem floorDiv_i (a b : Int) (ha : In64 a) (hb : In64 b) (w : World) :
    Calls Try.prog 30 #[.int .i64 a, .int .i64 b] w fun e w' => e = .returned (.int .i64 (floorDiv a b)) ∧ w = w' := by
  obtain ⟨ha1, ha2⟩ := ha
  obtain ⟨hb1, hb2⟩ := hb
  by_cases h : b < 1
  · go_enter Try.func30, Try.ntmps30
    go_wp2
    go_ret
    exact ⟨ret_int (by unfold floorDiv; rw [if_pos h]), rfl⟩
  · go_enter Try.func30, Try.ntmps30
    go_wp2
    all_goals (go_ret; exact ⟨ret_int (by first | exact fd_neg h ‹_› ⟨ha1, ha2⟩ | exact fd_pos h ‹_›), rfl⟩)
set_option maxHeartbeats 400000 in
theorem floorDiv_s (a b : Int) (ha : In64 a) (hb : In64 b) (w : World) :
    Calls Try.prog 29 #[.int .i64 a, .int .i64 b] w fun e w' => e = .returned (.int .i64 (floorDiv a b)) ∧ w = w' := by
  obtain ⟨ha1, ha2⟩ := ha
  obtain ⟨hb1, hb2⟩ := hb
  by_cases h : b < 1
  · go_enter Try.func29, Try.ntmps29
    go_wp2
    go_ret
    exact ⟨ret_int (by unfold floorDiv; rw [if_pos h]), rfl⟩
  · go_enter Try.func29, Try.ntmps29
    go_wp2
    all_goals (go_ret; exact ⟨ret_int (by first | exact fd_neg h ‹_› ⟨ha1, ha2⟩ | exact fd_pos h ‹_›), rfl⟩)
set_option maxHeartbeats 400000 in
theorem in_i (n l m : Int) (w : World) :
    Calls Try.prog 40 #[.int .i64 n, .int .i64 l, .int .i64 m] w fun e w' => e = .returned (.bool (inB n l m)) ∧ w = w' := by
  go_enter Try.func40, Try.ntmps40
  go_wp2
  all_goals (go_ret; exact ⟨ret_bool (by unfold inB; simp [*] <;> omega), rfl⟩)
set_option maxHeartbeats 400000 in
theorem in_s (n l m : Int) (w : World) :
    Calls Try.prog 39 #[.int .i64 n, .int .i64 l, .int .i64 m] w fun e w' => e = .returned (.bool (inB n l m)) ∧ w = w' := by
  go_enter Try.func39, Try.ntmps39
  go_wp2
  all_goals (go_ret; exact ⟨ret_bool (by unfold inB; simp [*] <;> omega), rfl⟩)
set_option maxHeartbeats 400000 in
theorem orElse_i (n m : Int) (w : World) :
    Calls Try.prog 21 #[.int .i64 n, .int .i64 m] w fun e w' => e = .returned (.int .i64 (orElse n m)) ∧ w = w' := by
  by_cases h : n = -1
  all_goals
    go_enter Try.func21, Try.ntmps21
    go_wp2
    go_ret
    exact ⟨ret_int (by unfold orElse; simp [h]), rfl⟩
set_option maxHeartbeats 400000 in
theorem orElse_s (n m : Int) (w : World) :
    Calls Try.prog 20 #[.int .i64 n, .int .i64 m] w fun e w' => e = .returned (.int .i64 (orElse n m)) ∧ w = w' := by
  by_cases h : n = -1
  all_goals
    go_enter Try.func20, Try.ntmps20
    go_wp2
    go_ret
    exact ⟨ret_int (by unfold orElse; simp [h]), rfl⟩
set_option maxHeartbeats 400000 in
theorem mirrored_i (a b c : Int) (d : Bool) (w : World) :
    Calls Try.prog 19 #[.int .i64 a, .int .i64 b, .int .i64 c, .bool d] w fun e w' => e = .returned (.int .i64 (mirrored a b c d)) ∧ w = w' := by
  cases d
  all_goals
    go_enter Try.func19, Try.ntmps19
    go_wp2
    go_ret
    exact ⟨rfl, rfl⟩
set_option maxHeartbeats 400000 in
theorem mirrored_s (a b c : Int) (d : Bool) (w : World) :
    Calls Try.prog 18 #[.int .i64 a, .int .i64 b, .int .i64 c, .bool d] w fun e w' => e = .returned (.int .i64 (mirrored a b c d)) ∧ w = w' := by
  cases d
  all_goals
    go_enter Try.func18, Try.ntmps18
    go_wp2
    go_ret
    exact ⟨rfl, rfl⟩
set_option maxHeartbeats 400000 in
theorem known_i (a b base : Int) (w : World) :
    Calls Try.prog 17 #[.agg #[.int .i64 a, .int .i64 b], .int .i64 base] w fun e w' => e = .returned (.bool (knownB a base)) ∧ Below w.heap.size w w' := by
  go_enter Try.func17, Try.ntmps17
  go_wp2
  all_goals (go_ret; exact ⟨ret_bool (by unfold knownB; simp [*] <;> omega), by (repeat (first | exact Below.refl _ _ | assumption | (refine bel_call ?_ (by assumption)) | (refine bel_alloc ?_ _) | (refine Below.drew ?_) | (refine Below.setCell ?_ (by first | exact Nat.le_refl _ | (simp; done) | (simp; omega)) _)))⟩)
set_option maxHeartbeats 400000 in
theorem known_s (a b base : Int) (w : World) :
    Calls Try.prog 15 #[.agg #[.int .i64 a, .int .i64 b], .int .i64 base] w fun e w' => e = .returned (.bool (knownB a base)) ∧ Below w.heap.size w w' := by
  go_enter Try.func15, Try.ntmps15
  go_wp2
  all_goals (go_ret; exact ⟨ret_bool (by unfold knownB; simp [*] <;> omega), by (repeat (first | exact Below.refl _ _ | assumption | (refine bel_call ?_ (by assumption)) | (refine bel_alloc ?_ _) | (refine Below.drew ?_) | (refine Below.setCell ?_ (by first | exact Nat.le_refl _ | (simp; done) | (simp; omega)) _)))⟩)
set_option maxHeartbeats 400000 in
theorem valueOk_i (k n : Int) (w : World) :
    Calls Try.prog 38 #[.agg #[.int .i64 k, .int .i64 n]] w fun e w' => e = .returned (.bool (valueOkB k n)) ∧ Below w.heap.size w w' := by
  go_enter Try.func38, Try.ntmps38
  go_wp2_with ((go_at_call 40; refine (in_i _ _ _ _).mono ?_; rintro e w' ⟨rfl, rfl⟩))
  all_goals (go_ret; exact ⟨ret_bool (by unfold valueOkB; simp_all <;> omega), by (repeat (first | exact Below.refl _ _ | assumption | (refine bel_call ?_ (by assumption)) | (refine bel_alloc ?_ _) | (refine Below.drew ?_) | (refine Below.setCell ?_ (by first | exact Nat.le_refl _ | (simp; done) | (simp; omega)) _)))⟩)
set_option maxHeartbeats 400000 in
theorem valueOk_s (k n : Int) (w : World) :
    Calls Try.prog 37 #[.agg #[.int .i64 k, .int .i64 n]] w fun e w' => e = .returned (.bool (valueOkB k n)) ∧ Below w.heap.size w w' := by
  go_enter Try.func37, Try.ntmps37
  go_wp2_with ((go_at_call 39; refine (in_s _ _ _ _).mono ?_; rintro e w' ⟨rfl, rfl⟩))
  all_goals (go_ret; exact ⟨ret_bool (by unfold valueOkB; simp_all <;> omega), by (repeat (first | exact Below.refl _ _ | assumption | (refine bel_call ?_ (by assumption)) | (refine bel_alloc ?_ _) | (refine Below.drew ?_) | (refine Below.setCell ?_ (by first | exact Nat.le_refl _ | (simp; done) | (simp; omega)) _)))⟩)
set_option maxHeartbeats 400000 in
theorem edgesOk_i (a b c d : Int) (w : World) :
    Calls Try.prog 26 #[.agg #[.int .i64 a, .int .i64 b, .int .i64 c, .int .i64 d]] w fun e w' => e = .returned (.bool (edgesOkB a b c d)) ∧ Below w.heap.size w w' := by
  go_enter Try.func26, Try.ntmps26
  go_wp2_with ((go_at_call 40; refine (in_i _ _ _ _).mono ?_; rintro e w' ⟨rfl, rfl⟩))
  all_goals (go_ret; exact ⟨ret_bool (by unfold edgesOkB; simp_all), by (repeat (first | exact Below.refl _ _ | assumption | (refine bel_call ?_ (by assumption)) | (refine bel_alloc ?_ _) | (refine Below.drew ?_) | (refine Below.setCell ?_ (by first | exact Nat.le_refl _ | (simp; done) | (simp; omega)) _)))⟩)
set_option maxHeartbeats 400000 in
theorem edgesOk_s (a b c d : Int) (w : World) :
    Calls Try.prog 24 #[.agg #[.int .i64 a, .int .i64 b, .int .i64 c, .int .i64 d]] w fun e w' => e = .returned (.bool (edgesOkB a b c d)) ∧ Below w.heap.size w w' := by
  go_enter Try.func24, Try.ntmps24
  go_wp2_with ((go_at_call 39; refine (in_s _ _ _ _).mono ?_; rintro e w' ⟨rfl, rfl⟩))
  all_goals (go_ret; exact ⟨ret_bool (by unfold edgesOkB; simp_all), by (repeat (first | exact Below.refl _ _ | assumption | (refine bel_call ?_ (by assumption)) | (refine bel_alloc ?_ _) | (refine Below.drew ?_) | (refine Below.setCell ?_ (by first | exact Nat.le_refl _ | (simp; done) | (simp; omega)) _)))⟩)
set_option maxHeartbeats 400000 in
theorem toValue_l (a b : Int) (w : World) :
    Calls Try.prog 16 #[.agg #[.int .i64 a, .int .i64 b]] w fun e w' => e = .returned (.agg #[.int .i64 a, .int .i64 b]) ∧ Below w.heap.size w w' := by
  go_enter Try.func16, Try.ntmps16
  go_wp2
  refine bodyPost_ret (v := .agg #[.int .i64 a, .int .i64 b]) (by simp [results, Try.results16, go_sem]) rfl ⟨rfl, ?_⟩
  (repeat (first | exact Below.refl _ _ | assumption | (refine bel_call ?_ (by assumption)) | (refine bel_alloc ?_ _) | (refine Below.drew ?_) | (refine Below.setCell ?_ (by first | exact Nat.le_refl _ | (simp; done) | (simp; omega)) _)))
def tsEdges : List TypeId := [3, 3, 3, 3]
set_option maxHeartbeats 400000 in
theorem toEdges_l (a b c d : Int) (w : World) :
    Calls Try.prog 25 #[.agg #[.int .i64 a, .int .i64 b, .int .i64 c, .int .i64 d]] w fun e w' => e = .returned (.agg #[.int .i64 a, .int .i64 b, .int .i64 c, .int .i64 d]) ∧ Below w.heap.size w w' := by
  go_enter Try.func25, Try.ntmps25
  go_wp2
  refine bodyPost_ret (v := .agg #[.int .i64 a, .int .i64 b, .int .i64 c, .int .i64 d]) (by simp [results, Try.results25, go_sem]) rfl ⟨rfl, ?_⟩
  (repeat (first | exact Below.refl _ _ | assumption | (refine bel_call ?_ (by assumption)) | (refine bel_alloc ?_ _) | (refine Below.drew ?_) | (refine Below.setCell ?_ (by first | exact Nat.le_refl _ | (simp; done) | (simp; omega)) _)))

end Go.Proofs.Ytpbjpkkomaopfaa
