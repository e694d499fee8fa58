/- The contract of the reference's StyleOk, and of the small checks. No condition. -/
import Derived.Test.YtcmanaklojomeaaConv
import Derived.Test.YtcmanaklojomeaaCore2
namespace Go.Proofs.Ytcmanaklojomeaa
open Go.RowKit
set_option linter.unusedVariables false
set_option maxHeartbeats 1600000 in
theorem sidesOkA_i (g : Nat → Int) (q : Nat → Bool) (w : World) :
    Calls Try.prog 44 #[.agg (sdA g q)] w fun e w' => e = .returned (.bool (sidesOkB g)) ∧ Below w.heap.size w w' := by
  have h0 := sdA_int g q 0 rfl; have h1 := sdA_int g q 1 rfl; have h2 := sdA_int g q 2 rfl; have h3 := sdA_int g q 3 rfl; have h4 := sdA_int g q 4 rfl; have h5 := sdA_int g q 5 rfl; have h6 := sdA_int g q 6 rfl; have h7 := sdA_int g q 7 rfl; have h8 := sdA_int g q 8 rfl; have h9 := sdA_int g q 9 rfl; have h10 := sdA_int g q 10 rfl; have h11 := sdA_int g q 11 rfl
  go_enter Try.func44, Try.ntmps44
  go_wp2_with ((go_at_call 85; refine (valueOk_i _ _ _).mono ?_; rintro e w' ⟨rfl, hb⟩; replace hb := bel_call (w := w.alloc (.cells (sdA g q) 36)) (by first | exact Below.refl _ _ | assumption) hb; obtain ⟨hc, hf⟩ := bcell hb))
  all_goals (go_ret; exact ⟨ret_bool (by unfold sidesOkB; simp [*]), by (repeat (first | exact Below.refl _ _ | assumption | (refine bel_call ?_ (by assumption)) | (refine bel_alloc ?_ _) | (refine Below.drew ?_) | (refine bel_drewN ?_ _) | (refine Below.setCell ?_ (by first | exact Nat.le_refl _ | assumption | (simp; done) | (simp; omega)) _)))⟩)
theorem sidesOkL_i (x0 x1 x2 x3 x4 x5 x6 x7 x8 x9 x10 x11 : Int) (w : World) :
    Calls Try.prog 44 #[.agg #[.int .i64 x0, .int .i64 x1, .int .i64 x2, .int .i64 x3, .int .i64 x4, .int .i64 x5, .int .i64 x6, .int .i64 x7, .int .i64 x8, .int .i64 x9, .int .i64 x10, .int .i64 x11]] w fun e w' => e = .returned (.bool (sidesOk12 x0 x1 x2 x3 x4 x5 x6 x7 x8 x9 x10 x11)) ∧ Below w.heap.size w w' :=
  sidesOkA_i (fun i => match i with | 0 => x0 | 1 => x1 | 2 => x2 | 3 => x3 | 4 => x4 | 5 => x5 | 6 => x6 | 7 => x7 | 8 => x8 | 9 => x9 | 10 => x10 | 11 => x11 | _ => 0) (fun _ => false) w
set_option maxHeartbeats 1600000 in
theorem sidesOkA_s (g : Nat → Int) (q : Nat → Bool) (w : World) :
    Calls Try.prog 45 #[.agg (sdA g q)] w fun e w' => e = .returned (.bool (sidesOkB g)) ∧ Below w.heap.size w w' := by
  have h0 := sdA_int g q 0 rfl; have h1 := sdA_int g q 1 rfl; have h2 := sdA_int g q 2 rfl; have h3 := sdA_int g q 3 rfl; have h4 := sdA_int g q 4 rfl; have h5 := sdA_int g q 5 rfl; have h6 := sdA_int g q 6 rfl; have h7 := sdA_int g q 7 rfl; have h8 := sdA_int g q 8 rfl; have h9 := sdA_int g q 9 rfl; have h10 := sdA_int g q 10 rfl; have h11 := sdA_int g q 11 rfl
  go_enter Try.func45, Try.ntmps45
  go_wp2_with ((go_at_call 86; refine (valueOk_s _ _ _).mono ?_; rintro e w' ⟨rfl, hb⟩; replace hb := bel_call (w := w.alloc (.cells (sdA g q) 36)) (by first | exact Below.refl _ _ | assumption) hb; obtain ⟨hc, hf⟩ := bcell hb))
  all_goals (go_ret; exact ⟨ret_bool (by unfold sidesOkB; simp [*]), by (repeat (first | exact Below.refl _ _ | assumption | (refine bel_call ?_ (by assumption)) | (refine bel_alloc ?_ _) | (refine Below.drew ?_) | (refine bel_drewN ?_ _) | (refine Below.setCell ?_ (by first | exact Nat.le_refl _ | assumption | (simp; done) | (simp; omega)) _)))⟩)
theorem sidesOkL_s (x0 x1 x2 x3 x4 x5 x6 x7 x8 x9 x10 x11 : Int) (w : World) :
    Calls Try.prog 45 #[.agg #[.int .i64 x0, .int .i64 x1, .int .i64 x2, .int .i64 x3, .int .i64 x4, .int .i64 x5, .int .i64 x6, .int .i64 x7, .int .i64 x8, .int .i64 x9, .int .i64 x10, .int .i64 x11]] w fun e w' => e = .returned (.bool (sidesOk12 x0 x1 x2 x3 x4 x5 x6 x7 x8 x9 x10 x11)) ∧ Below w.heap.size w w' :=
  sidesOkA_s (fun i => match i with | 0 => x0 | 1 => x1 | 2 => x2 | 3 => x3 | 4 => x4 | 5 => x5 | 6 => x6 | 7 => x7 | 8 => x8 | 9 => x9 | 10 => x10 | 11 => x11 | _ => 0) (fun _ => false) w
set_option maxHeartbeats 1600000 in
theorem sizeOk_i (k n : Int) (w : World) :
    Calls Try.prog 96 #[.agg #[.int .i64 k, .int .i64 n]] w fun e w' => e = .returned (.bool (sizeOkB k n)) ∧ Below w.heap.size w w' := by
  rcases Bool.eq_false_or_eq_true (valueOkB k n) with hv | hv
  all_goals
    go_enter Try.func96, Try.ntmps96
    go_wp2_with ((go_at_call 85; refine (valueOk_i _ _ _).mono ?_; rintro e w' ⟨rfl, hb⟩; replace hb := bel_call (w := w.alloc (.cells #[.int .i64 k, .int .i64 n] 34)) (by first | exact Below.refl _ _ | assumption) hb; obtain ⟨hc, hf⟩ := bcell hb))
    go_ret
    exact ⟨ret_bool (by unfold sizeOkB; simp [hv]), by (repeat (first | exact Below.refl _ _ | assumption | (refine bel_call ?_ (by assumption)) | (refine bel_alloc ?_ _) | (refine Below.drew ?_) | (refine bel_drewN ?_ _) | (refine Below.setCell ?_ (by first | exact Nat.le_refl _ | assumption | (simp; done) | (simp; omega)) _)))⟩
set_option maxHeartbeats 1600000 in
theorem sizeOk_s (k n : Int) (w : World) :
    Calls Try.prog 97 #[.agg #[.int .i64 k, .int .i64 n]] w fun e w' => e = .returned (.bool (sizeOkB k n)) ∧ Below w.heap.size w w' := by
  rcases Bool.eq_false_or_eq_true (valueOkB k n) with hv | hv
  all_goals
    go_enter Try.func97, Try.ntmps97
    go_wp2_with ((go_at_call 86; refine (valueOk_s _ _ _).mono ?_; rintro e w' ⟨rfl, hb⟩; replace hb := bel_call (w := w.alloc (.cells #[.int .i64 k, .int .i64 n] 34)) (by first | exact Below.refl _ _ | assumption) hb; obtain ⟨hc, hf⟩ := bcell hb))
    go_ret
    exact ⟨ret_bool (by unfold sizeOkB; simp [hv]), by (repeat (first | exact Below.refl _ _ | assumption | (refine bel_call ?_ (by assumption)) | (refine bel_alloc ?_ _) | (refine Below.drew ?_) | (refine bel_drewN ?_ _) | (refine Below.setCell ?_ (by first | exact Nat.le_refl _ | assumption | (simp; done) | (simp; omega)) _)))⟩
set_option maxRecDepth 100000 in
set_option maxHeartbeats 8000000 in
theorem styleOk_s (g : Nat → Int) (q : Nat → Bool) (w : World) :
    Calls Try.prog 64 #[.agg (syA g q)] w fun e w' => e = .returned (.bool (styleOkB g)) ∧ Below w.heap.size w w' := by
  have h0 := syA_int g q 0 rfl; have h1 := syA_int g q 1 rfl; have h2 := syA_int g q 2 rfl; have h3 := syA_int g q 3 rfl; have h4 := syA_int g q 4 rfl; have h5 := syA_int g q 5 rfl; have h8 := syA_int g q 8 rfl; have h9 := syA_int g q 9 rfl; have h10 := syA_int g q 10 rfl; have h11 := syA_int g q 11 rfl; have h12 := syA_int g q 12 rfl; have h13 := syA_int g q 13 rfl; have h14 := syA_int g q 14 rfl; have h15 := syA_int g q 15 rfl; have h16 := syA_int g q 16 rfl; have h17 := syA_int g q 17 rfl; have h18 := syA_int g q 18 rfl; have h19 := syA_int g q 19 rfl; have h20 := syA_int g q 20 rfl; have h21 := syA_int g q 21 rfl; have h22 := syA_int g q 22 rfl; have h23 := syA_int g q 23 rfl; have h24 := syA_int g q 24 rfl; have h25 := syA_int g q 25 rfl; have h26 := syA_int g q 26 rfl; have h27 := syA_int g q 27 rfl; have h28 := syA_int g q 28 rfl; have h29 := syA_int g q 29 rfl; have h30 := syA_int g q 30 rfl; have h31 := syA_int g q 31 rfl; have h32 := syA_int g q 32 rfl; have h33 := syA_int g q 33 rfl; have h34 := syA_int g q 34 rfl; have h35 := syA_int g q 35 rfl; have h36 := syA_int g q 36 rfl; have h37 := syA_int g q 37 rfl; have h38 := syA_int g q 38 rfl; have h39 := syA_int g q 39 rfl; have h40 := syA_int g q 40 rfl; have h41 := syA_int g q 41 rfl; have h42 := syA_int g q 42 rfl; have h43 := syA_int g q 43 rfl; have h44 := syA_int g q 44 rfl; have h45 := syA_int g q 45 rfl; have h46 := syA_int g q 46 rfl; have h47 := syA_int g q 47 rfl; have h48 := syA_int g q 48 rfl; have h49 := syA_int g q 49 rfl; have h50 := syA_int g q 50 rfl; have h51 := syA_int g q 51 rfl; have h52 := syA_int g q 52 rfl; have h53 := syA_int g q 53 rfl; have h54 := syA_int g q 54 rfl; have h55 := syA_int g q 55 rfl; have h56 := syA_int g q 56 rfl; have h57 := syA_int g q 57 rfl; have h58 := syA_int g q 58 rfl; have h59 := syA_int g q 59 rfl
  go_enter Try.func64, Try.ntmps64
  go_wp2_with (first | (go_at_call 95; refine (in_s _ _ _ _).mono ?_; rintro e w' ⟨rfl, rfl⟩) | (go_at_call 97; refine (sizeOk_s _ _ _).mono ?_; rintro e w' ⟨rfl, hb⟩; replace hb := bel_call (w := w.alloc (.cells (syA g q) 40)) (by first | exact Below.refl _ _ | assumption) hb; obtain ⟨hc, hf⟩ := bcell hb) | (go_at_call 45; refine (sidesOkL_s _ _ _ _ _ _ _ _ _ _ _ _ _).mono ?_; rintro e w' ⟨rfl, hb⟩; replace hb := bel_call (w := w.alloc (.cells (syA g q) 40)) (by first | exact Below.refl _ _ | assumption) hb; obtain ⟨hc, hf⟩ := bcell hb) | (go_at_call 55; refine (edgesOk_s _ _ _ _ _).mono ?_; rintro e w' ⟨rfl, hb⟩; replace hb := bel_call (w := w.alloc (.cells (syA g q) 40)) (by first | exact Below.refl _ _ | assumption) hb; obtain ⟨hc, hf⟩ := bcell hb))
  all_goals (go_ret; exact ⟨ret_bool (by (try simp only [Bool.not_eq_true', Bool.not_eq_false'] at *); unfold styleOkB; simp [*]), by (repeat (first | exact Below.refl _ _ | assumption | (refine bel_call ?_ (by assumption)) | (refine bel_alloc ?_ _) | (refine Below.drew ?_) | (refine bel_drewN ?_ _) | (refine Below.setCell ?_ (by first | exact Nat.le_refl _ | assumption | (simp; done) | (simp; omega)) _)))⟩)
end Go.Proofs.Ytcmanaklojomeaa
