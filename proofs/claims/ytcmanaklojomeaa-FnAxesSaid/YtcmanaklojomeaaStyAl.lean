/- The contract of AlignOf. No condition. -/
import Derived.Test.YtcmanaklojomeaaSty
namespace Go.Proofs.Ytcmanaklojomeaa
open Go.RowKit
set_option linter.unusedVariables false
attribute [local go_sem ↓] exec_row1 exec_row1d exec_row2
set_option maxRecDepth 100000 in
set_option maxHeartbeats 800000 in
theorem alignOf_i (g : Nat → Int) (q : Nat → Bool) (k : Nat → Int) (r : Nat → Bool) (w : World) :
    Calls Try.prog 38 #[.agg (syA g q), .agg (syA k r)] w fun e w' => e = .returned (.int .i64 (alignOf (g 0) (k 4) (g 3))) ∧ Below w.heap.size w w' := by
  have h3 := syA_int g q 3 rfl
  have k4 := syA_int k r 4 rfl
  rcases Bool.eq_false_or_eq_true (isRowB (g 0)) with hr | hr <;> rcases Bool.eq_false_or_eq_true (k 4 == 0) with h0 | h0
  case inl.inl | inr.inl =>
    rcases Bool.eq_false_or_eq_true (g 3 == 5) with h5 | h5
    all_goals
      go_enter Try.func38, Try.ntmps38
      go_wp2_with (first | (go_at_call 29; refine (isRow_i g q _).mono ?_; rintro e w' ⟨rfl, hb⟩; replace hb := bel_call (w := (w.alloc (.cells (syA g q) 40)).alloc (.cells (syA k r) 40)) (by first | exact Below.refl _ _ | assumption) hb; obtain ⟨hc, hf⟩ := bcell hb))
      go_ret
      exact ⟨ret_int (by unfold alignOf alignIn; simp_all), by (repeat (first | exact Below.refl _ _ | assumption | (refine bel_call ?_ (by assumption)) | (refine bel_alloc ?_ _) | (refine Below.drew ?_) | (refine bel_drewN ?_ _) | (refine Below.setCell ?_ (by first | exact Nat.le_refl _ | assumption | (simp; done) | (simp; omega)) _)))⟩
  case inl.inr | inr.inr =>
    rcases Bool.eq_false_or_eq_true (k 4 == 5) with h5 | h5
    all_goals
      go_enter Try.func38, Try.ntmps38
      go_wp2_with (first | (go_at_call 29; refine (isRow_i g q _).mono ?_; rintro e w' ⟨rfl, hb⟩; replace hb := bel_call (w := (w.alloc (.cells (syA g q) 40)).alloc (.cells (syA k r) 40)) (by first | exact Below.refl _ _ | assumption) hb; obtain ⟨hc, hf⟩ := bcell hb))
      go_ret
      exact ⟨ret_int (by unfold alignOf alignIn; simp_all), by (repeat (first | exact Below.refl _ _ | assumption | (refine bel_call ?_ (by assumption)) | (refine bel_alloc ?_ _) | (refine Below.drew ?_) | (refine bel_drewN ?_ _) | (refine Below.setCell ?_ (by first | exact Nat.le_refl _ | assumption | (simp; done) | (simp; omega)) _)))⟩
set_option maxRecDepth 100000 in
set_option maxHeartbeats 800000 in
theorem alignOf_s (g : Nat → Int) (q : Nat → Bool) (k : Nat → Int) (r : Nat → Bool) (w : World) :
    Calls Try.prog 39 #[.agg (syA g q), .agg (syA k r)] w fun e w' => e = .returned (.int .i64 (alignOf (g 0) (k 4) (g 3))) ∧ Below w.heap.size w w' := by
  have h3 := syA_int g q 3 rfl
  have k4 := syA_int k r 4 rfl
  rcases Bool.eq_false_or_eq_true (isRowB (g 0)) with hr | hr <;> rcases Bool.eq_false_or_eq_true (k 4 == 0) with h0 | h0
  case inl.inl | inr.inl =>
    rcases Bool.eq_false_or_eq_true (g 3 == 5) with h5 | h5
    all_goals
      go_enter Try.func39, Try.ntmps39
      go_wp2_with (first | (go_at_call 33; refine (isRow_s g q _).mono ?_; rintro e w' ⟨rfl, hb⟩; replace hb := bel_call (w := (w.alloc (.cells (syA g q) 40)).alloc (.cells (syA k r) 40)) (by first | exact Below.refl _ _ | assumption) hb; obtain ⟨hc, hf⟩ := bcell hb))
      go_ret
      exact ⟨ret_int (by unfold alignOf alignIn; simp_all), by (repeat (first | exact Below.refl _ _ | assumption | (refine bel_call ?_ (by assumption)) | (refine bel_alloc ?_ _) | (refine Below.drew ?_) | (refine bel_drewN ?_ _) | (refine Below.setCell ?_ (by first | exact Nat.le_refl _ | assumption | (simp; done) | (simp; omega)) _)))⟩
  case inl.inr | inr.inr =>
    rcases Bool.eq_false_or_eq_true (k 4 == 5) with h5 | h5
    all_goals
      go_enter Try.func39, Try.ntmps39
      go_wp2_with (first | (go_at_call 33; refine (isRow_s g q _).mono ?_; rintro e w' ⟨rfl, hb⟩; replace hb := bel_call (w := (w.alloc (.cells (syA g q) 40)).alloc (.cells (syA k r) 40)) (by first | exact Below.refl _ _ | assumption) hb; obtain ⟨hc, hf⟩ := bcell hb))
      go_ret
      exact ⟨ret_int (by unfold alignOf alignIn; simp_all), by (repeat (first | exact Below.refl _ _ | assumption | (refine bel_call ?_ (by assumption)) | (refine bel_alloc ?_ _) | (refine Below.drew ?_) | (refine bel_drewN ?_ _) | (refine Below.setCell ?_ (by first | exact Nat.le_refl _ | assumption | (simp; done) | (simp; omega)) _)))⟩

end Go.Proofs.Ytcmanaklojomeaa
