/- Contracts of ByRatio and GivenOf. No condition. -/
import Derived.Test.YtcmanaklojomeaaBnd
namespace Go.Proofs.Ytcmanaklojomeaa
open Go.RowKit
set_option linter.unusedVariables false
set_option maxRecDepth 100000 in
set_option maxHeartbeats 1600000 in
theorem byRatio_i (g : Nat → Int) (q : Nat → Bool) (wide : Bool) (other : Int) (w : World) :
    Calls Try.prog 20 #[.agg (syA g q), .bool wide, .int .i64 other] w fun e w' => e = .returned (.int .i64 (byRatio (g 25) wide other)) ∧ Below w.heap.size w w' := by
  have h25 := syA_int g q 25 rfl
  have b1 := (ratio_bd other (g 25)).1
  have b2 := (ratio_bd other (g 25)).2
  have b3 := (clamped_le other).1
  have b4 := (clamped_le other).2
  have b5 := (clamped_le (g 25)).1
  have b6 := (clamped_le (g 25)).2
  have e1 : IntKind.i64.wrap (clamped other * clamped (g 25)) = clamped other * clamped (g 25) := IntWalk.i64_in _ (by omega)
  have e2 : IntKind.i64.wrap (clamped other * 64) = clamped other * 64 := IntWalk.i64_in _ (by omega)
  by_cases hr : g 25 ≤ 0
  · go_enter Try.func20, Try.ntmps20
    go_wp2
    go_ret
    exact ⟨ret_int (by unfold byRatio; rw [if_pos (Or.inl hr)]), by (repeat (first | exact Below.refl _ _ | assumption | (refine bel_call ?_ (by assumption)) | (refine bel_alloc ?_ _) | (refine Below.drew ?_) | (refine bel_drewN ?_ _) | (refine Below.setCell ?_ (by first | exact Nat.le_refl _ | assumption | (simp; done) | (simp; omega)) _)))⟩
  · by_cases ho : other < 0
    · go_enter Try.func20, Try.ntmps20
      go_wp2
      go_ret
      exact ⟨ret_int (by unfold byRatio; rw [if_pos (Or.inr ho)]), by (repeat (first | exact Below.refl _ _ | assumption | (refine bel_call ?_ (by assumption)) | (refine bel_alloc ?_ _) | (refine Below.drew ?_) | (refine bel_drewN ?_ _) | (refine Below.setCell ?_ (by first | exact Nat.le_refl _ | assumption | (simp; done) | (simp; omega)) _)))⟩
    · cases wide
      all_goals
        go_enter Try.func20, Try.ntmps20
        go_wp2_with (first | (go_at_call 17; refine (clamped_i _ _).mono ?_; rintro e w' ⟨rfl, rfl⟩) | (go_at_call 10; refine (floorDiv_i _ _ ⟨by omega, by omega⟩ ⟨by omega, by omega⟩ _).mono ?_; rintro e w' ⟨rfl, rfl⟩))
        go_quiet ((first | (go_at_call 17; exact quiet_same (clamped_i _ _)) | (go_at_call 10; exact quiet_same (floorDiv_i _ _ ⟨by omega, by omega⟩ ⟨by omega, by omega⟩ _))))
        go_wp2_with (first | (go_at_call 17; refine (clamped_i _ _).mono ?_; rintro e w' ⟨rfl, rfl⟩) | (go_at_call 10; refine (floorDiv_i _ _ ⟨by omega, by omega⟩ ⟨by omega, by omega⟩ _).mono ?_; rintro e w' ⟨rfl, rfl⟩))
        go_ret
        exact ⟨ret_int (by unfold byRatio; rw [if_neg (by omega)]; simp), by (repeat (first | exact Below.refl _ _ | assumption | (refine bel_call ?_ (by assumption)) | (refine bel_alloc ?_ _) | (refine Below.drew ?_) | (refine bel_drewN ?_ _) | (refine Below.setCell ?_ (by first | exact Nat.le_refl _ | assumption | (simp; done) | (simp; omega)) _)))⟩
set_option maxRecDepth 100000 in
set_option maxHeartbeats 1600000 in
theorem byRatio_s (g : Nat → Int) (q : Nat → Bool) (wide : Bool) (other : Int) (w : World) :
    Calls Try.prog 21 #[.agg (syA g q), .bool wide, .int .i64 other] w fun e w' => e = .returned (.int .i64 (byRatio (g 25) wide other)) ∧ Below w.heap.size w w' := by
  have h25 := syA_int g q 25 rfl
  have b1 := (ratio_bd other (g 25)).1
  have b2 := (ratio_bd other (g 25)).2
  have b3 := (clamped_le other).1
  have b4 := (clamped_le other).2
  have b5 := (clamped_le (g 25)).1
  have b6 := (clamped_le (g 25)).2
  have e1 : IntKind.i64.wrap (clamped other * clamped (g 25)) = clamped other * clamped (g 25) := IntWalk.i64_in _ (by omega)
  have e2 : IntKind.i64.wrap (clamped other * 64) = clamped other * 64 := IntWalk.i64_in _ (by omega)
  by_cases hr : g 25 ≤ 0
  · go_enter Try.func21, Try.ntmps21
    go_wp2
    go_ret
    exact ⟨ret_int (by unfold byRatio; rw [if_pos (Or.inl hr)]), by (repeat (first | exact Below.refl _ _ | assumption | (refine bel_call ?_ (by assumption)) | (refine bel_alloc ?_ _) | (refine Below.drew ?_) | (refine bel_drewN ?_ _) | (refine Below.setCell ?_ (by first | exact Nat.le_refl _ | assumption | (simp; done) | (simp; omega)) _)))⟩
  · by_cases ho : other < 0
    · go_enter Try.func21, Try.ntmps21
      go_wp2
      go_ret
      exact ⟨ret_int (by unfold byRatio; rw [if_pos (Or.inr ho)]), by (repeat (first | exact Below.refl _ _ | assumption | (refine bel_call ?_ (by assumption)) | (refine bel_alloc ?_ _) | (refine Below.drew ?_) | (refine bel_drewN ?_ _) | (refine Below.setCell ?_ (by first | exact Nat.le_refl _ | assumption | (simp; done) | (simp; omega)) _)))⟩
    · cases wide
      all_goals
        go_enter Try.func21, Try.ntmps21
        go_wp2_with (first | (go_at_call 24; refine (clamped_s _ _).mono ?_; rintro e w' ⟨rfl, rfl⟩) | (go_at_call 23; refine (floorDiv_s _ _ ⟨by omega, by omega⟩ ⟨by omega, by omega⟩ _).mono ?_; rintro e w' ⟨rfl, rfl⟩))
        go_quiet ((first | (go_at_call 24; exact quiet_same (clamped_s _ _)) | (go_at_call 23; exact quiet_same (floorDiv_s _ _ ⟨by omega, by omega⟩ ⟨by omega, by omega⟩ _))))
        go_wp2_with (first | (go_at_call 24; refine (clamped_s _ _).mono ?_; rintro e w' ⟨rfl, rfl⟩) | (go_at_call 23; refine (floorDiv_s _ _ ⟨by omega, by omega⟩ ⟨by omega, by omega⟩ _).mono ?_; rintro e w' ⟨rfl, rfl⟩))
        go_ret
        exact ⟨ret_int (by unfold byRatio; rw [if_neg (by omega)]; simp), by (repeat (first | exact Below.refl _ _ | assumption | (refine bel_call ?_ (by assumption)) | (refine bel_alloc ?_ _) | (refine Below.drew ?_) | (refine bel_drewN ?_ _) | (refine Below.setCell ?_ (by first | exact Nat.le_refl _ | assumption | (simp; done) | (simp; omega)) _)))⟩

end Go.Proofs.Ytcmanaklojomeaa
