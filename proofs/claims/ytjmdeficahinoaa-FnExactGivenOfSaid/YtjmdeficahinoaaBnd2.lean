/- Contracts of ByRatio and GivenOf. No condition. -/
import Derived.Test.YtjmdeficahinoaaBnd
namespace Go.Proofs.Ytjmdeficahinoaa
open Go.RowKit
set_option linter.unusedVariables false
set_option maxRecDepth 100000 in
set_option maxHeartbeats 1600000 in
theorem byRatio_i (g : Nat → Int) (q : Nat → Bool) (wide : Bool) (other : Int) (w : World) :
    Calls Try.prog 14 #[.agg (syA g q), .bool wide, .int .i64 other] w fun e w' => e = .returned (.int .i64 (byRatio (g 25) wide other)) ∧ Below w.heap.size w w' := by
  have h25 := syA_int g q 25 rfl
  have b1 := (ratio_bd other (g 25)).1
  have b2 := (ratio_bd other (g 25)).2
  have b3 := (clamped_le other).1
  have b4 := (clamped_le other).2
  have b5 := (clamped_le (g 25)).1
  have b6 := (clamped_le (g 25)).2
  have e1 : IntKind.i64.wrap (clamped other * clamped (g 25)) = clamped other * clamped (g 25) := IntWalk.i64_in _ (by omega)
  have e2 : IntKind.i64.wrap (clamped other * 64) = clamped other * 64 := IntWalk.i64_in _ (by omega)
  by_cases hr : g 25 ≤ 0
  · go_enter Try.func14, Try.ntmps14
    go_wp2
    go_ret
    exact ⟨ret_int (by unfold byRatio; rw [if_pos (Or.inl hr)]), by (repeat (first | exact Below.refl _ _ | assumption | (refine bel_call ?_ (by assumption)) | (refine bel_alloc ?_ _) | (refine Below.drew ?_) | (refine bel_drewN ?_ _) | (refine Below.setCell ?_ (by first | exact Nat.le_refl _ | (simp; done) | (simp; omega)) _)))⟩
  · by_cases ho : other < 0
    · go_enter Try.func14, Try.ntmps14
      go_wp2
      go_ret
      exact ⟨ret_int (by unfold byRatio; rw [if_pos (Or.inr ho)]), by (repeat (first | exact Below.refl _ _ | assumption | (refine bel_call ?_ (by assumption)) | (refine bel_alloc ?_ _) | (refine Below.drew ?_) | (refine bel_drewN ?_ _) | (refine Below.setCell ?_ (by first | exact Nat.le_refl _ | (simp; done) | (simp; omega)) _)))⟩
    · cases wide
      all_goals
        go_enter Try.func14, Try.ntmps14
        go_wp2_with (first | (go_at_call 36; refine (clamped_i _ _).mono ?_; rintro e w' ⟨rfl, rfl⟩) | (go_at_call 37; refine (floorDiv_i _ _ ⟨by omega, by omega⟩ ⟨by omega, by omega⟩ _).mono ?_; rintro e w' ⟨rfl, rfl⟩))
        go_quiet ((first | (go_at_call 36; exact quiet_same (clamped_i _ _)) | (go_at_call 37; exact quiet_same (floorDiv_i _ _ ⟨by omega, by omega⟩ ⟨by omega, by omega⟩ _))))
        go_wp2_with (first | (go_at_call 36; refine (clamped_i _ _).mono ?_; rintro e w' ⟨rfl, rfl⟩) | (go_at_call 37; refine (floorDiv_i _ _ ⟨by omega, by omega⟩ ⟨by omega, by omega⟩ _).mono ?_; rintro e w' ⟨rfl, rfl⟩))
        go_ret
        exact ⟨ret_int (by unfold byRatio; rw [if_neg (by omega)]; simp), by (repeat (first | exact Below.refl _ _ | assumption | (refine bel_call ?_ (by assumption)) | (refine bel_alloc ?_ _) | (refine Below.drew ?_) | (refine bel_drewN ?_ _) | (refine Below.setCell ?_ (by first | exact Nat.le_refl _ | (simp; done) | (simp; omega)) _)))⟩
set_option maxRecDepth 100000 in
set_option maxHeartbeats 1600000 in
theorem byRatio_s (g : Nat → Int) (q : Nat → Bool) (wide : Bool) (other : Int) (w : World) :
    Calls Try.prog 13 #[.agg (syA g q), .bool wide, .int .i64 other] w fun e w' => e = .returned (.int .i64 (byRatio (g 25) wide other)) ∧ Below w.heap.size w w' := by
  have h25 := syA_int g q 25 rfl
  have b1 := (ratio_bd other (g 25)).1
  have b2 := (ratio_bd other (g 25)).2
  have b3 := (clamped_le other).1
  have b4 := (clamped_le other).2
  have b5 := (clamped_le (g 25)).1
  have b6 := (clamped_le (g 25)).2
  have e1 : IntKind.i64.wrap (clamped other * clamped (g 25)) = clamped other * clamped (g 25) := IntWalk.i64_in _ (by omega)
  have e2 : IntKind.i64.wrap (clamped other * 64) = clamped other * 64 := IntWalk.i64_in _ (by omega)
  by_cases hr : g 25 ≤ 0
  · go_enter Try.func13, Try.ntmps13
    go_wp2
    go_ret
    exact ⟨ret_int (by unfold byRatio; rw [if_pos (Or.inl hr)]), by (repeat (first | exact Below.refl _ _ | assumption | (refine bel_call ?_ (by assumption)) | (refine bel_alloc ?_ _) | (refine Below.drew ?_) | (refine bel_drewN ?_ _) | (refine Below.setCell ?_ (by first | exact Nat.le_refl _ | (simp; done) | (simp; omega)) _)))⟩
  · by_cases ho : other < 0
    · go_enter Try.func13, Try.ntmps13
      go_wp2
      go_ret
      exact ⟨ret_int (by unfold byRatio; rw [if_pos (Or.inr ho)]), by (repeat (first | exact Below.refl _ _ | assumption | (refine bel_call ?_ (by assumption)) | (refine bel_alloc ?_ _) | (refine Below.drew ?_) | (refine bel_drewN ?_ _) | (refine Below.setCell ?_ (by first | exact Nat.le_refl _ | (simp; done) | (simp; omega)) _)))⟩
    · cases wide
      all_goals
        go_enter Try.func13, Try.ntmps13
        go_wp2_with (first | (go_at_call 34; refine (clamped_s _ _).mono ?_; rintro e w' ⟨rfl, rfl⟩) | (go_at_call 35; refine (floorDiv_s _ _ ⟨by omega, by omega⟩ ⟨by omega, by omega⟩ _).mono ?_; rintro e w' ⟨rfl, rfl⟩))
        go_quiet ((first | (go_at_call 34; exact quiet_same (clamped_s _ _)) | (go_at_call 35; exact quiet_same (floorDiv_s _ _ ⟨by omega, by omega⟩ ⟨by omega, by omega⟩ _))))
        go_wp2_with (first | (go_at_call 34; refine (clamped_s _ _).mono ?_; rintro e w' ⟨rfl, rfl⟩) | (go_at_call 35; refine (floorDiv_s _ _ ⟨by omega, by omega⟩ ⟨by omega, by omega⟩ _).mono ?_; rintro e w' ⟨rfl, rfl⟩))
        go_ret
        exact ⟨ret_int (by unfold byRatio; rw [if_neg (by omega)]; simp), by (repeat (first | exact Below.refl _ _ | assumption | (refine bel_call ?_ (by assumption)) | (refine bel_alloc ?_ _) | (refine Below.drew ?_) | (refine bel_drewN ?_ _) | (refine Below.setCell ?_ (by first | exact Nat.le_refl _ | (simp; done) | (simp; omega)) _)))⟩
set_option maxRecDepth 100000 in
set_option maxHeartbeats 1600000 in
theorem givenOf_i (g : Nat → Int) (q : Nat → Bool) (wide : Bool) (base other : Int) (w : World) :
    Calls Try.prog 20 #[.agg (syA g q), .bool wide, .int .i64 base, .int .i64 other] w fun e w' => e = .returned (.int .i64 (givenOf g wide base other)) ∧ Below w.heap.size w w' := by
  by_cases hf0 : fixedOf g wide base = -1
  all_goals
    go_enter Try.func20, Try.ntmps20
    go_wp2_with (first | (refine wpList_load_row rfl 36 _ rfl (w.heap.size) rfl 36 (syA g q) (0, 0) _ (by first | (with_reducible exact hbox1 _ _ _) | (with_reducible exact hbox2a _ _ _ _) | (with_reducible exact hbox2b _ _ _ _) | (refine (hb.block _ ?_).trans ?_ <;> first | (simp; done) | (with_reducible exact hbox1 _ _ _) | (with_reducible exact hbox2a _ _ _ _) | (with_reducible exact hbox2b _ _ _ _))) Try.underlying36 rfl (syA_info_v g q) ?_) | (go_at_call 16; refine (fixedOf_i g q _ _ _).mono ?_; rintro e w' ⟨rfl, hb⟩; replace hb := bel_call (w := w.alloc (.cells (syA g q) 36)) (by first | exact Below.refl _ _ | assumption) hb; obtain ⟨hc, hf⟩ := bcell hb) | (go_at_call 14; refine (byRatio_i g q _ _ _).mono ?_; rintro e w' ⟨rfl, hb⟩; replace hb := bel_call (w := w.alloc (.cells (syA g q) 36)) (by first | exact Below.refl _ _ | assumption) hb; obtain ⟨hc, hf⟩ := bcell hb))
    go_ret
    exact ⟨ret_int (by unfold givenOf; simp [hf0]), by (repeat (first | exact Below.refl _ _ | assumption | (refine bel_call ?_ (by assumption)) | (refine bel_alloc ?_ _) | (refine Below.drew ?_) | (refine bel_drewN ?_ _) | (refine Below.setCell ?_ (by first | exact Nat.le_refl _ | (simp; done) | (simp; omega)) _)))⟩
set_option maxRecDepth 100000 in
set_option maxHeartbeats 1600000 in
theorem givenOf_s (g : Nat → Int) (q : Nat → Bool) (wide : Bool) (base other : Int) (w : World) :
    Calls Try.prog 19 #[.agg (syA g q), .bool wide, .int .i64 base, .int .i64 other] w fun e w' => e = .returned (.int .i64 (givenOf g wide base other)) ∧ Below w.heap.size w w' := by
  by_cases hf0 : fixedOf g wide base = -1
  all_goals
    go_enter Try.func19, Try.ntmps19
    go_wp2_with (first | (refine wpList_load_row rfl 36 _ rfl (w.heap.size) rfl 36 (syA g q) (0, 0) _ (by first | (with_reducible exact hbox1 _ _ _) | (with_reducible exact hbox2a _ _ _ _) | (with_reducible exact hbox2b _ _ _ _) | (refine (hb.block _ ?_).trans ?_ <;> first | (simp; done) | (with_reducible exact hbox1 _ _ _) | (with_reducible exact hbox2a _ _ _ _) | (with_reducible exact hbox2b _ _ _ _))) Try.underlying36 rfl (syA_info_v g q) ?_) | (go_at_call 15; refine (fixedOf_s g q _ _ _).mono ?_; rintro e w' ⟨rfl, hb⟩; replace hb := bel_call (w := w.alloc (.cells (syA g q) 36)) (by first | exact Below.refl _ _ | assumption) hb; obtain ⟨hc, hf⟩ := bcell hb) | (go_at_call 13; refine (byRatio_s g q _ _ _).mono ?_; rintro e w' ⟨rfl, hb⟩; replace hb := bel_call (w := w.alloc (.cells (syA g q) 36)) (by first | exact Below.refl _ _ | assumption) hb; obtain ⟨hc, hf⟩ := bcell hb))
    go_ret
    exact ⟨ret_int (by unfold givenOf; simp [hf0]), by (repeat (first | exact Below.refl _ _ | assumption | (refine bel_call ?_ (by assumption)) | (refine bel_alloc ?_ _) | (refine Below.drew ?_) | (refine bel_drewN ?_ _) | (refine Below.setCell ?_ (by first | exact Nat.le_refl _ | (simp; done) | (simp; omega)) _)))⟩

end Go.Proofs.Ytjmdeficahinoaa
