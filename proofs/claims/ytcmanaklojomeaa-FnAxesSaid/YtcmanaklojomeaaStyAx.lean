/- The contracts of MainSides and CrossSides. No condition. -/
import Derived.Test.YtcmanaklojomeaaStyCb
import Derived.Deep.RegionLaw
namespace Go.Proofs.Ytcmanaklojomeaa
open Go.RowKit
set_option linter.unusedVariables false
attribute [local go_sem ↓] exec_row1 exec_row1d exec_rowh exec_rowhd
set_option maxRecDepth 100000 in
set_option maxHeartbeats 800000 in
theorem mainSides_i (g : Nat → Int) (q : Nat → Bool) (rtl : Bool) (w : World) :
    Calls Try.prog 26 #[.agg (syA g q), .bool rtl] w fun e w' => e = .returned (.tuple #[.int .i64 (firstSide (isRowB (g 0)) (mainBackB (g 0) rtl)), .int .i64 (lastSide (isRowB (g 0)) (mainBackB (g 0) rtl))]) ∧ Below w.heap.size w w' := by
  go_enter Try.func26, Try.ntmps26
  go_wp2_with fail
  go_region_law (first | (go_simp; (go_at_call 29; refine (isRow_i g q _).mono ?_; rintro e w' ⟨rfl, hb⟩; have hz := (Nat.le_trans (by first | assumption | (simp; done) | (simp; omega)) hb.size : w.heap.size + 1 ≤ w'.heap.size); have c0 := fun o => hb.cell (p := ⟨w.heap.size, o, none⟩) (by first | (simp; done) | (simp; omega)); have hB := (hb.block w.heap.size (by first | omega | (simp; done) | (simp; omega))).trans (by first | (with_reducible exact hbox1 _ _ _) | exact hbox1 _ _ _ | assumption); obtain ⟨w2, rfl⟩ : ∃ w2, w' = held w2 w.heap.size (syA g q) := ⟨w', (held_eq _ _ _).symm⟩)) | (go_simp; (go_at_call 34; refine (mainBack_i g q _ _).mono ?_; rintro e w' ⟨rfl, hb⟩; have hz := (Nat.le_trans (by first | assumption | (simp; done) | (simp; omega)) hb.size : w.heap.size + 1 ≤ w'.heap.size); have c0 := fun o => hb.cell (p := ⟨w.heap.size, o, none⟩) (by first | (simp; done) | (simp; omega)); have hB := (hb.block w.heap.size (by first | omega | (simp; done) | (simp; omega))).trans (by first | (with_reducible exact hbox1 _ _ _) | exact hbox1 _ _ _ | assumption); obtain ⟨w2, rfl⟩ : ∃ w2, w' = held w2 w.heap.size (syA g q) := ⟨w', (held_eq _ _ _).symm⟩)) | (go_simp; (go_at_call 80; refine (axisSides_i _ _ _).mono ?_; rintro e w' ⟨rfl, rfl⟩)))
  go_goals
  all_goals go_wp2
  all_goals go_ret2
  all_goals exact ⟨rfl, by (repeat (first | exact Below.refl _ _ | assumption | (refine bel_call ?_ (by assumption)) | (refine bel_alloc ?_ _) | (refine Below.drew ?_) | (refine bel_drewN ?_ _) | (refine Below.setCell ?_ (by first | exact Nat.le_refl _ | assumption | (simp; done) | (simp; omega)) _)))⟩
set_option maxRecDepth 100000 in
set_option maxHeartbeats 800000 in
theorem crossSides_i (g : Nat → Int) (q : Nat → Bool) (rtl : Bool) (w : World) :
    Calls Try.prog 27 #[.agg (syA g q), .bool rtl] w fun e w' => e = .returned (.tuple #[.int .i64 (firstSide (!isRowB (g 0)) (crossBackB (g 0) (g 1) rtl)), .int .i64 (lastSide (!isRowB (g 0)) (crossBackB (g 0) (g 1) rtl))]) ∧ Below w.heap.size w w' := by
  go_enter Try.func27, Try.ntmps27
  go_wp2_with fail
  go_region_law (first | (go_simp; (go_at_call 29; refine (isRow_i g q _).mono ?_; rintro e w' ⟨rfl, hb⟩; have hz := (Nat.le_trans (by first | assumption | (simp; done) | (simp; omega)) hb.size : w.heap.size + 1 ≤ w'.heap.size); have c0 := fun o => hb.cell (p := ⟨w.heap.size, o, none⟩) (by first | (simp; done) | (simp; omega)); have hB := (hb.block w.heap.size (by first | omega | (simp; done) | (simp; omega))).trans (by first | (with_reducible exact hbox1 _ _ _) | exact hbox1 _ _ _ | assumption); obtain ⟨w2, rfl⟩ : ∃ w2, w' = held w2 w.heap.size (syA g q) := ⟨w', (held_eq _ _ _).symm⟩)) | (go_simp; (go_at_call 36; refine (crossBack_i g q _ _).mono ?_; rintro e w' ⟨rfl, hb⟩; have hz := (Nat.le_trans (by first | assumption | (simp; done) | (simp; omega)) hb.size : w.heap.size + 1 ≤ w'.heap.size); have c0 := fun o => hb.cell (p := ⟨w.heap.size, o, none⟩) (by first | (simp; done) | (simp; omega)); have hB := (hb.block w.heap.size (by first | omega | (simp; done) | (simp; omega))).trans (by first | (with_reducible exact hbox1 _ _ _) | exact hbox1 _ _ _ | assumption); obtain ⟨w2, rfl⟩ : ∃ w2, w' = held w2 w.heap.size (syA g q) := ⟨w', (held_eq _ _ _).symm⟩)) | (go_simp; (go_at_call 80; refine (axisSides_i _ _ _).mono ?_; rintro e w' ⟨rfl, rfl⟩)))
  go_goals
  all_goals go_wp2
  all_goals go_ret2
  all_goals exact ⟨rfl, by (repeat (first | exact Below.refl _ _ | assumption | (refine bel_call ?_ (by assumption)) | (refine bel_alloc ?_ _) | (refine Below.drew ?_) | (refine bel_drewN ?_ _) | (refine Below.setCell ?_ (by first | exact Nat.le_refl _ | assumption | (simp; done) | (simp; omega)) _)))⟩
set_option maxRecDepth 100000 in
set_option maxHeartbeats 800000 in
theorem crossSides_s (g : Nat → Int) (q : Nat → Bool) (rtl : Bool) (w : World) :
    Calls Try.prog 28 #[.agg (syA g q), .bool rtl] w fun e w' => e = .returned (.tuple #[.int .i64 (firstSide (!isRowB (g 0)) (crossBackB (g 0) (g 1) rtl)), .int .i64 (lastSide (!isRowB (g 0)) (crossBackB (g 0) (g 1) rtl))]) ∧ Below w.heap.size w w' := by
  go_enter Try.func28, Try.ntmps28
  go_wp2_with fail
  go_region_law (first | (go_simp; (go_at_call 33; refine (isRow_s g q _).mono ?_; rintro e w' ⟨rfl, hb⟩; have hz := (Nat.le_trans (by first | assumption | (simp; done) | (simp; omega)) hb.size : w.heap.size + 1 ≤ w'.heap.size); have c0 := fun o => hb.cell (p := ⟨w.heap.size, o, none⟩) (by first | (simp; done) | (simp; omega)); have hB := (hb.block w.heap.size (by first | omega | (simp; done) | (simp; omega))).trans (by first | (with_reducible exact hbox1 _ _ _) | exact hbox1 _ _ _ | assumption); obtain ⟨w2, rfl⟩ : ∃ w2, w' = held w2 w.heap.size (syA g q) := ⟨w', (held_eq _ _ _).symm⟩)) | (go_simp; (go_at_call 37; refine (crossBack_s g q _ _).mono ?_; rintro e w' ⟨rfl, hb⟩; have hz := (Nat.le_trans (by first | assumption | (simp; done) | (simp; omega)) hb.size : w.heap.size + 1 ≤ w'.heap.size); have c0 := fun o => hb.cell (p := ⟨w.heap.size, o, none⟩) (by first | (simp; done) | (simp; omega)); have hB := (hb.block w.heap.size (by first | omega | (simp; done) | (simp; omega))).trans (by first | (with_reducible exact hbox1 _ _ _) | exact hbox1 _ _ _ | assumption); obtain ⟨w2, rfl⟩ : ∃ w2, w' = held w2 w.heap.size (syA g q) := ⟨w', (held_eq _ _ _).symm⟩)) | (go_simp; (go_at_call 81; refine (axisSides_s _ _ _).mono ?_; rintro e w' ⟨rfl, rfl⟩)))
  go_goals
  all_goals go_wp2
  all_goals go_ret2
  all_goals exact ⟨rfl, by (repeat (first | exact Below.refl _ _ | assumption | (refine bel_call ?_ (by assumption)) | (refine bel_alloc ?_ _) | (refine Below.drew ?_) | (refine bel_drewN ?_ _) | (refine Below.setCell ?_ (by first | exact Nat.le_refl _ | assumption | (simp; done) | (simp; omega)) _)))⟩

end Go.Proofs.Ytcmanaklojomeaa
