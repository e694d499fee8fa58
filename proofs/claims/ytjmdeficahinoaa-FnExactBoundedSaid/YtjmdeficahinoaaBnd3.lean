/- The contract of Bounded. No condition. -/
import Derived.Test.YtjmdeficahinoaaBnd
namespace Go.Proofs.Ytjmdeficahinoaa
open Go.RowKit
set_option linter.unusedVariables false
attribute [local go_sem ↓] exec_row1 exec_row1d exec_rowh exec_rowhd
set_option maxRecDepth 100000 in
set_option maxHeartbeats 3200000 in
theorem bounded_i (g : Nat → Int) (q : Nat → Bool) (wide : Bool) (base n : Int) (w : World) :
    Calls Try.prog 24 #[.agg (syA g q), .bool wide, .int .i64 base, .int .i64 n] w fun e w' => e = .returned (.int .i64 (bounded g wide base n)) ∧ Below w.heap.size w w' := by
  go_enter Try.func24, Try.ntmps24
  go_wp2_with fail
  go_region_law (first | (go_simp; (go_at_call 22; refine (leastOf_i g q _ _ _).mono ?_; rintro e w' ⟨rfl, hb⟩; have hz := (Nat.le_trans (by first | assumption | (simp; done) | (simp; omega)) hb.size : w.heap.size + 1 ≤ w'.heap.size); have c0 := fun o => hb.cell (p := ⟨w.heap.size, o, none⟩) (by first | (simp; done) | (simp; omega)); have hB := (hb.block w.heap.size (by first | omega | (simp; done) | (simp; omega))).trans (by first | (with_reducible exact hbox1 _ _ _) | exact hbox1 _ _ _ | assumption); obtain ⟨w2, rfl⟩ : ∃ w2, w' = held w2 w.heap.size (syA g q) := ⟨w', (held_eq _ _ _).symm⟩)) | (go_simp; (go_at_call 18; refine (mostOf_i g q _ _ _).mono ?_; rintro e w' ⟨rfl, hb⟩; have hz := (Nat.le_trans (by first | assumption | (simp; done) | (simp; omega)) hb.size : w.heap.size + 1 ≤ w'.heap.size); have c0 := fun o => hb.cell (p := ⟨w.heap.size, o, none⟩) (by first | (simp; done) | (simp; omega)); have hB := (hb.block w.heap.size (by first | omega | (simp; done) | (simp; omega))).trans (by first | (with_reducible exact hbox1 _ _ _) | exact hbox1 _ _ _ | assumption); obtain ⟨w2, rfl⟩ : ∃ w2, w' = held w2 w.heap.size (syA g q) := ⟨w', (held_eq _ _ _).symm⟩)) | (go_simp; (go_at_call 45; refine (within_i _ _ _ _).mono ?_; rintro e w' ⟨rfl, rfl⟩)) | (go_simp; (go_at_call 36; refine (clamped_i _ _).mono ?_; rintro e w' ⟨rfl, rfl⟩)))
  all_goals go_wp2
  all_goals go_ret
  all_goals exact ⟨rfl, by (repeat (first | exact Below.refl _ _ | assumption | (refine bel_call ?_ (by assumption)) | (refine bel_alloc ?_ _) | (refine Below.drew ?_) | (refine bel_drewN ?_ _) | (refine Below.setCell ?_ (by first | exact Nat.le_refl _ | (simp; done) | (simp; omega)) _)))⟩
set_option maxRecDepth 100000 in
set_option maxHeartbeats 3200000 in
theorem bounded_s (g : Nat → Int) (q : Nat → Bool) (wide : Bool) (base n : Int) (w : World) :
    Calls Try.prog 23 #[.agg (syA g q), .bool wide, .int .i64 base, .int .i64 n] w fun e w' => e = .returned (.int .i64 (bounded g wide base n)) ∧ Below w.heap.size w w' := by
  go_enter Try.func23, Try.ntmps23
  go_wp2_with fail
  go_region_law (first | (go_simp; (go_at_call 21; refine (leastOf_s g q _ _ _).mono ?_; rintro e w' ⟨rfl, hb⟩; have hz := (Nat.le_trans (by first | assumption | (simp; done) | (simp; omega)) hb.size : w.heap.size + 1 ≤ w'.heap.size); have c0 := fun o => hb.cell (p := ⟨w.heap.size, o, none⟩) (by first | (simp; done) | (simp; omega)); have hB := (hb.block w.heap.size (by first | omega | (simp; done) | (simp; omega))).trans (by first | (with_reducible exact hbox1 _ _ _) | exact hbox1 _ _ _ | assumption); obtain ⟨w2, rfl⟩ : ∃ w2, w' = held w2 w.heap.size (syA g q) := ⟨w', (held_eq _ _ _).symm⟩)) | (go_simp; (go_at_call 17; refine (mostOf_s g q _ _ _).mono ?_; rintro e w' ⟨rfl, hb⟩; have hz := (Nat.le_trans (by first | assumption | (simp; done) | (simp; omega)) hb.size : w.heap.size + 1 ≤ w'.heap.size); have c0 := fun o => hb.cell (p := ⟨w.heap.size, o, none⟩) (by first | (simp; done) | (simp; omega)); have hB := (hb.block w.heap.size (by first | omega | (simp; done) | (simp; omega))).trans (by first | (with_reducible exact hbox1 _ _ _) | exact hbox1 _ _ _ | assumption); obtain ⟨w2, rfl⟩ : ∃ w2, w' = held w2 w.heap.size (syA g q) := ⟨w', (held_eq _ _ _).symm⟩)) | (go_simp; (go_at_call 44; refine (within_s _ _ _ _).mono ?_; rintro e w' ⟨rfl, rfl⟩)) | (go_simp; (go_at_call 34; refine (clamped_s _ _).mono ?_; rintro e w' ⟨rfl, rfl⟩)))
  all_goals go_wp2
  all_goals go_ret
  all_goals exact ⟨rfl, by (repeat (first | exact Below.refl _ _ | assumption | (refine bel_call ?_ (by assumption)) | (refine bel_alloc ?_ _) | (refine Below.drew ?_) | (refine bel_drewN ?_ _) | (refine Below.setCell ?_ (by first | exact Nat.le_refl _ | (simp; done) | (simp; omega)) _)))⟩

end Go.Proofs.Ytjmdeficahinoaa
