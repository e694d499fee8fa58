/- The contract of CrossBack. No condition. -/
import Derived.Test.YtcmanaklojomeaaSty
import Derived.Deep.RegionLaw
namespace Go.Proofs.Ytcmanaklojomeaa
open Go.RowKit
set_option linter.unusedVariables false
theorem exec_row1s {w : World} {n : Nat} {ev : Operand → Value} {x : Operand} {ty : TypeId} {ps : String} {dst : Option Tmp} {af : Array Edge} {gd : Option (Tmp × Bool)} {g : Nat → Int} {q : Nat → Bool} (hx : ev x = .pointer (some ⟨w.heap.size, 0, none⟩)) :
    (execOp ev { dst := dst, op := .load 40 x, type := ty, pos := ps, after := af, guard := gd }).run Try.prog { w.alloc (.cells (syA g q) 40) with drawn := n } = .ok (.value (.agg (syA g q))) { w.alloc (.cells (syA g q) 40) with drawn := n } :=
  exec_row (hbox1 _ _ _) hx
attribute [local go_sem ↓] exec_row1 exec_row1d exec_row1s
set_option maxRecDepth 100000 in
set_option maxHeartbeats 4000000 in
theorem crossBack_i (g : Nat → Int) (q : Nat → Bool) (rtl : Bool) (w : World) :
    Calls Try.prog 36 #[.agg (syA g q), .bool rtl] w fun e w' => e = .returned (.bool (crossBackB (g 0) (g 1) rtl)) ∧ Below w.heap.size w w' := by
  have h1 := syA_int g q 1 rfl
  cases rtl
  · go_enter Try.func36, Try.ntmps36
    go_wp2_with fail
    go_quiet (fail)
    go_wp2
    go_ret
    exact ⟨ret_bool (by unfold crossBackB; simp_all), by (repeat (first | exact Below.refl _ _ | assumption | (refine bel_call ?_ (by assumption)) | (refine bel_alloc ?_ _) | (refine Below.drew ?_) | (refine bel_drewN ?_ _) | (refine Below.setCell ?_ (by first | exact Nat.le_refl _ | assumption | (simp; done) | (simp; omega)) _)))⟩
  · have hcell : ∀ W' : World, W'.heap[w.heap.size]? = some (.cells (syA g q) 40 (0, 0)) → W'.cell? ⟨w.heap.size, 1, none⟩ = some (.int .i64 (g 1)) := fun W' h => by rw [Joins.cell_of_block h]; exact h1
    go_enter Try.func36, Try.ntmps36
    go_wp2_with fail
    go_region_law ((go_simp; (go_at_call 29; refine (isRow_i g q _).mono ?_; rintro e w' ⟨rfl, hb⟩; have hz := (Nat.le_trans (by first | assumption | (simp; done) | (simp; omega)) hb.size : w.heap.size + 1 ≤ w'.heap.size); have c0 := fun o => hb.cell (p := ⟨w.heap.size, o, none⟩) (by first | (simp; done) | (simp; omega)); have f0 := fun o => hb.frozen (p := ⟨w.heap.size, o, none⟩) (by first | (simp; done) | (simp; omega)))))
    all_goals go_wp2
    all_goals (go_ret; exact ⟨ret_bool (by unfold crossBackB; generalize isRowB (g 0) = x; generalize (g 1 == 3) = y; cases x <;> cases y <;> rfl), by (repeat (first | exact Below.refl _ _ | assumption | (refine bel_call ?_ (by assumption)) | (refine bel_alloc ?_ _) | (refine Below.drew ?_) | (refine bel_drewN ?_ _) | (refine Below.setCell ?_ (by first | exact Nat.le_refl _ | assumption | (simp; done) | (simp; omega)) _)))⟩)
set_option maxRecDepth 100000 in
set_option maxHeartbeats 4000000 in
theorem crossBack_s (g : Nat → Int) (q : Nat → Bool) (rtl : Bool) (w : World) :
    Calls Try.prog 37 #[.agg (syA g q), .bool rtl] w fun e w' => e = .returned (.bool (crossBackB (g 0) (g 1) rtl)) ∧ Below w.heap.size w w' := by
  have h1 := syA_int g q 1 rfl
  cases rtl
  · go_enter Try.func37, Try.ntmps37
    go_wp2_with fail
    go_quiet (fail)
    go_wp2
    go_ret
    exact ⟨ret_bool (by unfold crossBackB; simp_all), by (repeat (first | exact Below.refl _ _ | assumption | (refine bel_call ?_ (by assumption)) | (refine bel_alloc ?_ _) | (refine Below.drew ?_) | (refine bel_drewN ?_ _) | (refine Below.setCell ?_ (by first | exact Nat.le_refl _ | assumption | (simp; done) | (simp; omega)) _)))⟩
  · have hcell : ∀ W' : World, W'.heap[w.heap.size]? = some (.cells (syA g q) 40 (0, 0)) → W'.cell? ⟨w.heap.size, 1, none⟩ = some (.int .i64 (g 1)) := fun W' h => by rw [Joins.cell_of_block h]; exact h1
    go_enter Try.func37, Try.ntmps37
    go_wp2_with fail
    go_region_law ((go_simp; (go_at_call 33; refine (isRow_s g q _).mono ?_; rintro e w' ⟨rfl, hb⟩; have hz := (Nat.le_trans (by first | assumption | (simp; done) | (simp; omega)) hb.size : w.heap.size + 1 ≤ w'.heap.size); have c0 := fun o => hb.cell (p := ⟨w.heap.size, o, none⟩) (by first | (simp; done) | (simp; omega)); have f0 := fun o => hb.frozen (p := ⟨w.heap.size, o, none⟩) (by first | (simp; done) | (simp; omega)))))
    all_goals go_wp2
    all_goals (go_ret; exact ⟨ret_bool (by unfold crossBackB; generalize isRowB (g 0) = x; generalize (g 1 == 3) = y; cases x <;> cases y <;> rfl), by (repeat (first | exact Below.refl _ _ | assumption | (refine bel_call ?_ (by assumption)) | (refine bel_alloc ?_ _) | (refine Below.drew ?_) | (refine bel_drewN ?_ _) | (refine Below.setCell ?_ (by first | exact Nat.le_refl _ | assumption | (simp; done) | (simp; omega)) _)))⟩)

end Go.Proofs.Ytcmanaklojomeaa
