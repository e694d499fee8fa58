/- The contract of AutoSide. No condition. -/
import Derived.Test.YtljaagjdaolonaaSides
namespace Go.Proofs.Ytljaagjdaolonaa
open Go.RowKit
set_option linter.unusedVariables false
set_option maxHeartbeats 1600000 in
theorem autoSide_i (g : Nat → Int) (q : Nat → Bool) (side : Int) (rtl : Bool) (w : World) :
    Calls Try.prog 37 #[.agg (sdA g q), .int .i64 side, .bool rtl] w fun e w' => e = .returned (.bool (sideK g side rtl == 3)) ∧ Below w.heap.size w w' := by
  have hfd : ∀ (x y : Value) (w : World), (Instr.field 36 (.agg #[x, y]) 0).run Try.prog w = .ok x w := fun _ _ _ => by kernel_rfl
  go_enter Try.func37, Try.ntmps37
  go_wp2_with (first | (refine wpList_load_row rfl 38 _ rfl (w.heap.size) rfl 38 (sdA g q) (0, 0) _ (by first | exact hbox1 _ _ _ | exact hbox2a _ _ _ _ | exact hbox2b _ _ _ _ | exact (hb.block _ (by simp)).trans (hbox1 _ _ _) | exact (hb.block _ (by simp)).trans (hbox2a _ _ _ _) | exact (hb.block _ (by simp)).trans (hbox2b _ _ _ _)) Try.underlying38 rfl (sdA_info_v g q) ?_) | (go_at_call 34; refine (sideOf_i g q side rtl _).mono ?_; rintro e w1 ⟨rfl, hb1⟩))
  all_goals (go_ret; exact ⟨rfl, by (repeat (first | exact Below.refl _ _ | assumption | (refine bel_call ?_ (by assumption)) | (refine bel_alloc ?_ _) | (refine Below.drew ?_) | (refine bel_drewN ?_ _) | (refine Below.setCell ?_ (by first | exact Nat.le_refl _ | (simp; done) | (simp; omega)) _)))⟩)
set_option maxHeartbeats 1600000 in
theorem autoSide_s (g : Nat → Int) (q : Nat → Bool) (side : Int) (rtl : Bool) (w : World) :
    Calls Try.prog 36 #[.agg (sdA g q), .int .i64 side, .bool rtl] w fun e w' => e = .returned (.bool (sideK g side rtl == 3)) ∧ Below w.heap.size w w' := by
  have hfd : ∀ (x y : Value) (w : World), (Instr.field 36 (.agg #[x, y]) 0).run Try.prog w = .ok x w := fun _ _ _ => by kernel_rfl
  go_enter Try.func36, Try.ntmps36
  go_wp2_with (first | (refine wpList_load_row rfl 38 _ rfl (w.heap.size) rfl 38 (sdA g q) (0, 0) _ (by first | exact hbox1 _ _ _ | exact hbox2a _ _ _ _ | exact hbox2b _ _ _ _ | exact (hb.block _ (by simp)).trans (hbox1 _ _ _) | exact (hb.block _ (by simp)).trans (hbox2a _ _ _ _) | exact (hb.block _ (by simp)).trans (hbox2b _ _ _ _)) Try.underlying38 rfl (sdA_info_v g q) ?_) | (go_at_call 33; refine (sideOf_s g q side rtl _).mono ?_; rintro e w1 ⟨rfl, hb1⟩))
  all_goals (go_ret; exact ⟨rfl, by (repeat (first | exact Below.refl _ _ | assumption | (refine bel_call ?_ (by assumption)) | (refine bel_alloc ?_ _) | (refine Below.drew ?_) | (refine bel_drewN ?_ _) | (refine Below.setCell ?_ (by first | exact Nat.le_refl _ | (simp; done) | (simp; omega)) _)))⟩)

end Go.Proofs.Ytljaagjdaolonaa
