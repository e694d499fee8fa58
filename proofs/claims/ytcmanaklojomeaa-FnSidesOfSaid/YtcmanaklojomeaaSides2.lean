/- The contract of AutoSide. No condition. -/
import Derived.Test.YtcmanaklojomeaaSides
namespace Go.Proofs.Ytcmanaklojomeaa
open Go.RowKit
set_option linter.unusedVariables false
set_option maxHeartbeats 1600000 in
theorem autoSide_i (g : Nat → Int) (q : Nat → Bool) (side : Int) (rtl : Bool) (w : World) :
    Calls Try.prog 43 #[.agg (sdA g q), .int .i64 side, .bool rtl] w fun e w' => e = .returned (.bool (sideK g side rtl == 3)) ∧ Below w.heap.size w w' := by
  have hfd : ∀ (x y : Value) (w : World), (Instr.field 34 (.agg #[x, y]) 0).run Try.prog w = .ok x w := fun _ _ _ => by kernel_rfl
  go_enter Try.func43, Try.ntmps43
  go_wp2_with (first | (refine wpList_load_row rfl 36 _ rfl (w.heap.size) rfl 36 (sdA g q) (0, 0) _ (by first | (with_reducible exact hbox1 _ _ _) | (with_reducible exact hbox2a _ _ _ _) | (with_reducible exact hbox2b _ _ _ _) | (refine (hb.block _ ?_).trans ?_ <;> first | (simp; done) | (with_reducible exact hbox1 _ _ _) | (with_reducible exact hbox2a _ _ _ _) | (with_reducible exact hbox2b _ _ _ _)) | (refine (Below.heap_alloc _ _ _ (by have hs := hb.size; simp at hs; omega)).trans ((hb.block _ ?_).trans ?_) <;> first | (simp; done) | (with_reducible exact hbox1 _ _ _))) Try.underlying36 rfl (sdA_info_v g q) ?_) | (go_at_call 41; refine (sideOf_i g q side rtl _).mono ?_; rintro e w1 ⟨rfl, hb1⟩))
  all_goals (go_ret; exact ⟨rfl, by (repeat (first | exact Below.refl _ _ | assumption | (refine bel_call ?_ (by assumption)) | (refine bel_alloc ?_ _) | (refine Below.drew ?_) | (refine bel_drewN ?_ _) | (refine Below.setCell ?_ (by first | exact Nat.le_refl _ | assumption | (simp; done) | (simp; omega)) _)))⟩)

end Go.Proofs.Ytcmanaklojomeaa
