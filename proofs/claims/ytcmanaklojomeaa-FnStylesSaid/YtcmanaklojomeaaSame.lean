/- The contract of SameStyle. No condition. -/
import Derived.Test.YtcmanaklojomeaaEq
namespace Go.Proofs.Ytcmanaklojomeaa
open Go.RowKit
set_option linter.unusedVariables false
/-- '==' on two whole styles, as one operation. -/
theorem wpList_eqStyle {ops : Array Oper} {rest : List Oper} {o : Oper} {a : Act} {w : World} {Q : Exit → Act → World → Prop} (hgd : o.guard = none) (x y : Operand) (u : TypeId) (ho : o.op = .binOp .eql 40 x y u)
    (g : Nat → Int) (q : Nat → Bool) (k : Nat → Int) (r : Nat → Bool) (hx : a.eval x = .agg (syA g q)) (hy : a.eval y = .agg (syA k r))
    (h : wpList Try.prog ops Q rest (a.put o.dst (.bool (sameB g q k r))) w) : wpList Try.prog ops Q (o :: rest) a w :=
  wpList_plain hgd fun _ hK => by
    have hm : Try.prog.eqGuardType Try.prog.depth 40 = false := by kernel_rfl
    unfold Oper.wp execOp
    simp only [ho, hx, hy, Sem.run_bind, run_eqGuard_agg _ _ _ _ _ _ _ hm, run_eql_struct, eq_style, Result.andThen_ok, Sem.run_pure]
    exact hK _ _ h
set_option maxRecDepth 100000 in
set_option maxHeartbeats 800000 in
theorem sameStyle_i (g : Nat → Int) (q : Nat → Bool) (k : Nat → Int) (r : Nat → Bool) (w : World) :
    Calls Try.prog 70 #[.agg (syA g q), .agg (syA k r)] w fun e w' => e = .returned (.bool (sameB g q k r)) ∧ Below w.heap.size w w' := by
  go_enter Try.func70, Try.ntmps70
  go_wp2_with (first | (refine wpList_load_row rfl 40 _ rfl (w.heap.size) rfl 40 (syA g q) (0, 0) _ (by first | (with_reducible exact hbox1 _ _ _) | (with_reducible exact hbox2a _ _ _ _) | (with_reducible exact hbox2b _ _ _ _) | (refine (hb.block _ ?_).trans ?_ <;> first | (simp; done) | (with_reducible exact hbox1 _ _ _) | (with_reducible exact hbox2a _ _ _ _) | (with_reducible exact hbox2b _ _ _ _)) | (refine (Below.heap_alloc _ _ _ (by have hs := hb.size; simp at hs; omega)).trans ((hb.block _ ?_).trans ?_) <;> first | (simp; done) | (with_reducible exact hbox1 _ _ _))) Try.underlying40 rfl (syA_info_v g q) ?_) | (refine wpList_load_row rfl 40 _ rfl (w.heap.size + 1) rfl 40 (syA k r) (0, 0) _ (by first | (with_reducible exact hbox1 _ _ _) | (with_reducible exact hbox2a _ _ _ _) | (with_reducible exact hbox2b _ _ _ _) | (refine (hb.block _ ?_).trans ?_ <;> first | (simp; done) | (with_reducible exact hbox1 _ _ _) | (with_reducible exact hbox2a _ _ _ _) | (with_reducible exact hbox2b _ _ _ _)) | (refine (Below.heap_alloc _ _ _ (by have hs := hb.size; simp at hs; omega)).trans ((hb.block _ ?_).trans ?_) <;> first | (simp; done) | (with_reducible exact hbox1 _ _ _))) Try.underlying40 rfl (syA_info_v k r) ?_) | (refine wpList_eqStyle rfl _ _ _ rfl g q k r rfl rfl ?_))
  go_ret
  exact ⟨rfl, by (repeat (first | exact Below.refl _ _ | assumption | (refine bel_call ?_ (by assumption)) | (refine bel_alloc ?_ _) | (refine Below.drew ?_) | (refine bel_drewN ?_ _) | (refine Below.setCell ?_ (by first | exact Nat.le_refl _ | assumption | (simp; done) | (simp; omega)) _)))⟩
end Go.Proofs.Ytcmanaklojomeaa
