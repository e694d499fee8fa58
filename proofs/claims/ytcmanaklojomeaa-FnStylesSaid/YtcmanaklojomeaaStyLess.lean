/- The contract of StyleLess. No condition. -/
import Derived.Test.YtcmanaklojomeaaStyNew
import Derived.Test.YtcmanaklojomeaaCore2
namespace Go.Proofs.Ytcmanaklojomeaa
open Go.RowKit
set_option linter.unusedVariables false
set_option maxRecDepth 20000 in
theorem less_cells (g : Nat → Int) (q : Nat → Bool) : (((((((((((((((((((((((((((syA g q).setIfInBounds 6 (.bool false)).setIfInBounds 7 (.bool false)).setIfInBounds 26 (.int .i64 0)).setIfInBounds 27 (.int .i64 0)).setIfInBounds 28 (.int .i64 0)).setIfInBounds 29 (.int .i64 0)).setIfInBounds 30 (.int .i64 0)).setIfInBounds 31 (.int .i64 0)).setIfInBounds 32 (.int .i64 0)).setIfInBounds 33 (.int .i64 0)).setIfInBounds 34 (.int .i64 0)).setIfInBounds 35 (.int .i64 0)).setIfInBounds 36 (.int .i64 0)).setIfInBounds 37 (.int .i64 0)).setIfInBounds 38 (.int .i64 0)).setIfInBounds 39 (.int .i64 0)).setIfInBounds 40 (.int .i64 0)).setIfInBounds 41 (.int .i64 0)).setIfInBounds 42 (.int .i64 0)).setIfInBounds 43 (.int .i64 0)).setIfInBounds 44 (.int .i64 0)).setIfInBounds 45 (.int .i64 0)).setIfInBounds 46 (.int .i64 0)).setIfInBounds 47 (.int .i64 0)).setIfInBounds 48 (.int .i64 0)).setIfInBounds 49 (.int .i64 0)) = syA (lessG g) newQ := by kernel_rfl
set_option maxRecDepth 100000 in
set_option maxHeartbeats 1600000 in
theorem styleLess_i (g : Nat → Int) (q : Nat → Bool) (w : World) :
    Calls Try.prog 61 #[.agg (syA g q)] w fun e w' => e = .returned (.agg (syA (lessG g) newQ)) ∧ Below w.heap.size w w' := by
  have h6 := syA_bool g q 6 rfl; have h7 := syA_bool g q 7 rfl; have h26 := syA_int g q 26 rfl; have h27 := syA_int g q 27 rfl; have h28 := syA_int g q 28 rfl; have h29 := syA_int g q 29 rfl; have h30 := syA_int g q 30 rfl; have h31 := syA_int g q 31 rfl; have h32 := syA_int g q 32 rfl; have h33 := syA_int g q 33 rfl; have h34 := syA_int g q 34 rfl; have h35 := syA_int g q 35 rfl; have h36 := syA_int g q 36 rfl; have h37 := syA_int g q 37 rfl; have h38 := syA_int g q 38 rfl; have h39 := syA_int g q 39 rfl; have h40 := syA_int g q 40 rfl; have h41 := syA_int g q 41 rfl; have h42 := syA_int g q 42 rfl; have h43 := syA_int g q 43 rfl; have h44 := syA_int g q 44 rfl; have h45 := syA_int g q 45 rfl; have h46 := syA_int g q 46 rfl; have h47 := syA_int g q 47 rfl; have h48 := syA_int g q 48 rfl; have h49 := syA_int g q 49 rfl
  go_enter Try.func61, Try.ntmps61
  go_upto_region 2 with (fail)
  go_wp2_with (first | (refine wpList_load_row rfl 40 _ rfl (w.heap.size) rfl 40 (syA (lessG g) newQ) (0, 0) _ (by rw [← less_cells]; exact hbox2a _ _ _ _) Try.underlying40 rfl (syA_info_v _ _) ?_) | (refine wpList_store_mid rfl 40 _ _ rfl (w.heap.size + 1) 0 (syA (lessG g) newQ) rfl rfl (there_new2 _ _ _ (by rw [syA_size]; rfl)) (syA_info_v _ _) (syA_one _ _) ?_))
  refine bodyPost_ret (v := .agg (syA (lessG g) newQ)) (style_result Try.results61 (lessG g) newQ _ rfl (there_new2 _ _ _ (by rw [syA_size]; rfl))) rfl ⟨rfl, ?_⟩
  exact below_setCells' _ (by omega) _ _ (by (repeat (first | exact Below.refl _ _ | assumption | (refine bel_call ?_ (by assumption)) | (refine bel_alloc ?_ _) | (refine Below.drew ?_) | (refine bel_drewN ?_ _) | (refine Below.setCell ?_ (by first | exact Nat.le_refl _ | assumption | (simp; done) | (simp; omega)) _))))
set_option maxRecDepth 100000 in
set_option maxHeartbeats 1600000 in
theorem styleLess_s (g : Nat → Int) (q : Nat → Bool) (w : World) :
    Calls Try.prog 67 #[.agg (syA g q)] w fun e w' => e = .returned (.agg (syA (lessG g) newQ)) ∧ Below w.heap.size w w' := by
  have h6 := syA_bool g q 6 rfl; have h7 := syA_bool g q 7 rfl; have h26 := syA_int g q 26 rfl; have h27 := syA_int g q 27 rfl; have h28 := syA_int g q 28 rfl; have h29 := syA_int g q 29 rfl; have h30 := syA_int g q 30 rfl; have h31 := syA_int g q 31 rfl; have h32 := syA_int g q 32 rfl; have h33 := syA_int g q 33 rfl; have h34 := syA_int g q 34 rfl; have h35 := syA_int g q 35 rfl; have h36 := syA_int g q 36 rfl; have h37 := syA_int g q 37 rfl; have h38 := syA_int g q 38 rfl; have h39 := syA_int g q 39 rfl; have h40 := syA_int g q 40 rfl; have h41 := syA_int g q 41 rfl; have h42 := syA_int g q 42 rfl; have h43 := syA_int g q 43 rfl; have h44 := syA_int g q 44 rfl; have h45 := syA_int g q 45 rfl; have h46 := syA_int g q 46 rfl; have h47 := syA_int g q 47 rfl; have h48 := syA_int g q 48 rfl; have h49 := syA_int g q 49 rfl
  go_enter Try.func67, Try.ntmps67
  go_upto_region 5 with (fail)
  go_wp2_with (first | (refine wpList_load_row rfl 40 _ rfl (w.heap.size) rfl 40 (syA (lessG g) newQ) (0, 0) _ (by rw [← less_cells]; exact hbox2a _ _ _ _) Try.underlying40 rfl (syA_info_v _ _) ?_) | (refine wpList_store_mid rfl 40 _ _ rfl (w.heap.size + 1) 0 (syA (lessG g) newQ) rfl rfl (there_new2 _ _ _ (by rw [syA_size]; rfl)) (syA_info_v _ _) (syA_one _ _) ?_))
  refine bodyPost_ret (v := .agg (syA (lessG g) newQ)) (style_result Try.results67 (lessG g) newQ _ rfl (there_new2 _ _ _ (by rw [syA_size]; rfl))) rfl ⟨rfl, ?_⟩
  exact below_setCells' _ (by omega) _ _ (by (repeat (first | exact Below.refl _ _ | assumption | (refine bel_call ?_ (by assumption)) | (refine bel_alloc ?_ _) | (refine Below.drew ?_) | (refine bel_drewN ?_ _) | (refine Below.setCell ?_ (by first | exact Nat.le_refl _ | assumption | (simp; done) | (simp; omega)) _))))
end Go.Proofs.Ytcmanaklojomeaa
