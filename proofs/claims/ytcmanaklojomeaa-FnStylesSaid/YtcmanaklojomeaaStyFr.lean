/- The contract of FrameOf. No condition. -/
import Derived.Test.YtcmanaklojomeaaSty
namespace Go.Proofs.Ytcmanaklojomeaa
open Go.RowKit
set_option linter.unusedVariables false
set_option maxRecDepth 100000 in
set_option maxHeartbeats 800000 in
theorem frameOf_i (g : Nat → Int) (q : Nat → Bool) (w : World) :
    Calls Try.prog 60 #[.agg (syA g q)] w fun e w' => e = .returned (.agg #[.int .i64 (addEdges (g 50) (g 54)), .int .i64 (addEdges (g 51) (g 55)), .int .i64 (addEdges (g 52) (g 56)), .int .i64 (addEdges (g 53) (g 57))]) ∧ Below w.heap.size w w' := by
  have h50 := syA_int g q 50 rfl; have h51 := syA_int g q 51 rfl; have h52 := syA_int g q 52 rfl; have h53 := syA_int g q 53 rfl; have h54 := syA_int g q 54 rfl; have h55 := syA_int g q 55 rfl; have h56 := syA_int g q 56 rfl; have h57 := syA_int g q 57 rfl
  go_enter Try.func60, Try.ntmps60
  go_wp2_with ((go_at_call 56; refine (edgesIn_i _ _ _ _ _ _ _ _ _).mono ?_; rintro e w' ⟨rfl, hb⟩; have hz := (Nat.le_trans (by first | assumption | (simp; done) | (simp; omega)) hb.size : w.heap.size + 2 ≤ w'.heap.size); have c0 := fun o => hb.cell (p := ⟨w.heap.size, o, none⟩) (by first | (simp; done) | (simp; omega)); have f0 := fun o => hb.frozen (p := ⟨w.heap.size, o, none⟩) (by first | (simp; done) | (simp; omega)); have c1 := fun o => hb.cell (p := ⟨w.heap.size + 1, o, none⟩) (by first | (simp; done) | (simp; omega)); have f1 := fun o => hb.frozen (p := ⟨w.heap.size + 1, o, none⟩) (by first | (simp; done) | (simp; omega))))
  go_outline
  refine bodyPost_ret (v := .agg #[.int .i64 (addEdges (g 50) (g 54)), .int .i64 (addEdges (g 51) (g 55)), .int .i64 (addEdges (g 52) (g 56)), .int .i64 (addEdges (g 53) (g 57))]) (by simp [results, Try.results60, go_sem, *]) rfl ⟨rfl, ?_⟩
  (repeat (first | exact Below.refl _ _ | assumption | (refine bel_call ?_ (by assumption)) | (refine bel_alloc ?_ _) | (refine Below.drew ?_) | (refine bel_drewN ?_ _) | (refine Below.setCell ?_ (by first | exact Nat.le_refl _ | assumption | (simp; done) | (simp; omega)) _)))
set_option maxRecDepth 100000 in
set_option maxHeartbeats 800000 in
theorem frameOf_s (g : Nat → Int) (q : Nat → Bool) (w : World) :
    Calls Try.prog 66 #[.agg (syA g q)] w fun e w' => e = .returned (.agg #[.int .i64 (addEdges (g 50) (g 54)), .int .i64 (addEdges (g 51) (g 55)), .int .i64 (addEdges (g 52) (g 56)), .int .i64 (addEdges (g 53) (g 57))]) ∧ Below w.heap.size w w' := by
  have h50 := syA_int g q 50 rfl; have h51 := syA_int g q 51 rfl; have h52 := syA_int g q 52 rfl; have h53 := syA_int g q 53 rfl; have h54 := syA_int g q 54 rfl; have h55 := syA_int g q 55 rfl; have h56 := syA_int g q 56 rfl; have h57 := syA_int g q 57 rfl
  go_enter Try.func66, Try.ntmps66
  go_wp2_with ((go_at_call 57; refine (edgesIn_s _ _ _ _ _ _ _ _ _).mono ?_; rintro e w' ⟨rfl, hb⟩; have hz := (Nat.le_trans (by first | assumption | (simp; done) | (simp; omega)) hb.size : w.heap.size + 2 ≤ w'.heap.size); have c0 := fun o => hb.cell (p := ⟨w.heap.size, o, none⟩) (by first | (simp; done) | (simp; omega)); have f0 := fun o => hb.frozen (p := ⟨w.heap.size, o, none⟩) (by first | (simp; done) | (simp; omega)); have c1 := fun o => hb.cell (p := ⟨w.heap.size + 1, o, none⟩) (by first | (simp; done) | (simp; omega)); have f1 := fun o => hb.frozen (p := ⟨w.heap.size + 1, o, none⟩) (by first | (simp; done) | (simp; omega))))
  go_outline
  refine bodyPost_ret (v := .agg #[.int .i64 (addEdges (g 50) (g 54)), .int .i64 (addEdges (g 51) (g 55)), .int .i64 (addEdges (g 52) (g 56)), .int .i64 (addEdges (g 53) (g 57))]) (by simp [results, Try.results66, go_sem, *]) rfl ⟨rfl, ?_⟩
  (repeat (first | exact Below.refl _ _ | assumption | (refine bel_call ?_ (by assumption)) | (refine bel_alloc ?_ _) | (refine Below.drew ?_) | (refine bel_drewN ?_ _) | (refine Below.setCell ?_ (by first | exact Nat.le_refl _ | assumption | (simp; done) | (simp; omega)) _)))

end Go.Proofs.Ytcmanaklojomeaa
