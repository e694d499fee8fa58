/- Contracts of the functions over values, edges and sides. No condition. -/
import Derived.Test.YtcmanaklojomeaaCore
import Derived.StillTailTactics
import Derived.IntWalk
namespace Go.Proofs.Ytcmanaklojomeaa
open Go.RowKit
set_option linter.unusedVariables false

set_option maxHeartbeats 400000 in
theorem part_i (n k all : Int) (w : World) :
    Calls Try.prog 18 #[.int .i64 n, .int .i64 k, .int .i64 all] w fun e w' => e = .returned (.int .i64 (part n k all)) ∧ w = w' := by
  have h1 := (part_in n k).1
  have h2 := (part_in n k).2
  go_enter Try.func18, Try.ntmps18
  go_wp2_with (first | (go_at_call 74; refine (signed_i _ _).mono ?_; rintro e w' ⟨rfl, rfl⟩) | (go_at_call 76; refine (brought_i _ _ _ _).mono ?_; rintro e w' ⟨rfl, rfl⟩) | (go_at_call 10; refine (floorDiv_i _ _ (part_in _ _) (brought_in _) _).mono ?_; rintro e w' ⟨rfl, rfl⟩))
  go_ret
  exact ⟨rfl, rfl⟩
set_option maxHeartbeats 400000 in
theorem l04N_s (n : Int) (w : World) :
    Calls Try.prog 104 #[.int .i64 n] w fun e w' => e = .returned (.int .i64 (brought n (-1000000) 1000000)) ∧ w = w' := by
  go_enter Try.func104, Try.ntmps104
  go_wp2_with ((go_at_call 78; refine (brought_s _ _ _ _).mono ?_; rintro e w' ⟨rfl, rfl⟩))
  go_ret
  exact ⟨rfl, rfl⟩
set_option maxHeartbeats 400000 in
theorem lengthOf_i (k n base : Int) (w : World) :
    Calls Try.prog 90 #[.agg #[.int .i64 k, .int .i64 n], .int .i64 base] w fun e w' => e = .returned (.int .i64 (lengthOf k n base)) ∧ Below w.heap.size w w' := by
  have h1 := (length_bd n base).2.1
  have h2 := (length_bd n base).2.2
  go_enter Try.func90, Try.ntmps90
  go_wp2_with (first | (go_at_call 89; refine (known_i _ _ _ _).mono ?_; rintro e w' ⟨rfl, hb⟩; have hz := (Nat.le_trans (by first | assumption | (simp; done) | (simp; omega)) hb.size : w.heap.size + 1 ≤ w'.heap.size); have c0 := fun o => hb.cell (p := ⟨w.heap.size, o, none⟩) (by first | (simp; done) | (simp; omega)); have f0 := fun o => hb.frozen (p := ⟨w.heap.size, o, none⟩) (by first | (simp; done) | (simp; omega))) | (go_at_call 17; refine (clamped_i _ _).mono ?_; rintro e w' ⟨rfl, rfl⟩) | (go_at_call 76; refine (brought_i _ _ _ _).mono ?_; rintro e w' ⟨rfl, rfl⟩) | (go_at_call 10; refine (floorDiv_i _ _ ⟨by omega, by omega⟩ ⟨by omega, by omega⟩ _).mono ?_; rintro e w' ⟨rfl, rfl⟩) | (go_at_call 104; refine (l04N_s _ _).mono ?_; rintro e w' ⟨rfl, rfl⟩))
  any_goals (go_quiet ((first | (go_at_call 17; exact quiet_same (clamped_i _ _)) | (go_at_call 76; exact quiet_same (brought_i _ _ _ _)) | (go_at_call 10; exact quiet_same (floorDiv_i _ _ ⟨by omega, by omega⟩ ⟨by omega, by omega⟩ _)) | (go_at_call 104; exact quiet_same (l04N_s _ _)))); go_wp2)
  all_goals (go_ret; exact ⟨ret_int (by unfold lengthOf; simp_all), by (repeat (first | exact Below.refl _ _ | assumption | (refine bel_call ?_ (by assumption)) | (refine bel_alloc ?_ _) | (refine Below.drew ?_) | (refine bel_drewN ?_ _) | (refine Below.setCell ?_ (by first | exact Nat.le_refl _ | assumption | (simp; done) | (simp; omega)) _)))⟩)
set_option maxHeartbeats 400000 in
theorem lengthOf_s (k n base : Int) (w : World) :
    Calls Try.prog 92 #[.agg #[.int .i64 k, .int .i64 n], .int .i64 base] w fun e w' => e = .returned (.int .i64 (lengthOf k n base)) ∧ Below w.heap.size w w' := by
  have h1 := (length_bd n base).2.1
  have h2 := (length_bd n base).2.2
  go_enter Try.func92, Try.ntmps92
  go_wp2_with (first | (go_at_call 91; refine (known_s _ _ _ _).mono ?_; rintro e w' ⟨rfl, hb⟩; have hz := (Nat.le_trans (by first | assumption | (simp; done) | (simp; omega)) hb.size : w.heap.size + 1 ≤ w'.heap.size); have c0 := fun o => hb.cell (p := ⟨w.heap.size, o, none⟩) (by first | (simp; done) | (simp; omega)); have f0 := fun o => hb.frozen (p := ⟨w.heap.size, o, none⟩) (by first | (simp; done) | (simp; omega))) | (go_at_call 24; refine (clamped_s _ _).mono ?_; rintro e w' ⟨rfl, rfl⟩) | (go_at_call 78; refine (brought_s _ _ _ _).mono ?_; rintro e w' ⟨rfl, rfl⟩) | (go_at_call 23; refine (floorDiv_s _ _ ⟨by omega, by omega⟩ ⟨by omega, by omega⟩ _).mono ?_; rintro e w' ⟨rfl, rfl⟩) | (go_at_call 104; refine (l04N_s _ _).mono ?_; rintro e w' ⟨rfl, rfl⟩))
  any_goals (go_quiet ((first | (go_at_call 24; exact quiet_same (clamped_s _ _)) | (go_at_call 78; exact quiet_same (brought_s _ _ _ _)) | (go_at_call 23; exact quiet_same (floorDiv_s _ _ ⟨by omega, by omega⟩ ⟨by omega, by omega⟩ _)) | (go_at_call 104; exact quiet_same (l04N_s _ _)))); go_wp2)
  all_goals (go_ret; exact ⟨ret_int (by unfold lengthOf; simp_all), by (repeat (first | exact Below.refl _ _ | assumption | (refine bel_call ?_ (by assumption)) | (refine bel_alloc ?_ _) | (refine Below.drew ?_) | (refine bel_drewN ?_ _) | (refine Below.setCell ?_ (by first | exact Nat.le_refl _ | assumption | (simp; done) | (simp; omega)) _)))⟩)
set_option maxHeartbeats 400000 in
theorem addEdges_i (a b : Int) (w : World) :
    Calls Try.prog 93 #[.int .i64 a, .int .i64 b] w fun e w' => e = .returned (.int .i64 (addEdges a b)) ∧ w = w' := by
  have h1 := (clamped_le a).1
  have h2 := (clamped_le a).2
  have h3 := (clamped_le b).1
  have h4 := (clamped_le b).2
  go_enter Try.func93, Try.ntmps93
  go_wp2_with ((go_at_call 17; refine (clamped_i _ _).mono ?_; rintro e w' ⟨rfl, rfl⟩))
  go_ret
  exact ⟨rfl, rfl⟩
set_option maxHeartbeats 400000 in
theorem wideOf_i (a b c d : Int) (w : World) :
    Calls Try.prog 50 #[.agg #[.int .i64 a, .int .i64 b, .int .i64 c, .int .i64 d]] w fun e w' => e = .returned (.int .i64 (addEdges a c)) ∧ Below w.heap.size w w' := by
  go_enter Try.func50, Try.ntmps50
  go_wp2_with ((go_at_call 93; refine (addEdges_i _ _ _).mono ?_; rintro e w' ⟨rfl, rfl⟩))
  go_ret
  exact ⟨rfl, by (repeat (first | exact Below.refl _ _ | assumption | (refine bel_call ?_ (by assumption)) | (refine bel_alloc ?_ _) | (refine Below.drew ?_) | (refine bel_drewN ?_ _) | (refine Below.setCell ?_ (by first | exact Nat.le_refl _ | assumption | (simp; done) | (simp; omega)) _)))⟩
set_option maxHeartbeats 400000 in
theorem highOf_i (a b c d : Int) (w : World) :
    Calls Try.prog 52 #[.agg #[.int .i64 a, .int .i64 b, .int .i64 c, .int .i64 d]] w fun e w' => e = .returned (.int .i64 (addEdges b d)) ∧ Below w.heap.size w w' := by
  go_enter Try.func52, Try.ntmps52
  go_wp2_with ((go_at_call 93; refine (addEdges_i _ _ _).mono ?_; rintro e w' ⟨rfl, rfl⟩))
  go_ret
  exact ⟨rfl, by (repeat (first | exact Below.refl _ _ | assumption | (refine bel_call ?_ (by assumption)) | (refine bel_alloc ?_ _) | (refine Below.drew ?_) | (refine bel_drewN ?_ _) | (refine Below.setCell ?_ (by first | exact Nat.le_refl _ | assumption | (simp; done) | (simp; omega)) _)))⟩
set_option maxHeartbeats 400000 in
theorem wideOf_s (a b c d : Int) (w : World) :
    Calls Try.prog 51 #[.agg #[.int .i64 a, .int .i64 b, .int .i64 c, .int .i64 d]] w fun e w' => e = .returned (.int .i64 (addEdges a c)) ∧ Below w.heap.size w w' := by
  have e1 : IntKind.i64.wrap (clamped a + clamped c) = clamped a + clamped c := by
    have h1 := clamped_le a
    have h3 := clamped_le c
    exact IntWalk.i64_in _ (by omega)
  go_enter Try.func51, Try.ntmps51
  go_wp2_with ((go_at_call 24; refine (clamped_s _ _).mono ?_; rintro e w' ⟨rfl, rfl⟩))
  any_goals (go_quiet ((go_at_call 24; exact quiet_same (clamped_s _ _))); go_wp2)
  go_ret
  exact ⟨rfl, by (repeat (first | exact Below.refl _ _ | assumption | (refine bel_call ?_ (by assumption)) | (refine bel_alloc ?_ _) | (refine Below.drew ?_) | (refine bel_drewN ?_ _) | (refine Below.setCell ?_ (by first | exact Nat.le_refl _ | assumption | (simp; done) | (simp; omega)) _)))⟩
set_option maxHeartbeats 400000 in
theorem highOf_s (a b c d : Int) (w : World) :
    Calls Try.prog 53 #[.agg #[.int .i64 a, .int .i64 b, .int .i64 c, .int .i64 d]] w fun e w' => e = .returned (.int .i64 (addEdges b d)) ∧ Below w.heap.size w w' := by
  have e1 : IntKind.i64.wrap (clamped b + clamped d) = clamped b + clamped d := by
    have h1 := clamped_le b
    have h3 := clamped_le d
    exact IntWalk.i64_in _ (by omega)
  go_enter Try.func53, Try.ntmps53
  go_wp2_with ((go_at_call 24; refine (clamped_s _ _).mono ?_; rintro e w' ⟨rfl, rfl⟩))
  any_goals (go_quiet ((go_at_call 24; exact quiet_same (clamped_s _ _))); go_wp2)
  go_ret
  exact ⟨rfl, by (repeat (first | exact Below.refl _ _ | assumption | (refine bel_call ?_ (by assumption)) | (refine bel_alloc ?_ _) | (refine Below.drew ?_) | (refine bel_drewN ?_ _) | (refine Below.setCell ?_ (by first | exact Nat.le_refl _ | assumption | (simp; done) | (simp; omega)) _)))⟩
set_option maxHeartbeats 800000 in
theorem edgesIn_i (a b c d a' b' c' d' : Int) (w : World) :
    Calls Try.prog 56 #[.agg #[.int .i64 a, .int .i64 b, .int .i64 c, .int .i64 d], .agg #[.int .i64 a', .int .i64 b', .int .i64 c', .int .i64 d']] w fun e w' => e = .returned (.agg #[.int .i64 (addEdges a a'), .int .i64 (addEdges b b'), .int .i64 (addEdges c c'), .int .i64 (addEdges d d')]) ∧ Below w.heap.size w w' := by
  go_enter Try.func56, Try.ntmps56
  go_wp2_with fail
  go_region_held3 (fun w' => w'.cell? ⟨w.heap.size, 0, none⟩ = some (.int .i64 a) ∧ w'.cell? ⟨w.heap.size, 1, none⟩ = some (.int .i64 b) ∧ w'.cell? ⟨w.heap.size, 2, none⟩ = some (.int .i64 c) ∧ w'.cell? ⟨w.heap.size, 3, none⟩ = some (.int .i64 d) ∧ w'.cell? ⟨w.heap.size + 1, 0, none⟩ = some (.int .i64 a') ∧ w'.cell? ⟨w.heap.size + 1, 1, none⟩ = some (.int .i64 b') ∧ w'.cell? ⟨w.heap.size + 1, 2, none⟩ = some (.int .i64 c') ∧ w'.cell? ⟨w.heap.size + 1, 3, none⟩ = some (.int .i64 d')) ((first | (simp [go_sem]; done) | (simp [*]; done) | (simp [go_sem, *]; done))) (first | (go_at_call 93; refine (addEdges_i _ _ _).mono ?_; rintro e w' ⟨rfl, rfl⟩))
  go_wp2
  refine bodyPost_ret (v := .agg #[.int .i64 (addEdges a a'), .int .i64 (addEdges b b'), .int .i64 (addEdges c c'), .int .i64 (addEdges d d')]) (by simp [results, Try.results56, go_sem]) rfl ⟨rfl, ?_⟩
  (repeat (first | exact Below.refl _ _ | assumption | (refine bel_call ?_ (by assumption)) | (refine bel_alloc ?_ _) | (refine Below.drew ?_) | (refine bel_drewN ?_ _) | (refine Below.setCell ?_ (by first | exact Nat.le_refl _ | assumption | (simp; done) | (simp; omega)) _)))
set_option maxHeartbeats 800000 in
theorem edgesIn_s (a b c d a' b' c' d' : Int) (w : World) :
    Calls Try.prog 57 #[.agg #[.int .i64 a, .int .i64 b, .int .i64 c, .int .i64 d], .agg #[.int .i64 a', .int .i64 b', .int .i64 c', .int .i64 d']] w fun e w' => e = .returned (.agg #[.int .i64 (addEdges a a'), .int .i64 (addEdges b b'), .int .i64 (addEdges c c'), .int .i64 (addEdges d d')]) ∧ Below w.heap.size w w' := by
  have ka := clamped_wrap a a'
  have kb := clamped_wrap b b'
  have kc := clamped_wrap c c'
  have kd := clamped_wrap d d'
  go_enter Try.func57, Try.ntmps57
  go_wp2_with fail
  go_region_held3 (fun w' => w'.cell? ⟨w.heap.size, 0, none⟩ = some (.int .i64 a) ∧ w'.cell? ⟨w.heap.size, 1, none⟩ = some (.int .i64 b) ∧ w'.cell? ⟨w.heap.size, 2, none⟩ = some (.int .i64 c) ∧ w'.cell? ⟨w.heap.size, 3, none⟩ = some (.int .i64 d) ∧ w'.cell? ⟨w.heap.size + 1, 0, none⟩ = some (.int .i64 a') ∧ w'.cell? ⟨w.heap.size + 1, 1, none⟩ = some (.int .i64 b') ∧ w'.cell? ⟨w.heap.size + 1, 2, none⟩ = some (.int .i64 c') ∧ w'.cell? ⟨w.heap.size + 1, 3, none⟩ = some (.int .i64 d')) ((first | (simp [go_sem]; done) | (simp [*]; done) | (simp [go_sem, *]; done))) (first | (go_at_call 24; refine (clamped_s _ _).mono ?_; rintro e w' ⟨rfl, rfl⟩))
  go_wp2
  refine bodyPost_ret (v := .agg #[.int .i64 (clamped (clamped a + clamped a')), .int .i64 (clamped (clamped b + clamped b')), .int .i64 (clamped (clamped c + clamped c')), .int .i64 (clamped (clamped d + clamped d'))]) (by simp [results, Try.results57, go_sem]) rfl ⟨rfl, ?_⟩
  (repeat (first | exact Below.refl _ _ | assumption | (refine bel_call ?_ (by assumption)) | (refine bel_alloc ?_ _) | (refine Below.drew ?_) | (refine bel_drewN ?_ _) | (refine Below.setCell ?_ (by first | exact Nat.le_refl _ | assumption | (simp; done) | (simp; omega)) _)))

end Go.Proofs.Ytcmanaklojomeaa
