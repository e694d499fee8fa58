/- Contracts of the functions over sides. No condition. -/
import Derived.Test.YtcmanaklojomeaaCore2
import Derived.Test.YtcmanaklojomeaaConv
namespace Go.Proofs.Ytcmanaklojomeaa
open Go.RowKit
set_option linter.unusedVariables false
set_option maxHeartbeats 1600000 in
theorem sidesOk_i (g : Nat → Int) (q : Nat → Bool) (w : World) :
    Calls Try.prog 44 #[.agg (sdA g q)] w fun e w' => e = .returned (.bool (sidesOkB g)) ∧ Below w.heap.size w w' := by
  have h0 := sdA_int g q 0 rfl; have h1 := sdA_int g q 1 rfl; have h2 := sdA_int g q 2 rfl; have h3 := sdA_int g q 3 rfl; have h4 := sdA_int g q 4 rfl; have h5 := sdA_int g q 5 rfl; have h6 := sdA_int g q 6 rfl; have h7 := sdA_int g q 7 rfl; have h8 := sdA_int g q 8 rfl; have h9 := sdA_int g q 9 rfl; have h10 := sdA_int g q 10 rfl; have h11 := sdA_int g q 11 rfl
  go_enter Try.func44, Try.ntmps44
  go_wp2_with ((go_at_call 85; refine (valueOk_i _ _ _).mono ?_; rintro e w' ⟨rfl, hb⟩; replace hb := bel_call (w := w.alloc (.cells (sdA g q) 36)) (by first | exact Below.refl _ _ | assumption) hb; obtain ⟨hc, hf⟩ := bcell hb))
  all_goals (go_ret; exact ⟨ret_bool (by unfold sidesOkB; simp [*]), by (repeat (first | exact Below.refl _ _ | assumption | (refine bel_call ?_ (by assumption)) | (refine bel_alloc ?_ _) | (refine Below.drew ?_) | (refine bel_drewN ?_ _) | (refine Below.setCell ?_ (by first | exact Nat.le_refl _ | assumption | (simp; done) | (simp; omega)) _)))⟩)
set_option maxHeartbeats 1600000 in
theorem sidesOk_s (g : Nat → Int) (q : Nat → Bool) (w : World) :
    Calls Try.prog 45 #[.agg (sdA g q)] w fun e w' => e = .returned (.bool (sidesOkB g)) ∧ Below w.heap.size w w' := by
  have h0 := sdA_int g q 0 rfl; have h1 := sdA_int g q 1 rfl; have h2 := sdA_int g q 2 rfl; have h3 := sdA_int g q 3 rfl; have h4 := sdA_int g q 4 rfl; have h5 := sdA_int g q 5 rfl; have h6 := sdA_int g q 6 rfl; have h7 := sdA_int g q 7 rfl; have h8 := sdA_int g q 8 rfl; have h9 := sdA_int g q 9 rfl; have h10 := sdA_int g q 10 rfl; have h11 := sdA_int g q 11 rfl
  go_enter Try.func45, Try.ntmps45
  go_wp2_with ((go_at_call 86; refine (valueOk_s _ _ _).mono ?_; rintro e w' ⟨rfl, hb⟩; replace hb := bel_call (w := w.alloc (.cells (sdA g q) 36)) (by first | exact Below.refl _ _ | assumption) hb; obtain ⟨hc, hf⟩ := bcell hb))
  all_goals (go_ret; exact ⟨ret_bool (by unfold sidesOkB; simp [*]), by (repeat (first | exact Below.refl _ _ | assumption | (refine bel_call ?_ (by assumption)) | (refine bel_alloc ?_ _) | (refine Below.drew ?_) | (refine bel_drewN ?_ _) | (refine Below.setCell ?_ (by first | exact Nat.le_refl _ | assumption | (simp; done) | (simp; omega)) _)))⟩)
set_option maxHeartbeats 1600000 in
theorem sideOf_i (g : Nat → Int) (q : Nat → Bool) (side : Int) (rtl : Bool) (w : World) :
    Calls Try.prog 41 #[.agg (sdA g q), .int .i64 side, .bool rtl] w fun e w' => e = .returned (.agg #[.int .i64 (sideK g side rtl), .int .i64 (sideN g side rtl)]) ∧ Below w.heap.size w w' := by
  have h0 := sdA_int g q 0 rfl; have h1 := sdA_int g q 1 rfl; have h2 := sdA_int g q 2 rfl; have h3 := sdA_int g q 3 rfl; have h4 := sdA_int g q 4 rfl; have h5 := sdA_int g q 5 rfl; have h6 := sdA_int g q 6 rfl; have h7 := sdA_int g q 7 rfl; have h8 := sdA_int g q 8 rfl; have h9 := sdA_int g q 9 rfl; have h10 := sdA_int g q 10 rfl; have h11 := sdA_int g q 11 rfl
  cases rtl
  all_goals
    go_enter Try.func41, Try.ntmps41
    go_wp2_with fail
    go_region_held3 (fun w' => w'.cell? ⟨w.heap.size, 8, none⟩ = some (.int .i64 (g 8)) ∧ w'.cell? ⟨w.heap.size, 9, none⟩ = some (.int .i64 (g 9)) ∧ w'.cell? ⟨w.heap.size, 10, none⟩ = some (.int .i64 (g 10)) ∧ w'.cell? ⟨w.heap.size, 11, none⟩ = some (.int .i64 (g 11))) ((first | (simp [go_sem]; done) | (simp [go_sem, *]; done))) (fail)
    all_goals go_wp2
    all_goals (refine bodyPost_ret (v := .agg #[.int .i64 (sideK g side _), .int .i64 (sideN g side _)]) (by simp_all [results, Try.results41, go_sem, sideK, sideN]) rfl ⟨rfl, ?_⟩; (repeat (first | exact Below.refl _ _ | assumption | (refine bel_call ?_ (by assumption)) | (refine bel_alloc ?_ _) | (refine Below.drew ?_) | (refine bel_drewN ?_ _) | (refine Below.setCell ?_ (by first | exact Nat.le_refl _ | assumption | (simp; done) | (simp; omega)) _))))
set_option maxHeartbeats 1600000 in
theorem sideOf_s (g : Nat → Int) (q : Nat → Bool) (side : Int) (rtl : Bool) (w : World) :
    Calls Try.prog 42 #[.agg (sdA g q), .int .i64 side, .bool rtl] w fun e w' => e = .returned (.agg #[.int .i64 (sideK g side rtl), .int .i64 (sideN g side rtl)]) ∧ Below w.heap.size w w' := by
  have h0 := sdA_int g q 0 rfl; have h1 := sdA_int g q 1 rfl; have h2 := sdA_int g q 2 rfl; have h3 := sdA_int g q 3 rfl; have h4 := sdA_int g q 4 rfl; have h5 := sdA_int g q 5 rfl; have h6 := sdA_int g q 6 rfl; have h7 := sdA_int g q 7 rfl; have h8 := sdA_int g q 8 rfl; have h9 := sdA_int g q 9 rfl; have h10 := sdA_int g q 10 rfl; have h11 := sdA_int g q 11 rfl
  cases rtl
  all_goals
    go_enter Try.func42, Try.ntmps42
    go_wp2
    all_goals (refine bodyPost_ret (v := .agg #[.int .i64 (sideK g side _), .int .i64 (sideN g side _)]) (by simp_all [results, Try.results42, go_sem, sideK, sideN]) rfl ⟨rfl, ?_⟩; (repeat (first | exact Below.refl _ _ | assumption | (refine bel_call ?_ (by assumption)) | (refine bel_alloc ?_ _) | (refine Below.drew ?_) | (refine bel_drewN ?_ _) | (refine Below.setCell ?_ (by first | exact Nat.le_refl _ | assumption | (simp; done) | (simp; omega)) _))))
set_option maxHeartbeats 1600000 in
theorem marginOf_i (g : Nat → Int) (q : Nat → Bool) (side : Int) (rtl : Bool) (base : Int) (w : World) :
    Calls Try.prog 48 #[.agg (sdA g q), .int .i64 side, .bool rtl, .int .i64 base] w fun e w' => e = .returned (.int .i64 (marginOf g side rtl base)) ∧ Below w.heap.size w w' := by
  go_enter Try.func48, Try.ntmps48
  go_wp2_with (first | (refine wpList_load_row rfl 36 _ rfl (w.heap.size) rfl 36 (sdA g q) (0, 0) _ (by first | (with_reducible exact hbox1 _ _ _) | (with_reducible exact hbox2a _ _ _ _) | (with_reducible exact hbox2b _ _ _ _) | (refine (hb.block _ ?_).trans ?_ <;> first | (simp; done) | (with_reducible exact hbox1 _ _ _) | (with_reducible exact hbox2a _ _ _ _) | (with_reducible exact hbox2b _ _ _ _)) | (refine (Below.heap_alloc _ _ _ (by have hs := hb.size; simp at hs; omega)).trans ((hb.block _ ?_).trans ?_) <;> first | (simp; done) | (with_reducible exact hbox1 _ _ _))) Try.underlying36 rfl (sdA_info_v g q) ?_) | (go_at_call 41; refine (sideOf_i g q side rtl _).mono ?_; rintro e w1 ⟨rfl, hb1⟩) | (go_at_call 89; refine (known_i _ _ _ _).mono ?_; rintro e w2 ⟨rfl, hb2⟩; have c2 := fun o => hb2.cell (p := ⟨w1.heap.size, o, none⟩) (by simp)) | (go_at_call 90; refine (lengthOf_i _ _ _ _).mono ?_; rintro e w3 ⟨rfl, hb3⟩) | (go_at_call 74; refine (signed_i _ _).mono ?_; rintro e w' ⟨rfl, rfl⟩))
  all_goals (go_ret; exact ⟨ret_int (by unfold marginOf; simp_all), by (repeat (first | exact Below.refl _ _ | assumption | (refine bel_call ?_ (by assumption)) | (refine bel_alloc ?_ _) | (refine Below.drew ?_) | (refine bel_drewN ?_ _) | (refine Below.setCell ?_ (by first | exact Nat.le_refl _ | assumption | (simp; done) | (simp; omega)) _)))⟩)
set_option maxHeartbeats 1600000 in
theorem marginOf_s (g : Nat → Int) (q : Nat → Bool) (side : Int) (rtl : Bool) (base : Int) (w : World) :
    Calls Try.prog 49 #[.agg (sdA g q), .int .i64 side, .bool rtl, .int .i64 base] w fun e w' => e = .returned (.int .i64 (marginOf g side rtl base)) ∧ Below w.heap.size w w' := by
  go_enter Try.func49, Try.ntmps49
  go_wp2_with (first | (refine wpList_load_row rfl 36 _ rfl (w.heap.size) rfl 36 (sdA g q) (0, 0) _ (by first | (with_reducible exact hbox1 _ _ _) | (with_reducible exact hbox2a _ _ _ _) | (with_reducible exact hbox2b _ _ _ _) | (refine (hb.block _ ?_).trans ?_ <;> first | (simp; done) | (with_reducible exact hbox1 _ _ _) | (with_reducible exact hbox2a _ _ _ _) | (with_reducible exact hbox2b _ _ _ _)) | (refine (Below.heap_alloc _ _ _ (by have hs := hb.size; simp at hs; omega)).trans ((hb.block _ ?_).trans ?_) <;> first | (simp; done) | (with_reducible exact hbox1 _ _ _))) Try.underlying36 rfl (sdA_info_v g q) ?_) | (go_at_call 42; refine (sideOf_s g q side rtl _).mono ?_; rintro e w1 ⟨rfl, hb1⟩) | (go_at_call 91; refine (known_s _ _ _ _).mono ?_; rintro e w2 ⟨rfl, hb2⟩; have c2 := fun o => hb2.cell (p := ⟨w1.heap.size, o, none⟩) (by simp)) | (go_at_call 92; refine (lengthOf_s _ _ _ _).mono ?_; rintro e w3 ⟨rfl, hb3⟩) | (go_at_call 75; refine (signed_s _ _).mono ?_; rintro e w' ⟨rfl, rfl⟩))
  all_goals (go_ret; exact ⟨ret_int (by unfold marginOf; simp_all), by (repeat (first | exact Below.refl _ _ | assumption | (refine bel_call ?_ (by assumption)) | (refine bel_alloc ?_ _) | (refine Below.drew ?_) | (refine bel_drewN ?_ _) | (refine Below.setCell ?_ (by first | exact Nat.le_refl _ | assumption | (simp; done) | (simp; omega)) _)))⟩)

end Go.Proofs.Ytcmanaklojomeaa
