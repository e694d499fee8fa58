/- Contracts of the functions on size constraints. No condition. -/
import Derived.Test.YtjmdeficahinoaaSty
import Derived.Test.YtjmdeficahinoaaStyFr
import Derived.Deep.RegionLaw
namespace Go.Proofs.Ytjmdeficahinoaa
open Go.RowKit
set_option linter.unusedVariables false
attribute [local go_sem ↓] exec_row1 exec_row1d exec_rowh exec_rowhd
set_option maxHeartbeats 800000 in
theorem pick_i (wide : Bool) (a b c d : Int) (w : World) :
    Calls Try.prog 41 #[.bool wide, .agg #[.int .i64 a, .int .i64 b], .agg #[.int .i64 c, .int .i64 d]] w fun e w' => e = .returned (.agg #[.int .i64 (sel wide a c), .int .i64 (sel wide b d)]) ∧ Below w.heap.size w w' := by
  cases wide
  · go_enter Try.func41, Try.ntmps41
    go_wp2
    refine bodyPost_ret (v := .agg #[.int .i64 c, .int .i64 d]) (by simp [results, Try.results41, go_sem]) rfl ⟨rfl, ?_⟩
    (repeat (first | exact Below.refl _ _ | assumption | (refine bel_call ?_ (by assumption)) | (refine bel_alloc ?_ _) | (refine Below.drew ?_) | (refine bel_drewN ?_ _) | (refine Below.setCell ?_ (by first | exact Nat.le_refl _ | (simp; done) | (simp; omega)) _)))
  · go_enter Try.func41, Try.ntmps41
    go_wp2
    refine bodyPost_ret (v := .agg #[.int .i64 a, .int .i64 b]) (by simp [results, Try.results41, go_sem]) rfl ⟨rfl, ?_⟩
    (repeat (first | exact Below.refl _ _ | assumption | (refine bel_call ?_ (by assumption)) | (refine bel_alloc ?_ _) | (refine Below.drew ?_) | (refine bel_drewN ?_ _) | (refine Below.setCell ?_ (by first | exact Nat.le_refl _ | (simp; done) | (simp; omega)) _)))
set_option maxHeartbeats 800000 in
theorem pick_s (wide : Bool) (a b c d : Int) (w : World) :
    Calls Try.prog 39 #[.bool wide, .agg #[.int .i64 a, .int .i64 b], .agg #[.int .i64 c, .int .i64 d]] w fun e w' => e = .returned (.agg #[.int .i64 (sel wide a c), .int .i64 (sel wide b d)]) ∧ Below w.heap.size w w' := by
  cases wide
  · go_enter Try.func39, Try.ntmps39
    go_wp2
    refine bodyPost_ret (v := .agg #[.int .i64 c, .int .i64 d]) (by simp [results, Try.results39, go_sem]) rfl ⟨rfl, ?_⟩
    (repeat (first | exact Below.refl _ _ | assumption | (refine bel_call ?_ (by assumption)) | (refine bel_alloc ?_ _) | (refine Below.drew ?_) | (refine bel_drewN ?_ _) | (refine Below.setCell ?_ (by first | exact Nat.le_refl _ | (simp; done) | (simp; omega)) _)))
  · go_enter Try.func39, Try.ntmps39
    go_wp2
    refine bodyPost_ret (v := .agg #[.int .i64 a, .int .i64 b]) (by simp [results, Try.results39, go_sem]) rfl ⟨rfl, ?_⟩
    (repeat (first | exact Below.refl _ _ | assumption | (refine bel_call ?_ (by assumption)) | (refine bel_alloc ?_ _) | (refine Below.drew ?_) | (refine bel_drewN ?_ _) | (refine Below.setCell ?_ (by first | exact Nat.le_refl _ | (simp; done) | (simp; omega)) _)))
set_option maxRecDepth 100000 in
set_option maxHeartbeats 800000 in
theorem frameSize_i (g : Nat → Int) (q : Nat → Bool) (wide : Bool) (w : World) :
    Calls Try.prog 12 #[.agg (syA g q), .bool wide] w fun e w' => e = .returned (.int .i64 (frameSize g wide)) ∧ Below w.heap.size w w' := by
  cases wide
  all_goals
    go_enter Try.func12, Try.ntmps12
    go_wp2_with (first | (go_at_call 32; refine (frameOf_i g q _).mono ?_; rintro e w' ⟨rfl, hb⟩; replace hb := bel_call (w := w.alloc (.cells (syA g q) 36)) (by first | exact Below.refl _ _ | assumption) hb; obtain ⟨hc, hf⟩ := bcell hb) | (go_at_call 31; refine (wideOf_i _ _ _ _ _).mono ?_; rintro e w' ⟨rfl, hb⟩; replace hb := bel_call (w := w.alloc (.cells (syA g q) 36)) (by first | exact Below.refl _ _ | assumption) hb; obtain ⟨hc, hf⟩ := bcell hb) | (go_at_call 33; refine (highOf_i _ _ _ _ _).mono ?_; rintro e w' ⟨rfl, hb⟩; replace hb := bel_call (w := w.alloc (.cells (syA g q) 36)) (by first | exact Below.refl _ _ | assumption) hb; obtain ⟨hc, hf⟩ := bcell hb))
    go_ret
    exact ⟨rfl, by (repeat (first | exact Below.refl _ _ | assumption | (refine bel_call ?_ (by assumption)) | (refine bel_alloc ?_ _) | (refine Below.drew ?_) | (refine bel_drewN ?_ _) | (refine Below.setCell ?_ (by first | exact Nat.le_refl _ | (simp; done) | (simp; omega)) _)))⟩
set_option maxRecDepth 100000 in
set_option maxHeartbeats 800000 in
theorem frameSize_s (g : Nat → Int) (q : Nat → Bool) (wide : Bool) (w : World) :
    Calls Try.prog 10 #[.agg (syA g q), .bool wide] w fun e w' => e = .returned (.int .i64 (frameSize g wide)) ∧ Below w.heap.size w w' := by
  cases wide
  all_goals
    go_enter Try.func10, Try.ntmps10
    go_wp2_with (first | (go_at_call 26; refine (frameOf_s g q _).mono ?_; rintro e w' ⟨rfl, hb⟩; replace hb := bel_call (w := w.alloc (.cells (syA g q) 36)) (by first | exact Below.refl _ _ | assumption) hb; obtain ⟨hc, hf⟩ := bcell hb) | (go_at_call 25; refine (wideOf_s _ _ _ _ _).mono ?_; rintro e w' ⟨rfl, hb⟩; replace hb := bel_call (w := w.alloc (.cells (syA g q) 36)) (by first | exact Below.refl _ _ | assumption) hb; obtain ⟨hc, hf⟩ := bcell hb) | (go_at_call 27; refine (highOf_s _ _ _ _ _).mono ?_; rintro e w' ⟨rfl, hb⟩; replace hb := bel_call (w := w.alloc (.cells (syA g q) 36)) (by first | exact Below.refl _ _ | assumption) hb; obtain ⟨hc, hf⟩ := bcell hb))
    go_ret
    exact ⟨rfl, by (repeat (first | exact Below.refl _ _ | assumption | (refine bel_call ?_ (by assumption)) | (refine bel_alloc ?_ _) | (refine Below.drew ?_) | (refine bel_drewN ?_ _) | (refine Below.setCell ?_ (by first | exact Nat.le_refl _ | (simp; done) | (simp; omega)) _)))⟩
set_option maxRecDepth 100000 in
set_option maxHeartbeats 800000 in
theorem fixedOf_i (g : Nat → Int) (q : Nat → Bool) (wide : Bool) (base : Int) (w : World) :
    Calls Try.prog 16 #[.agg (syA g q), .bool wide, .int .i64 base] w fun e w' => e = .returned (.int .i64 (fixedOf g wide base)) ∧ Below w.heap.size w w' := by
  have h13 := syA_int g q 13 rfl; have h14 := syA_int g q 14 rfl; have h15 := syA_int g q 15 rfl; have h16 := syA_int g q 16 rfl
  go_enter Try.func16, Try.ntmps16
  go_wp2_with (first | (go_at_call 41; refine (pick_i _ _ _ _ _ _).mono ?_; rintro e w' ⟨rfl, hb⟩; replace hb := bel_call (w := w.alloc (.cells (syA g q) 36)) (by first | exact Below.refl _ _ | assumption) hb; obtain ⟨hc, hf⟩ := bcell hb) | (go_at_call 40; refine (sizeOf_i _ _ _ _).mono ?_; rintro e w' ⟨rfl, hb⟩; replace hb := bel_call (w := w.alloc (.cells (syA g q) 36)) (by first | exact Below.refl _ _ | assumption) hb; obtain ⟨hc, hf⟩ := bcell hb))
  go_ret
  exact ⟨rfl, by (repeat (first | exact Below.refl _ _ | assumption | (refine bel_call ?_ (by assumption)) | (refine bel_alloc ?_ _) | (refine Below.drew ?_) | (refine bel_drewN ?_ _) | (refine Below.setCell ?_ (by first | exact Nat.le_refl _ | (simp; done) | (simp; omega)) _)))⟩
set_option maxRecDepth 100000 in
set_option maxHeartbeats 800000 in
theorem fixedOf_s (g : Nat → Int) (q : Nat → Bool) (wide : Bool) (base : Int) (w : World) :
    Calls Try.prog 15 #[.agg (syA g q), .bool wide, .int .i64 base] w fun e w' => e = .returned (.int .i64 (fixedOf g wide base)) ∧ Below w.heap.size w w' := by
  have h13 := syA_int g q 13 rfl; have h14 := syA_int g q 14 rfl; have h15 := syA_int g q 15 rfl; have h16 := syA_int g q 16 rfl
  go_enter Try.func15, Try.ntmps15
  go_wp2_with (first | (go_at_call 39; refine (pick_s _ _ _ _ _ _).mono ?_; rintro e w' ⟨rfl, hb⟩; replace hb := bel_call (w := w.alloc (.cells (syA g q) 36)) (by first | exact Below.refl _ _ | assumption) hb; obtain ⟨hc, hf⟩ := bcell hb) | (go_at_call 38; refine (sizeOf_s _ _ _ _).mono ?_; rintro e w' ⟨rfl, hb⟩; replace hb := bel_call (w := w.alloc (.cells (syA g q) 36)) (by first | exact Below.refl _ _ | assumption) hb; obtain ⟨hc, hf⟩ := bcell hb))
  go_ret
  exact ⟨rfl, by (repeat (first | exact Below.refl _ _ | assumption | (refine bel_call ?_ (by assumption)) | (refine bel_alloc ?_ _) | (refine Below.drew ?_) | (refine bel_drewN ?_ _) | (refine Below.setCell ?_ (by first | exact Nat.le_refl _ | (simp; done) | (simp; omega)) _)))⟩
set_option maxRecDepth 100000 in
set_option maxHeartbeats 800000 in
theorem mostOf_i (g : Nat → Int) (q : Nat → Bool) (wide : Bool) (base : Int) (w : World) :
    Calls Try.prog 18 #[.agg (syA g q), .bool wide, .int .i64 base] w fun e w' => e = .returned (.int .i64 (mostOf g wide base)) ∧ Below w.heap.size w w' := by
  have h21 := syA_int g q 21 rfl; have h22 := syA_int g q 22 rfl; have h23 := syA_int g q 23 rfl; have h24 := syA_int g q 24 rfl
  go_enter Try.func18, Try.ntmps18
  go_wp2_with (first | (go_at_call 41; refine (pick_i _ _ _ _ _ _).mono ?_; rintro e w' ⟨rfl, hb⟩; replace hb := bel_call (w := w.alloc (.cells (syA g q) 36)) (by first | exact Below.refl _ _ | assumption) hb; obtain ⟨hc, hf⟩ := bcell hb) | (go_at_call 40; refine (sizeOf_i _ _ _ _).mono ?_; rintro e w' ⟨rfl, hb⟩; replace hb := bel_call (w := w.alloc (.cells (syA g q) 36)) (by first | exact Below.refl _ _ | assumption) hb; obtain ⟨hc, hf⟩ := bcell hb))
  go_ret
  exact ⟨rfl, by (repeat (first | exact Below.refl _ _ | assumption | (refine bel_call ?_ (by assumption)) | (refine bel_alloc ?_ _) | (refine Below.drew ?_) | (refine bel_drewN ?_ _) | (refine Below.setCell ?_ (by first | exact Nat.le_refl _ | (simp; done) | (simp; omega)) _)))⟩
set_option maxRecDepth 100000 in
set_option maxHeartbeats 800000 in
theorem mostOf_s (g : Nat → Int) (q : Nat → Bool) (wide : Bool) (base : Int) (w : World) :
    Calls Try.prog 17 #[.agg (syA g q), .bool wide, .int .i64 base] w fun e w' => e = .returned (.int .i64 (mostOf g wide base)) ∧ Below w.heap.size w w' := by
  have h21 := syA_int g q 21 rfl; have h22 := syA_int g q 22 rfl; have h23 := syA_int g q 23 rfl; have h24 := syA_int g q 24 rfl
  go_enter Try.func17, Try.ntmps17
  go_wp2_with (first | (go_at_call 39; refine (pick_s _ _ _ _ _ _).mono ?_; rintro e w' ⟨rfl, hb⟩; replace hb := bel_call (w := w.alloc (.cells (syA g q) 36)) (by first | exact Below.refl _ _ | assumption) hb; obtain ⟨hc, hf⟩ := bcell hb) | (go_at_call 38; refine (sizeOf_s _ _ _ _).mono ?_; rintro e w' ⟨rfl, hb⟩; replace hb := bel_call (w := w.alloc (.cells (syA g q) 36)) (by first | exact Below.refl _ _ | assumption) hb; obtain ⟨hc, hf⟩ := bcell hb))
  go_ret
  exact ⟨rfl, by (repeat (first | exact Below.refl _ _ | assumption | (refine bel_call ?_ (by assumption)) | (refine bel_alloc ?_ _) | (refine Below.drew ?_) | (refine bel_drewN ?_ _) | (refine Below.setCell ?_ (by first | exact Nat.le_refl _ | (simp; done) | (simp; omega)) _)))⟩
set_option maxRecDepth 100000 in
set_option maxHeartbeats 1600000 in
theorem leastOf_s (g : Nat → Int) (q : Nat → Bool) (wide : Bool) (base : Int) (w : World) :
    Calls Try.prog 21 #[.agg (syA g q), .bool wide, .int .i64 base] w fun e w' => e = .returned (.int .i64 (leastOf g wide base)) ∧ Below w.heap.size w w' := by
  have h17 := syA_int g q 17 rfl; have h18 := syA_int g q 18 rfl; have h19 := syA_int g q 19 rfl; have h20 := syA_int g q 20 rfl
  have hm : orElse (sizeOf (sel wide (g 17) (g 19)) (sel wide (g 18) (g 20)) base) 0 = minOf g wide base := rfl
  by_cases hlt : minOf g wide base < frameSize g wide
  all_goals
    go_enter Try.func21, Try.ntmps21
    go_wp2_with (first | (refine wpList_load_row rfl 36 _ rfl (w.heap.size) rfl 36 (syA g q) (0, 0) _ (by first | (with_reducible exact hbox1 _ _ _) | (with_reducible exact hbox2a _ _ _ _) | (with_reducible exact hbox2b _ _ _ _) | (refine (hb.block _ ?_).trans ?_ <;> first | (simp; done) | (with_reducible exact hbox1 _ _ _) | (with_reducible exact hbox2a _ _ _ _) | (with_reducible exact hbox2b _ _ _ _))) Try.underlying36 rfl (syA_info_v g q) ?_) | (go_at_call 39; refine (pick_s _ _ _ _ _ _).mono ?_; rintro e w' ⟨rfl, hb⟩; replace hb := bel_call (w := w.alloc (.cells (syA g q) 36)) (by first | exact Below.refl _ _ | assumption) hb; obtain ⟨hc, hf⟩ := bcell hb) | (go_at_call 38; refine (sizeOf_s _ _ _ _).mono ?_; rintro e w' ⟨rfl, hb⟩; replace hb := bel_call (w := w.alloc (.cells (syA g q) 36)) (by first | exact Below.refl _ _ | assumption) hb; obtain ⟨hc, hf⟩ := bcell hb) | (go_at_call 42; refine (orElse_s _ _ _).mono ?_; rintro e w' ⟨rfl, rfl⟩) | (go_at_call 10; refine (frameSize_s g q _ _).mono ?_; rintro e w' ⟨rfl, hb⟩; replace hb := bel_call (w := w.alloc (.cells (syA g q) 36)) (by first | exact Below.refl _ _ | assumption) hb; obtain ⟨hc, hf⟩ := bcell hb))
    go_ret
    exact ⟨ret_int (by unfold leastOf; (repeat' split) <;> omega), by (repeat (first | exact Below.refl _ _ | assumption | (refine bel_call ?_ (by assumption)) | (refine bel_alloc ?_ _) | (refine Below.drew ?_) | (refine bel_drewN ?_ _) | (refine Below.setCell ?_ (by first | exact Nat.le_refl _ | (simp; done) | (simp; omega)) _)))⟩
set_option maxRecDepth 100000 in
set_option maxHeartbeats 3200000 in
theorem leastOf_i (g : Nat → Int) (q : Nat → Bool) (wide : Bool) (base : Int) (w : World) :
    Calls Try.prog 22 #[.agg (syA g q), .bool wide, .int .i64 base] w fun e w' => e = .returned (.int .i64 (leastOf g wide base)) ∧ Below w.heap.size w w' := by
  have h17 := syA_int g q 17 rfl; have h18 := syA_int g q 18 rfl; have h19 := syA_int g q 19 rfl; have h20 := syA_int g q 20 rfl
  go_enter Try.func22, Try.ntmps22
  go_wp2_with fail
  go_region_law (first | (go_simp; (go_at_call 12; refine (frameSize_i g q _ _).mono ?_; rintro e w' ⟨rfl, hb⟩; have hz := (Nat.le_trans (by first | assumption | (simp; done) | (simp; omega)) hb.size : w.heap.size + 1 ≤ w'.heap.size); have c0 := fun o => hb.cell (p := ⟨w.heap.size, o, none⟩) (by first | (simp; done) | (simp; omega)); have hB := (hb.block w.heap.size (by first | omega | (simp; done) | (simp; omega))).trans (by first | (with_reducible exact hbox1 _ _ _) | exact hbox1 _ _ _ | assumption); obtain ⟨w2, rfl⟩ : ∃ w2, w' = held w2 w.heap.size (syA g q) := ⟨w', (held_eq _ _ _).symm⟩)) | (go_simp; (go_at_call 41; refine (pick_i _ _ _ _ _ _).mono ?_; rintro e w' ⟨rfl, hb⟩; have hz := (Nat.le_trans (by first | assumption | (simp; done) | (simp; omega)) hb.size : w.heap.size + 1 ≤ w'.heap.size); have c0 := fun o => hb.cell (p := ⟨w.heap.size, o, none⟩) (by first | (simp; done) | (simp; omega)); have hB := (hb.block w.heap.size (by first | omega | (simp; done) | (simp; omega))).trans (by first | (with_reducible exact hbox1 _ _ _) | exact hbox1 _ _ _ | assumption); obtain ⟨w2, rfl⟩ : ∃ w2, w' = held w2 w.heap.size (syA g q) := ⟨w', (held_eq _ _ _).symm⟩)) | (go_simp; (go_at_call 40; refine (sizeOf_i _ _ _ _).mono ?_; rintro e w' ⟨rfl, hb⟩; have hz := (Nat.le_trans (by first | assumption | (simp; done) | (simp; omega)) hb.size : w.heap.size + 1 ≤ w'.heap.size); have c0 := fun o => hb.cell (p := ⟨w.heap.size, o, none⟩) (by first | (simp; done) | (simp; omega)); have hB := (hb.block w.heap.size (by first | omega | (simp; done) | (simp; omega))).trans (by first | (with_reducible exact hbox1 _ _ _) | exact hbox1 _ _ _ | assumption); obtain ⟨w2, rfl⟩ : ∃ w2, w' = held w2 w.heap.size (syA g q) := ⟨w', (held_eq _ _ _).symm⟩)) | (go_simp; (go_at_call 43; refine (orElse_i _ _ _).mono ?_; rintro e w' ⟨rfl, rfl⟩)))
  all_goals go_wp2
  all_goals go_ret
  all_goals exact ⟨ret_int (by unfold leastOf minOf; (repeat' split) <;> omega), by (repeat (first | exact Below.refl _ _ | assumption | (refine bel_call ?_ (by assumption)) | (refine bel_alloc ?_ _) | (refine Below.drew ?_) | (refine bel_drewN ?_ _) | (refine Below.setCell ?_ (by first | exact Nat.le_refl _ | (simp; done) | (simp; omega)) _)))⟩

end Go.Proofs.Ytjmdeficahinoaa
