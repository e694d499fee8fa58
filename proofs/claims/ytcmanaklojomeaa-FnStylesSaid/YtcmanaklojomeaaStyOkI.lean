/- The contract of the program's StyleOk: seven sizes are checked in a loop. No condition. -/
import Derived.Test.YtcmanaklojomeaaStyOk
import Derived.LoopTactic
namespace Go.Proofs.Ytcmanaklojomeaa
open Go.RowKit
set_option linter.unusedVariables false
theorem sizes_all {g : Nat → Int} (h : sizesTo g 7) : sizeOkB (g 11) (g 12) = true ∧ sizeOkB (g 13) (g 14) = true ∧ sizeOkB (g 15) (g 16) = true ∧ sizeOkB (g 17) (g 18) = true ∧ sizeOkB (g 19) (g 20) = true ∧ sizeOkB (g 21) (g 22) = true ∧ sizeOkB (g 23) (g 24) = true :=
  ⟨h 0 (by omega), h 1 (by omega), h 2 (by omega), h 3 (by omega), h 4 (by omega), h 5 (by omega), h 6 (by omega)⟩
theorem sizesTo_succ {g : Nat → Int} {k : Nat} (h : sizesTo g k) (hk : sizeOkB (g (11 + 2 * k)) (g (12 + 2 * k)) = true) : sizesTo g (k + 1) := fun i hi => by
  by_cases e : i = k
  · rw [e]; exact hk
  · exact h i (by omega)
theorem size_no {g : Nat → Int} (k : Nat) (hk : k < 7) (h : sizeOkB (g (11 + 2 * k)) (g (12 + 2 * k)) = false) : styleOkB g = false := by
  have : k = 0 ∨ k = 1 ∨ k = 2 ∨ k = 3 ∨ k = 4 ∨ k = 5 ∨ k = 6 := by omega
  unfold styleOkB
  rcases this with rfl | rfl | rfl | rfl | rfl | rfl | rfl <;> simp [h]
set_option maxRecDepth 100000 in
set_option maxHeartbeats 8000000 in
theorem styleOk_i (g : Nat → Int) (q : Nat → Bool) (w : World) :
    Calls Try.prog 63 #[.agg (syA g q)] w fun e w' => e = .returned (.bool (styleOkB g)) ∧ Below w.heap.size w w' := by
  have h0 := syA_int g q 0 rfl; have h1 := syA_int g q 1 rfl; have h2 := syA_int g q 2 rfl; have h3 := syA_int g q 3 rfl; have h4 := syA_int g q 4 rfl; have h5 := syA_int g q 5 rfl; have h8 := syA_int g q 8 rfl; have h9 := syA_int g q 9 rfl; have h10 := syA_int g q 10 rfl; have h11 := syA_int g q 11 rfl; have h12 := syA_int g q 12 rfl; have h13 := syA_int g q 13 rfl; have h14 := syA_int g q 14 rfl; have h15 := syA_int g q 15 rfl; have h16 := syA_int g q 16 rfl; have h17 := syA_int g q 17 rfl; have h18 := syA_int g q 18 rfl; have h19 := syA_int g q 19 rfl; have h20 := syA_int g q 20 rfl; have h21 := syA_int g q 21 rfl; have h22 := syA_int g q 22 rfl; have h23 := syA_int g q 23 rfl; have h24 := syA_int g q 24 rfl; have h25 := syA_int g q 25 rfl; have h26 := syA_int g q 26 rfl; have h27 := syA_int g q 27 rfl; have h28 := syA_int g q 28 rfl; have h29 := syA_int g q 29 rfl; have h30 := syA_int g q 30 rfl; have h31 := syA_int g q 31 rfl; have h32 := syA_int g q 32 rfl; have h33 := syA_int g q 33 rfl; have h34 := syA_int g q 34 rfl; have h35 := syA_int g q 35 rfl; have h36 := syA_int g q 36 rfl; have h37 := syA_int g q 37 rfl; have h38 := syA_int g q 38 rfl; have h39 := syA_int g q 39 rfl; have h40 := syA_int g q 40 rfl; have h41 := syA_int g q 41 rfl; have h42 := syA_int g q 42 rfl; have h43 := syA_int g q 43 rfl; have h44 := syA_int g q 44 rfl; have h45 := syA_int g q 45 rfl; have h46 := syA_int g q 46 rfl; have h47 := syA_int g q 47 rfl; have h48 := syA_int g q 48 rfl; have h49 := syA_int g q 49 rfl; have h50 := syA_int g q 50 rfl; have h51 := syA_int g q 51 rfl; have h52 := syA_int g q 52 rfl; have h53 := syA_int g q 53 rfl; have h54 := syA_int g q 54 rfl; have h55 := syA_int g q 55 rfl; have h56 := syA_int g q 56 rfl; have h57 := syA_int g q 57 rfl; have h58 := syA_int g q 58 rfl; have h59 := syA_int g q 59 rfl
  go_enter Try.func63, Try.ntmps63
  go_wp2_with ((go_at_call 94; refine (in_i _ _ _ _).mono ?_; rintro e w' ⟨rfl, rfl⟩))
  all_goals (try (go_ret; exact ⟨ret_bool (by (try simp only [Bool.not_eq_true', Bool.not_eq_false'] at *); unfold styleOkB; simp [*]), by (repeat (first | exact Below.refl _ _ | assumption | (refine bel_call ?_ (by assumption)) | (refine bel_alloc ?_ _) | (refine Below.drew ?_) | (refine bel_drewN ?_ _) | (refine Below.setCell ?_ (by first | exact Nat.le_refl _ | assumption | (simp; done) | (simp; omega)) _)))⟩))
  have T0 := Lib.hid (show inB (g 0) 1 4 = true by assumption)
  have T1 := Lib.hid (show inB (g 1) 1 3 = true by assumption)
  have T2 := Lib.hid (show inB (g 2) 1 6 = true by assumption)
  have T3 := Lib.hid (show inB (g 4) 0 5 = true by assumption)
  have T4 := Lib.hid (show inB (g 5) 1 6 = true by assumption)
  have T5 := Lib.hid (show inB (g 3) 1 5 = true from by simpa using (show (!inB (g 3) 1 5) = false by assumption))
  have T6 := Lib.hid (show inB (g 8) (-1000) 1000 = true by assumption)
  have T7 := Lib.hid (show inB (g 9) 0 1000 = true by assumption)
  have T8 := Lib.hid (show inB (g 10) 0 1000 = true by assumption)
  have T9 := Lib.hid (show inB (g 25) 0 6400 = true by assumption)
  have T10 := Lib.hid (show inB (g 58) 0 1048576 = true by assumption)
  have T11 := Lib.hid (show inB (g 59) 0 1048576 = true from by simpa using (show (!inB (g 59) 0 1048576) = false by assumption))
  rename_i t0 t1 t2 t3 t4 t5 t6 t7 t8 t9 t10 t11 KK aa
  clear t0 t1 t2 t3 t4 t5 t6 t7 t8 t9 t10 t11
  have HW : Hid (Below w.heap.size w ((w.alloc (.cells (syA g q) 40)).alloc (.cells #[.int .i64 (g 11), .int .i64 (g 12), .int .i64 (g 13), .int .i64 (g 14), .int .i64 (g 15), .int .i64 (g 16), .int .i64 (g 17), .int .i64 (g 18), .int .i64 (g 19), .int .i64 (g 20), .int .i64 (g 21), .int .i64 (g 22), .int .i64 (g 23), .int .i64 (g 24)] 34))) := by (repeat (first | exact Below.refl _ _ | assumption | (refine bel_call ?_ (by assumption)) | (refine bel_alloc ?_ _) | (refine Below.drew ?_) | (refine bel_drewN ?_ _) | (refine Below.setCell ?_ (by first | exact Nat.le_refl _ | assumption | (simp; done) | (simp; omega)) _)))
  go_loopw [89] (fun i wr => Below ((w.alloc (.cells (syA g q) 40)).alloc (.cells #[.int .i64 (g 11), .int .i64 (g 12), .int .i64 (g 13), .int .i64 (g 14), .int .i64 (g 15), .int .i64 (g 16), .int .i64 (g 17), .int .i64 (g 18), .int .i64 (g 19), .int .i64 (g 20), .int .i64 (g 21), .int .i64 (g 22), .int .i64 (g 23), .int .i64 (g 24)] 34)).heap.size ((w.alloc (.cells (syA g q) 40)).alloc (.cells #[.int .i64 (g 11), .int .i64 (g 12), .int .i64 (g 13), .int .i64 (g 14), .int .i64 (g 15), .int .i64 (g 16), .int .i64 (g 17), .int .i64 (g 18), .int .i64 (g 19), .int .i64 (g 20), .int .i64 (g 21), .int .i64 (g 22), .int .i64 (g 23), .int .i64 (g 24)] 34)) wr ∧ ∃ k : Nat, k ≤ 7 ∧ i = .int .i64 k ∧ sizesTo g k) (fun i _ => 7 - (intOf i).toNat)
  case atStart => exact ⟨Below.refl _ _, 0, by omega, rfl, fun i hi => by omega⟩
  case round =>
    obtain ⟨hb, k, hk, rfl, hok⟩ := hrel
    have HK := Lib.hid hok
    have hc0 : ∀ o, wr.cell? ⟨w.heap.size, o, none⟩ = (syA g q)[o]? := fun o => by
      have := hb.cell (p := ⟨w.heap.size, o, none⟩) (by simp; omega)
      rw [this]; simp [go_sem]
    have hc1 : ∀ o, wr.cell? ⟨w.heap.size + 1, o, none⟩ = (#[Value.int .i64 (g 11), Value.int .i64 (g 12), Value.int .i64 (g 13), Value.int .i64 (g 14), Value.int .i64 (g 15), Value.int .i64 (g 16), Value.int .i64 (g 17), Value.int .i64 (g 18), Value.int .i64 (g 19), Value.int .i64 (g 20), Value.int .i64 (g 21), Value.int .i64 (g 22), Value.int .i64 (g 23), Value.int .i64 (g 24)] : Array Value)[o]? := fun o => by
      have := hb.cell (p := ⟨w.heap.size + 1, o, none⟩) (by simp)
      rw [this]; simp [go_sem]
    have HZ : Hid (w.heap.size < wr.heap.size) := by have := hb.size; simp at this; show _ < _; omega
    clear hok
    have hcase : k = 0 ∨ k = 1 ∨ k = 2 ∨ k = 3 ∨ k = 4 ∨ k = 5 ∨ k = 6 ∨ k = 7 := by omega
    rcases hcase with rfl | rfl | rfl | rfl | rfl | rfl | rfl | rfl
    case inr.inr.inr.inr.inr.inr.inr =>
      have HB := Lib.hid hb
      clear hb hc1
      go_wp2_with (first | (go_at_call 44; refine (sidesOkL_i _ _ _ _ _ _ _ _ _ _ _ _ _).mono ?_; rintro e w' ⟨rfl, hb⟩; have hc2 := fun o => hb.cell (p := ⟨w.heap.size, o, none⟩) (by first | exact HZ.out | assumption); have hz2 := Nat.lt_of_lt_of_le (show w.heap.size < _ from (by first | exact HZ.out | assumption)) hb.size) | (go_at_call 54; refine (edgesOk_i _ _ _ _ _).mono ?_; rintro e w' ⟨rfl, hb⟩; have hc2 := fun o => hb.cell (p := ⟨w.heap.size, o, none⟩) (by first | exact HZ.out | assumption); have hz2 := Nat.lt_of_lt_of_le (show w.heap.size < _ from (by first | exact HZ.out | assumption)) hb.size))
      all_goals (go_ret; exact ⟨ret_bool (by (try simp only [Bool.not_eq_true', Bool.not_eq_false'] at *); obtain ⟨z1, z2, z3, z4, z5, z6, z7⟩ := sizes_all HK.out; unfold styleOkB; simp [T0.out, T1.out, T2.out, T3.out, T4.out, T5.out, T6.out, T7.out, T8.out, T9.out, T10.out, T11.out, *]), by
        have h0 := bel_call HW.out HB.out
        (repeat (first | exact Below.refl _ _ | assumption | (refine bel_call ?_ (by assumption)) | (refine bel_alloc ?_ _) | (refine Below.drew ?_) | (refine bel_drewN ?_ _) | (refine Below.setCell ?_ (by first | exact Nat.le_refl _ | assumption | (simp; done) | (simp; omega)) _)))⟩)
    · rcases Bool.eq_false_or_eq_true (sizeOkB (g 11) (g 12)) with hz | hz
      · go_wp2_with (go_at_call 96; refine (sizeOk_i _ _ _).mono ?_; rintro e w' ⟨rfl, hb'⟩)
        have HZZ := Lib.hid (sizesTo_succ HK.out hz)
        go_roundw
        case rel => exact ⟨bel_call (bel_alloc hb _) hb', 1, by omega, rfl, HZZ.out⟩
        case measure => simp [intOf]
      · go_wp2_with (go_at_call 96; refine (sizeOk_i _ _ _).mono ?_; rintro e w' ⟨rfl, hb'⟩)
        go_ret
        exact ⟨ret_bool (size_no 0 (by omega) hz).symm, bel_call (bel_alloc (bel_call HW.out hb) _) hb'⟩
    · rcases Bool.eq_false_or_eq_true (sizeOkB (g 13) (g 14)) with hz | hz
      · go_wp2_with (go_at_call 96; refine (sizeOk_i _ _ _).mono ?_; rintro e w' ⟨rfl, hb'⟩)
        have HZZ := Lib.hid (sizesTo_succ HK.out hz)
        go_roundw
        case rel => exact ⟨bel_call (bel_alloc hb _) hb', 2, by omega, rfl, HZZ.out⟩
        case measure => simp [intOf]
      · go_wp2_with (go_at_call 96; refine (sizeOk_i _ _ _).mono ?_; rintro e w' ⟨rfl, hb'⟩)
        go_ret
        exact ⟨ret_bool (size_no 1 (by omega) hz).symm, bel_call (bel_alloc (bel_call HW.out hb) _) hb'⟩
    · rcases Bool.eq_false_or_eq_true (sizeOkB (g 15) (g 16)) with hz | hz
      · go_wp2_with (go_at_call 96; refine (sizeOk_i _ _ _).mono ?_; rintro e w' ⟨rfl, hb'⟩)
        have HZZ := Lib.hid (sizesTo_succ HK.out hz)
        go_roundw
        case rel => exact ⟨bel_call (bel_alloc hb _) hb', 3, by omega, rfl, HZZ.out⟩
        case measure => simp [intOf]
      · go_wp2_with (go_at_call 96; refine (sizeOk_i _ _ _).mono ?_; rintro e w' ⟨rfl, hb'⟩)
        go_ret
        exact ⟨ret_bool (size_no 2 (by omega) hz).symm, bel_call (bel_alloc (bel_call HW.out hb) _) hb'⟩
    · rcases Bool.eq_false_or_eq_true (sizeOkB (g 17) (g 18)) with hz | hz
      · go_wp2_with (go_at_call 96; refine (sizeOk_i _ _ _).mono ?_; rintro e w' ⟨rfl, hb'⟩)
        have HZZ := Lib.hid (sizesTo_succ HK.out hz)
        go_roundw
        case rel => exact ⟨bel_call (bel_alloc hb _) hb', 4, by omega, rfl, HZZ.out⟩
        case measure => simp [intOf]
      · go_wp2_with (go_at_call 96; refine (sizeOk_i _ _ _).mono ?_; rintro e w' ⟨rfl, hb'⟩)
        go_ret
        exact ⟨ret_bool (size_no 3 (by omega) hz).symm, bel_call (bel_alloc (bel_call HW.out hb) _) hb'⟩
    · rcases Bool.eq_false_or_eq_true (sizeOkB (g 19) (g 20)) with hz | hz
      · go_wp2_with (go_at_call 96; refine (sizeOk_i _ _ _).mono ?_; rintro e w' ⟨rfl, hb'⟩)
        have HZZ := Lib.hid (sizesTo_succ HK.out hz)
        go_roundw
        case rel => exact ⟨bel_call (bel_alloc hb _) hb', 5, by omega, rfl, HZZ.out⟩
        case measure => simp [intOf]
      · go_wp2_with (go_at_call 96; refine (sizeOk_i _ _ _).mono ?_; rintro e w' ⟨rfl, hb'⟩)
        go_ret
        exact ⟨ret_bool (size_no 4 (by omega) hz).symm, bel_call (bel_alloc (bel_call HW.out hb) _) hb'⟩
    · rcases Bool.eq_false_or_eq_true (sizeOkB (g 21) (g 22)) with hz | hz
      · go_wp2_with (go_at_call 96; refine (sizeOk_i _ _ _).mono ?_; rintro e w' ⟨rfl, hb'⟩)
        have HZZ := Lib.hid (sizesTo_succ HK.out hz)
        go_roundw
        case rel => exact ⟨bel_call (bel_alloc hb _) hb', 6, by omega, rfl, HZZ.out⟩
        case measure => simp [intOf]
      · go_wp2_with (go_at_call 96; refine (sizeOk_i _ _ _).mono ?_; rintro e w' ⟨rfl, hb'⟩)
        go_ret
        exact ⟨ret_bool (size_no 5 (by omega) hz).symm, bel_call (bel_alloc (bel_call HW.out hb) _) hb'⟩
    · rcases Bool.eq_false_or_eq_true (sizeOkB (g 23) (g 24)) with hz | hz
      · go_wp2_with (go_at_call 96; refine (sizeOk_i _ _ _).mono ?_; rintro e w' ⟨rfl, hb'⟩)
        have HZZ := Lib.hid (sizesTo_succ HK.out hz)
        go_roundw
        case rel => exact ⟨bel_call (bel_alloc hb _) hb', 7, by omega, rfl, HZZ.out⟩
        case measure => simp [intOf]
      · go_wp2_with (go_at_call 96; refine (sizeOk_i _ _ _).mono ?_; rintro e w' ⟨rfl, hb'⟩)
        go_ret
        exact ⟨ret_bool (size_no 6 (by omega) hz).symm, bel_call (bel_alloc (bel_call HW.out hb) _) hb'⟩
end Go.Proofs.Ytcmanaklojomeaa
