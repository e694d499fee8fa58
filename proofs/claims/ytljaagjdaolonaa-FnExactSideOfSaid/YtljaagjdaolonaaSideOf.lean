/- The law FnExactSideOf returns true for every input: SideOf of the program and of the reference return the same. Conditions: none. -/
import Derived.Test.YtljaagjdaolonaaSides
namespace Go.Proofs.Ytljaagjdaolonaa
open Go.ChangeShapes Go.WideShapes Go.ChangeAt Go.RowKit
set_option linter.unusedVariables false
set_option maxRecDepth 100000
set_option maxHeartbeats 1600000 in
theorem law_FnExactSideOf (g0 : Nat → Int) (q0 : Nat → Bool) (w0 : ∀ i, In64 (g0 i)) (a1 : Int) (w1 : In64 a1) (a2 : Bool) (w : World) :
    Calls Try.prog 10 #[.agg (sdA g0 q0), .int .i64 a1, .bool a2] w fun e w' => e = .returned (.bool true) ∧ Below w.heap.size w w' := by
  go_enter Try.func10, Try.ntmps10
  go_wp2_with (first | (refine wpList_load_row rfl 34 _ rfl (w.heap.size) rfl 34 (sdA g0 q0) (0, 0) _ (by first | (with_reducible exact hbox1 _ _ _) | (with_reducible exact hbox2a _ _ _ _) | (with_reducible exact hbox2b _ _ _ _) | (refine (hb.block _ ?_).trans ?_ <;> first | (simp; done) | (with_reducible exact hbox1 _ _ _) | (with_reducible exact hbox2a _ _ _ _) | (with_reducible exact hbox2b _ _ _ _)) | (refine (Below.heap_alloc _ _ _ (by have hs := hb.size; simp at hs; omega)).trans ((hb.block _ ?_).trans ?_) <;> first | (simp; done) | (with_reducible exact hbox1 _ _ _))) Try.underlying34 rfl (sdA_info_w g0 q0) ?_) | (go_at_call 24; refine (toSides_A g0 q0 _).mono ?_; rintro e wt ⟨rfl, hb⟩; (try (have hq_wa := Nat.lt_of_lt_of_le (n := wa.heap.size) (by first | assumption | exact size_lt_alloc _ _ | exact size_lt_alloc' (by assumption) _) hb.size; have d_wa := fun o => hb.cell (p := ⟨wa.heap.size, o, none⟩) (by first | assumption | exact size_lt_alloc _ _ | exact size_lt_alloc' (by assumption) _))); (try (have hq_wb := Nat.lt_of_lt_of_le (n := wb.heap.size) (by first | assumption | exact size_lt_alloc _ _ | exact size_lt_alloc' (by assumption) _) hb.size; have d_wb := fun o => hb.cell (p := ⟨wb.heap.size, o, none⟩) (by first | assumption | exact size_lt_alloc _ _ | exact size_lt_alloc' (by assumption) _))); replace hb := bel_call (w := (w.alloc (.cells (sdA g0 q0) 34))) (by first | exact Below.refl _ _ | assumption | (refine bel_alloc ?_ _; assumption) | (refine bel_drewN ?_ _; assumption)) hb; obtain ⟨hc, hf⟩ := bcell hb) | (go_at_call 33; refine (sideOf_s g0 q0 _ _ _).mono ?_; rintro e wa ⟨rfl, hb⟩; replace hb := bel_call (w := (w.alloc (.cells (sdA g0 q0) 34))) (by first | exact Below.refl _ _ | assumption | (refine bel_alloc ?_ _; assumption) | (refine bel_drewN ?_ _; assumption)) hb; obtain ⟨hc, hf⟩ := bcell hb) | (go_at_call 34; refine (sideOf_i g0 q0 _ _ _).mono ?_; rintro e wb ⟨rfl, hb⟩; (try (have hq_wa := Nat.lt_of_lt_of_le (n := wa.heap.size) (by first | assumption | exact size_lt_alloc _ _ | exact size_lt_alloc' (by assumption) _) hb.size; have d_wa := fun o => hb.cell (p := ⟨wa.heap.size, o, none⟩) (by first | assumption | exact size_lt_alloc _ _ | exact size_lt_alloc' (by assumption) _))); replace hb := bel_call (w := (w.alloc (.cells (sdA g0 q0) 34))) (by first | exact Below.refl _ _ | assumption | (refine bel_alloc ?_ _; assumption) | (refine bel_drewN ?_ _; assumption)) hb; obtain ⟨hc, hf⟩ := bcell hb) | (go_at_call 35; refine (eqValue_l _ _ _).mono ?_; rintro e wt ⟨rfl, hb⟩; (try (have hq_wa := Nat.lt_of_lt_of_le (n := wa.heap.size) (by first | assumption | exact size_lt_alloc _ _ | exact size_lt_alloc' (by assumption) _) hb.size; have d_wa := fun o => hb.cell (p := ⟨wa.heap.size, o, none⟩) (by first | assumption | exact size_lt_alloc _ _ | exact size_lt_alloc' (by assumption) _))); (try (have hq_wb := Nat.lt_of_lt_of_le (n := wb.heap.size) (by first | assumption | exact size_lt_alloc _ _ | exact size_lt_alloc' (by assumption) _) hb.size; have d_wb := fun o => hb.cell (p := ⟨wb.heap.size, o, none⟩) (by first | assumption | exact size_lt_alloc _ _ | exact size_lt_alloc' (by assumption) _))); replace hb := bel_call (w := (w.alloc (.cells (sdA g0 q0) 34))) (by first | exact Below.refl _ _ | assumption | (refine bel_alloc ?_ _; assumption) | (refine bel_drewN ?_ _; assumption)) hb; obtain ⟨hc, hf⟩ := bcell hb))
  go_ret
  exact ⟨rfl, by (repeat (first | exact Below.refl _ _ | assumption | (refine bel_call ?_ (by assumption)) | (refine bel_alloc ?_ _) | (refine Below.drew ?_) | (refine bel_drewN ?_ _) | (refine Below.setCell ?_ (by first | exact Nat.le_refl _ | (simp; done) | (simp; omega)) _)))⟩
set_option maxRecDepth 100000 in
theorem FnExactSideOf_lifted (os : Os) (started : os.Started) (H : Type) (enc : TypeId × Value → H) :
    ReturnsInHanded {} Try.checked os 10 .any (Rows.fnExactSideOfSpec.pre6 enc Try.prog Try.f10 Rows.fnExactSideOfRow.domain false) (Rows.fnExactSideOfSpec.post enc Try.prog Try.f10 false true false false) := by
  refine returnsInHanded_of_change (C := Try.checked) own started (by kernel_rfl) Try.func10
    (ChangeSpec.witness6 (enc := enc) (C := Try.checked) false ⟨#[], #[.agg #[.int .i64 0, .int .i64 0, .int .i64 0, .int .i64 0, .int .i64 0, .int .i64 0, .int .i64 0, .int .i64 0, .int .i64 0, .int .i64 0, .int .i64 0, .int .i64 0], .int .i64 0, .bool false], []⟩ 8 (by kernel_rfl) (by kernel_rfl) (by kernel_rfl) (by kernel_rfl)) ?_
  intro W base args ds gs before hval0 hW hcnd _
  have hval : ∀ (j : Nat) t v, Try.f10.params[j]? = some t → args[j]? = some v → Value.okWide Try.prog W .any base t v := hval0
  have hW' := hW
  obtain ⟨p, q, hA0, hV, rfl, hfz, hnd⟩ := hW
  have hA : DataW.TrodAll enc Try.prog W 0 (fun _ => true) true Try.f10.params.toList args.toList ds p := hA0
  rw [Try.params10] at hA hval
  obtain ⟨v0, vs0, d0, ds0, p0, q0, hargs, rfl, rfl, h0, r0⟩ := trodAll_cons hA
  obtain ⟨v1, vs1, d1, ds1, p1, q1, rfl, rfl, rfl, h1, r1⟩ := trodAll_cons r0
  obtain ⟨v2, vs2, d2, ds2, p2, q2, rfl, rfl, rfl, h2, r2⟩ := trodAll_cons r1
  obtain ⟨rfl, rfl, rfl⟩ := trodAll_nil r2
  obtain rfl : args = #[v0, v1, v2] := by cases args; simp_all
  obtain ⟨rfl, rfl⟩ := trodVars_none hV
  have k0 := h0
  have lt0 : ∀ x ∈ p0, x.block < W.heap.size := by obtain ⟨m, hm⟩ := k0; exact DataW.trod_lt m _ _ _ hm
  have k1 := h1
  have lt1 : ∀ x ∈ p1, x.block < W.heap.size := by obtain ⟨m, hm⟩ := k1; exact DataW.trod_lt m _ _ _ hm
  have k2 := h2
  have lt2 : ∀ x ∈ p2, x.block < W.heap.size := by obtain ⟨m, hm⟩ := k2; exact DataW.trod_lt m _ _ _ hm
  obtain ⟨g0, q0, rfl, w0⟩ := open_leaves (ts := tsSides) ksSides Try.underlying34 (by kernel_rfl) (by kernel_rfl) (by kernel_rfl) (hval 0 34 v0 rfl rfl)
  obtain ⟨a1, rfl, w1⟩ := val_int Try.underlying3 (hval 1 3 v1 rfl rfl)
  obtain ⟨a2, rfl⟩ := val_bool Try.underlying4 (hval 2 4 v2 rfl rfl)
  clear hA0 hval0
  refine (law_FnExactSideOf g0 q0 w0 a1 w1 a2 W).mono fun e W' ⟨he, bel⟩ => ?_
  subst he
  exact ⟨_, rfl, _, _, _, [], _, [], hW', trodAll_mk1 (shut_bool Try.underlying4 _), (trodAll_cons_mk (Below.trod laidOut (by kernel_rfl) (of_decide_eq_true (by kernel_rfl)) k0 bel lt0) (trodAll_cons_mk (Below.trod laidOut (by kernel_rfl) (of_decide_eq_true (by kernel_rfl)) k1 bel lt1) (trodAll_cons_mk (Below.trod laidOut (by kernel_rfl) (of_decide_eq_true (by kernel_rfl)) k2 bel lt2) trodAll_mk0))), rfl, bel.frame _, fun h => by cases h⟩

/-- The law 'FnExactSideOf' returns true for every input, and each argument reads afterwards as it read before. -/
theorem FnExactSideOf_holds : Rows.FnExactSideOfSaid :=
  OpenClaim.holds_of_wide 10 Try.f10 rfl rfl rfl rfl rfl rfl rfl ⟨rfl, rfl, rfl, rfl, rfl⟩ rfl rfl rfl rfl rfl (by kernel_rfl) Try.func10 (by kernel_rfl)
    (of_decide_eq_true (by kernel_rfl)) (by unfold Func.isWrapper; first | (rw [if_pos (by decide +kernel)]; kernel_rfl) | (rw [if_neg (by decide +kernel)]; exact ⟨rfl, rfl⟩))
    (fun os started H enc _ => FnExactSideOf_lifted os started H enc)
#print axioms FnExactSideOf_holds


end Go.Proofs.Ytljaagjdaolonaa
