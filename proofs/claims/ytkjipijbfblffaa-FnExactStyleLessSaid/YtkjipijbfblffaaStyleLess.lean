/- The law FnExactStyleLess returns true for every input: StyleLess of the program and of the reference return the same. Conditions: none. -/
import Derived.Test.YtkjipijbfblffaaStyEq
import Derived.Test.YtkjipijbfblffaaNewB
namespace Go.Proofs.Ytkjipijbfblffaa
open Go.ChangeShapes Go.WideShapes Go.ChangeAt Go.RowKit
set_option linter.unusedVariables false
set_option maxRecDepth 100000
set_option maxHeartbeats 1600000 in
theorem law_FnExactStyleLess (g0 : Nat → Int) (q0 : Nat → Bool) (w0 : ∀ i, In64 (g0 i)) (w : World) :
    Calls Try.prog 12 #[.agg (syA g0 q0)] w fun e w' => e = .returned (.bool true) ∧ Below w.heap.size w w' := by
  go_enter Try.func12, Try.ntmps12
  go_wp2_with (first | (refine wpList_load_row rfl 29 _ rfl (w.heap.size) rfl 29 (syA g0 q0) (0, 0) _ (by first | (with_reducible exact hbox1 _ _ _) | (with_reducible exact hbox2a _ _ _ _) | (with_reducible exact hbox2b _ _ _ _) | (refine (hb.block _ ?_).trans ?_ <;> first | (simp; done) | (with_reducible exact hbox1 _ _ _) | (with_reducible exact hbox2a _ _ _ _) | (with_reducible exact hbox2b _ _ _ _)) | (refine (Below.heap_alloc _ _ _ (by have hs := hb.size; simp at hs; omega)).trans ((hb.block _ ?_).trans ?_) <;> first | (simp; done) | (with_reducible exact hbox1 _ _ _))) Try.underlying29 rfl (syA_info_w g0 q0) ?_) | (refine wpList_load_row rfl 36 _ rfl (wb.heap.size) rfl 36 (syA (lessG g0) newQ) (0, 0) _ (hbox1 _ _ _) Try.underlying36 rfl (syA_info_v _ _) ?_) | (refine wpList_load_row rfl 36 _ rfl (wa.heap.size) rfl 36 (syA (lessG g0) newQ) (0, 0) _ ((Below.heap_alloc _ _ _ hq_wa).trans hB_wa) Try.underlying36 rfl (syA_info_v _ _) ?_) | (refine wpList_store_new rfl 36 _ _ rfl (syA (lessG g0) newQ) rfl rfl (syA_info_v _ _) (syA_one _ _) (by rw [syA_size]; rfl) ?_) | (go_at_call 16; refine (toStyle_A g0 q0 _).mono ?_; rintro e wt ⟨rfl, hb⟩; (try (have hq_wa := Nat.lt_of_lt_of_le (n := wa.heap.size) (by first | assumption | exact size_lt_alloc _ _ | exact size_lt_alloc' (by assumption) _) hb.size; have hB_wa := (hb.block wa.heap.size (by first | assumption | exact size_lt_alloc _ _)).trans (by first | assumption | exact hbox1 _ _ _))); replace hb := bel_call (w := w.alloc (.cells (syA g0 q0) 29)) (by first | exact Below.refl _ _ | assumption | (refine bel_alloc ?_ _; assumption)) hb; obtain ⟨hc, hf⟩ := bcell hb) | (go_at_call 35; refine (styleLess_s g0 q0 _).mono ?_; rintro e wa ⟨rfl, hb⟩; replace hb := bel_call (w := w.alloc (.cells (syA g0 q0) 29)) (by first | exact Below.refl _ _ | assumption | (refine bel_alloc ?_ _; assumption)) hb; obtain ⟨hc, hf⟩ := bcell hb) | (go_at_call 36; refine (styleLess_i g0 q0 _).mono ?_; rintro e wb ⟨rfl, hb⟩; (try (have hq_wa := Nat.lt_of_lt_of_le (n := wa.heap.size) (by first | assumption | exact size_lt_alloc _ _ | exact size_lt_alloc' (by assumption) _) hb.size; have hB_wa := (hb.block wa.heap.size (by first | assumption | exact size_lt_alloc _ _)).trans (by first | assumption | exact hbox1 _ _ _))); replace hb := bel_call (w := w.alloc (.cells (syA g0 q0) 29)) (by first | exact Below.refl _ _ | assumption | (refine bel_alloc ?_ _; assumption)) hb; obtain ⟨hc, hf⟩ := bcell hb) | (go_at_call 34; refine (eqStyle_l (lessG g0) newQ _).mono ?_; rintro e wc ⟨rfl, hb⟩))
  go_ret
  exact ⟨rfl, by (repeat (first | exact Below.refl _ _ | assumption | (refine bel_call ?_ (by assumption)) | (refine bel_alloc ?_ _) | (refine Below.drew ?_) | (refine bel_drewN ?_ _) | (refine Below.setCell ?_ (by first | exact Nat.le_refl _ | (simp; done) | (simp; omega)) _)))⟩
set_option maxRecDepth 100000 in
theorem FnExactStyleLess_lifted (os : Os) (started : os.Started) (H : Type) (enc : TypeId × Value → H) :
    ReturnsInHanded {} Try.checked os 12 .any (Rows.fnExactStyleLessSpec.pre6 enc Try.prog Try.f12 Rows.fnExactStyleLessRow.domain false) (Rows.fnExactStyleLessSpec.post enc Try.prog Try.f12 false true false false) := by
  refine returnsInHanded_of_change (C := Try.checked) own started (by kernel_rfl) Try.func12
    (ChangeSpec.witness6 (enc := enc) (C := Try.checked) false ⟨#[], #[.agg #[.int .i64 0, .int .i64 0, .int .i64 0, .int .i64 0, .int .i64 0, .int .i64 0, .bool false, .bool false, .int .i64 0, .int .i64 0, .int .i64 0, .int .i64 0, .int .i64 0, .int .i64 0, .int .i64 0, .int .i64 0, .int .i64 0, .int .i64 0, .int .i64 0, .int .i64 0, .int .i64 0, .int .i64 0, .int .i64 0, .int .i64 0, .int .i64 0, .int .i64 0, .int .i64 0, .int .i64 0, .int .i64 0, .int .i64 0, .int .i64 0, .int .i64 0, .int .i64 0, .int .i64 0, .int .i64 0, .int .i64 0, .int .i64 0, .int .i64 0, .int .i64 0, .int .i64 0, .int .i64 0, .int .i64 0, .int .i64 0, .int .i64 0, .int .i64 0, .int .i64 0, .int .i64 0, .int .i64 0, .int .i64 0, .int .i64 0, .int .i64 0, .int .i64 0, .int .i64 0, .int .i64 0, .int .i64 0, .int .i64 0, .int .i64 0, .int .i64 0, .int .i64 0, .int .i64 0]], []⟩ 8 (by kernel_rfl) (by kernel_rfl) (by kernel_rfl) (by kernel_rfl)) ?_
  intro W base args ds gs before hval0 hW hcnd _
  have hval : ∀ (j : Nat) t v, Try.f12.params[j]? = some t → args[j]? = some v → Value.okWide Try.prog W .any base t v := hval0
  have hW' := hW
  obtain ⟨p, q, hA0, hV, rfl, hfz, hnd⟩ := hW
  have hA : DataW.TrodAll enc Try.prog W 0 (fun _ => true) true Try.f12.params.toList args.toList ds p := hA0
  rw [Try.params12] at hA hval
  obtain ⟨v0, vs0, d0, ds0, p0, q0, hargs, rfl, rfl, h0, r0⟩ := trodAll_cons hA
  obtain ⟨rfl, rfl, rfl⟩ := trodAll_nil r0
  obtain rfl : args = #[v0] := by cases args; simp_all
  obtain ⟨rfl, rfl⟩ := trodVars_none hV
  have k0 := h0
  have lt0 : ∀ x ∈ p0, x.block < W.heap.size := by obtain ⟨m, hm⟩ := k0; exact DataW.trod_lt m _ _ _ hm
  obtain ⟨g0, q0, rfl, w0⟩ := open_leaves (ts := tsStyle) ksStyle Try.underlying29 (by kernel_rfl) (by kernel_rfl) (by kernel_rfl) (hval 0 29 v0 rfl rfl)
  clear hA0 hval0
  refine (law_FnExactStyleLess g0 q0 w0 W).mono fun e W' ⟨he, bel⟩ => ?_
  subst he
  exact ⟨_, rfl, _, _, _, [], _, [], hW', trodAll_mk1 (shut_bool Try.underlying4 _), (trodAll_cons_mk (Below.trod laidOut (by kernel_rfl) (of_decide_eq_true (by kernel_rfl)) k0 bel lt0) trodAll_mk0), rfl, bel.frame _, fun h => by cases h⟩

/-- The law 'FnExactStyleLess' returns true for every input, and each argument reads afterwards as it read before. -/
theorem FnExactStyleLess_holds : Rows.FnExactStyleLessSaid :=
  OpenClaim.holds_of_wide 12 Try.f12 rfl rfl rfl rfl rfl rfl rfl ⟨rfl, rfl, rfl, rfl, rfl⟩ rfl rfl rfl rfl rfl (by kernel_rfl) Try.func12 (by kernel_rfl)
    (of_decide_eq_true (by kernel_rfl)) (by unfold Func.isWrapper; first | (rw [if_pos (by decide +kernel)]; kernel_rfl) | (rw [if_neg (by decide +kernel)]; exact ⟨rfl, rfl⟩))
    (fun os started H enc _ => FnExactStyleLess_lifted os started H enc)
#print axioms FnExactStyleLess_holds

end Go.Proofs.Ytkjipijbfblffaa
