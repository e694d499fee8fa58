/- The law FnExactStyleNew returns true for every input: StyleNew of the program and of the reference return the same. Conditions: none. -/
import Derived.Test.YtkjipijbfblffaaStyEq
import Derived.Test.YtkjipijbfblffaaNewB
namespace Go.Proofs.Ytkjipijbfblffaa
open Go.ChangeShapes Go.WideShapes Go.ChangeAt Go.RowKit
set_option linter.unusedVariables false
set_option maxRecDepth 100000
set_option maxHeartbeats 1600000 in
theorem law_FnExactStyleNew (w : World) :
    Calls Try.prog 11 #[] w fun e w' => e = .returned (.bool true) ∧ Below w.heap.size w w' := by
  go_enter Try.func11, Try.ntmps11
  go_wp2_with (first | (refine wpList_load_row rfl 36 _ rfl (wb.heap.size) rfl 36 (syA newG newQ) (0, 0) _ (hbox1 _ _ _) Try.underlying36 rfl (syA_info_v _ _) ?_) | (refine wpList_load_row rfl 36 _ rfl (wa.heap.size) rfl 36 (syA newG newQ) (0, 0) _ ((Below.heap_alloc _ _ _ hq_wa).trans hB_wa) Try.underlying36 rfl (syA_info_v _ _) ?_) | (refine wpList_store_new rfl 36 _ _ rfl (syA newG newQ) rfl rfl (syA_info_v _ _) (syA_one _ _) (by rw [syA_size]; rfl) ?_) | (go_at_call 32; refine (styleNew_s _).mono ?_; rintro e wa ⟨rfl, hb⟩) | (go_at_call 33; refine (styleNew_i _).mono ?_; rintro e wb ⟨rfl, hb⟩; (try (have hq_wa := Nat.lt_of_lt_of_le (n := wa.heap.size) (by first | assumption | exact size_lt_alloc _ _ | exact size_lt_alloc' (by assumption) _) hb.size; have hB_wa := (hb.block wa.heap.size (by first | assumption | exact size_lt_alloc _ _)).trans (by first | assumption | exact hbox1 _ _ _)))) | (go_at_call 34; refine (eqStyle_l newG newQ _).mono ?_; rintro e wc ⟨rfl, hb⟩))
  go_ret
  exact ⟨rfl, by (repeat (first | exact Below.refl _ _ | assumption | (refine bel_call ?_ (by assumption)) | (refine bel_alloc ?_ _) | (refine Below.drew ?_) | (refine bel_drewN ?_ _) | (refine Below.setCell ?_ (by first | exact Nat.le_refl _ | (simp; done) | (simp; omega)) _)))⟩
set_option maxRecDepth 100000 in
theorem FnExactStyleNew_lifted (os : Os) (started : os.Started) (H : Type) (enc : TypeId × Value → H) :
    ReturnsInHanded {} Try.checked os 11 .any (Rows.fnExactStyleNewSpec.pre6 enc Try.prog Try.f11 Rows.fnExactStyleNewRow.domain false) (Rows.fnExactStyleNewSpec.post enc Try.prog Try.f11 false true false false) := by
  refine returnsInHanded_of_change (C := Try.checked) own started (by kernel_rfl) Try.func11
    (ChangeSpec.witness6 (enc := enc) (C := Try.checked) false ⟨#[], #[], []⟩ 8 (by kernel_rfl) (by kernel_rfl) (by kernel_rfl) (by kernel_rfl)) ?_
  intro W base args ds gs before hval0 hW hcnd _
  have hval : ∀ (j : Nat) t v, Try.f11.params[j]? = some t → args[j]? = some v → Value.okWide Try.prog W .any base t v := hval0
  have hW' := hW
  obtain ⟨p, q, hA0, hV, rfl, hfz, hnd⟩ := hW
  have hA : DataW.TrodAll enc Try.prog W 0 (fun _ => true) true Try.f11.params.toList args.toList ds p := hA0
  rw [Try.params11] at hA hval
  obtain ⟨rfl, rfl, rfl⟩ := trodAll_none hA
  obtain ⟨rfl, rfl⟩ := trodVars_none hV
  clear hA0 hval0
  refine (law_FnExactStyleNew  W).mono fun e W' ⟨he, bel⟩ => ?_
  subst he
  exact ⟨_, rfl, _, _, _, [], _, [], hW', trodAll_mk1 (shut_bool Try.underlying4 _), trodAll_mk0, rfl, bel.frame _, fun h => by cases h⟩

/-- The law 'FnExactStyleNew' returns true for every input, and each argument reads afterwards as it read before. -/
theorem FnExactStyleNew_holds : Rows.FnExactStyleNewSaid :=
  OpenClaim.holds_of_wide 11 Try.f11 rfl rfl rfl rfl rfl rfl rfl ⟨rfl, rfl, rfl, rfl, rfl⟩ rfl rfl rfl rfl rfl (by kernel_rfl) Try.func11 (by kernel_rfl)
    (of_decide_eq_true (by kernel_rfl)) (by unfold Func.isWrapper; first | (rw [if_pos (by decide +kernel)]; kernel_rfl) | (rw [if_neg (by decide +kernel)]; exact ⟨rfl, rfl⟩))
    (fun os started H enc _ => FnExactStyleNew_lifted os started H enc)
#print axioms FnExactStyleNew_holds

end Go.Proofs.Ytkjipijbfblffaa
