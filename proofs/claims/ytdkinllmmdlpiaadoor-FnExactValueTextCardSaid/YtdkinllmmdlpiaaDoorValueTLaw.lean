/- The law FnExactValueText returns true for every input: ValueText of the program and of the reference return the same. Condition: the library's tables hold what the program's text lays (the card ties them). -/
import Derived.Test.YtdkinllmmdlpiaaDoorValueT
namespace Go.Proofs.YtdkinllmmdlpiaaDoor
open Go.ChangeShapes Go.WideShapes Go.ChangeAt Go.WideMaps Go.WideElems Go.RowKit
set_option linter.unusedVariables false
set_option maxHeartbeats 1600000 in
theorem law_FnExactValueText (g : Nat → Int) (hg : ∀ i, In64 (g i)) (w : World) (hT : Pow10 w) :
    Calls Tryd.prog 5 #[.agg #[.int .i64 (g 0), .int .i64 (g 1)]] w fun e w' => e = .returned (.bool true) ∧ Below w.heap.size w w' := by
  have HT := Lib.hid hT
  have HG := Lib.hid hg
  clear hT hg
  go_enter Tryd.func5, Tryd.ntmps5
  go_wp2_with fail
  refine (toValue_l (g 0) (g 1) _).mono ?_
  rintro e w1 ⟨rfl, hb⟩
  have B1 := Lib.hid (bel_call (bel_alloc (Below.refl _ _) _) hb)
  have Z1 : Hid (w.heap.size < w1.heap.size) := Lib.hid (Nat.lt_of_lt_of_le (by simp) hb.size)
  have c0 : w1.cell? ⟨w.heap.size, 0, none⟩ = some (.int .i64 (g 0)) := (hb.cell (p := ⟨w.heap.size, 0, none⟩) (by simp)).trans (by rw [Joins.cell_of_block (heap_alloc_new _ _)]; rfl)
  have c1 : w1.cell? ⟨w.heap.size, 1, none⟩ = some (.int .i64 (g 1)) := (hb.cell (p := ⟨w.heap.size, 1, none⟩) (by simp)).trans (by rw [Joins.cell_of_block (heap_alloc_new _ _)]; rfl)
  clear hb
  go_wp2_with fail
  refine (valueText_s (g 0) (g 1) (HG.out 1) _).mono ?_
  rintro e w2 ⟨rfl, hb⟩
  have B2 := Lib.hid (bel_call B1.out hb)
  have d0 := (hb.cell (p := ⟨w.heap.size, 0, none⟩) Z1.out).trans c0
  have d1 := (hb.cell (p := ⟨w.heap.size, 1, none⟩) Z1.out).trans c1
  clear hb c0 c1
  go_wp2_with fail
  refine (toValue_l (g 0) (g 1) _).mono ?_
  rintro e w3 ⟨rfl, hb⟩
  have B3 := Lib.hid (bel_call B2.out hb)
  clear hb
  go_wp2_with fail
  refine (valueText_i (g 0) (g 1) (HG.out 1) _ (HT.out.below B3.out)).mono ?_
  rintro e w4 ⟨rfl, hb⟩
  have B4 := Lib.hid (bel_call B3.out hb)
  clear hb
  go_wp2_with fail
  go_ret
  exact ⟨rfl, B4.out⟩
theorem FnExactValueText_door (os : Os) (args : Array Value) : laidMetH Tryd.prog Rows.fnExactValueTextRow.laid ((World.doorLaid Tryd.prog 62 os).forCall (fun _ _ => 0) ⟨#[], args, []⟩).memory :=
  laidMetH_of_parts3 (fuel := 8) (laidMet_of_run' 8 (by kernel_rfl) (by kernel_rfl)) (by kernel_rfl) (by kernel_rfl)
set_option maxRecDepth 100000 in
theorem FnExactValueText_lifted (os : Os) (started : os.Started) (H : Type) (enc : TypeId × Value → H) :
    ReturnsInHanded {} Tryd.checked os 5 .any (fun w args => (Rows.fnExactValueTextSpec.pre enc Tryd.prog Tryd.f5 [] false w args ∧ laidMetH Tryd.prog Rows.fnExactValueTextRow.laid w) ∧ sizedMet enc Tryd.prog Tryd.f5 (OpenSpec.ofChange Rows.fnExactValueTextSpec) false w args) (Rows.fnExactValueTextSpec.post enc Tryd.prog Tryd.f5 false true false false) := by
  refine returnsInHanded_of_change_and (C := Tryd.checked) (X := fun w _ => laidMetH Tryd.prog Rows.fnExactValueTextRow.laid w) (fun _ _ _ hh h => h.of_heap hh) own started (by kernel_rfl) Tryd.func5
    (ChangeSpec.witness_shaped (enc := enc) (C := Tryd.checked) (os := os) (X := fun w _ => laidMetH Tryd.prog Rows.fnExactValueTextRow.laid w) false (World.doorLaid Tryd.prog 62 os) #[.agg #[.int .i64 0, .int .i64 0]] 8 rfl (World.shaped_of_RefB (by kernel_rfl) (by kernel_rfl)) (by kernel_rfl) (by kernel_rfl) (by kernel_rfl) (FnExactValueText_door os _)) ?_
  intro W base args ds gs before hval0 hW _ _ hL0 _
  have hL := laid_plain3 hL0
  have hval : ∀ (j : Nat) t v, Tryd.f5.params[j]? = some t → args[j]? = some v → Value.okWide Tryd.prog W .any base t v := hval0
  have hW' := hW
  obtain ⟨p, q, hA0, hV, rfl, hfz, hnd⟩ := hW
  have hA : DataW.TrodAll enc Tryd.prog W 0 (fun _ => true) true Tryd.f5.params.toList args.toList ds p := hA0
  rw [Tryd.params5] at hA hval
  obtain ⟨v0, vs0, d0, ds0, p0, q0, hargs, rfl, rfl, h0, r0⟩ := trodAll_cons hA
  obtain ⟨rfl, rfl, rfl⟩ := trodAll_nil r0
  obtain rfl : args = #[v0] := by cases args; simp_all
  obtain ⟨rfl, rfl⟩ := trodVars_none hV
  have k0 := h0
  have lt0 : ∀ x ∈ p0, x.block < W.heap.size := by obtain ⟨m, hm⟩ := k0; exact DataW.trod_lt m _ _ _ hm
  obtain ⟨g0, q0, rfl, w0⟩ := open_leaves (ts := tsValue) [true, true] Tryd.underlying28 (by kernel_rfl) (by kernel_rfl) (by kernel_rfl) (hval 0 28 v0 rfl rfl)
  clear hA0 hval0
  refine (law_FnExactValueText g0 w0 W (pow3 hL)).mono fun e W' ⟨he, bel⟩ => ?_
  subst he
  exact ⟨_, rfl, _, _, _, [], _, [], hW', trodAll_mk1 (shut_bool Tryd.underlying4 _), (trodAll_cons_mk (Below.trod laidOut (by kernel_rfl) (of_decide_eq_true (by kernel_rfl)) k0 bel lt0) trodAll_mk0), rfl, bel.frame _, fun h => by cases h⟩

/-- The law 'FnExactValueText' returns true for every input, and each argument reads afterwards as it read before. -/
theorem FnExactValueText_row : Rows.FnExactValueTextSaid :=
  OpenClaim.holds_of_wide 5 Tryd.f5 rfl rfl rfl rfl rfl rfl rfl ⟨rfl, rfl, rfl, rfl, rfl⟩ rfl rfl rfl rfl rfl (by kernel_rfl) Tryd.func5 (by kernel_rfl)
    (of_decide_eq_true (by kernel_rfl)) (by unfold Func.isWrapper; first | (rw [if_pos (by decide +kernel)]; kernel_rfl) | (rw [if_neg (by decide +kernel)]; exact ⟨rfl, rfl⟩))
    (fun os started H enc _ => FnExactValueText_lifted os started H enc)
/-- The tied card of the law. -/
theorem FnExactValueText_holds : Rows.FnExactValueTextCardSaid :=
  Claim7.holds_tied_plain_at .later [] [.data, .data, .data] true (true, "3c23225ef822164df6447e70027ca7ed50a225710e4b9b3feeb43429bc70ec90") true
    FnExactValueText_row (fun _ h => by cases h) (by kernel_rfl) (fun _ h => by cases h) fnExactValueText_row_tie rfl ⟨rfl, rfl⟩ (by kernel_rfl) rfl
    (fun f fn hf hfn => by
      obtain rfl : f = 5 := Option.some.inj ((show Tryd.prog.funcNamed "loop.example/g00972/laws.FnExactValueText" = some 5 by kernel_rfl).symm.trans hf) |>.symm
      obtain rfl : fn = Tryd.f5 := (Option.some.inj (Tryd.func5.symm.trans hfn)).symm
      exact ⟨by kernel_rfl, fun j t ht => by
        rw [Tryd.params5] at ht
        have hm : t ∈ Tryd.f5.params.toList := by rw [Tryd.params5]; simpa using Array.mem_of_getElem? ht
        have hall : (Tryd.f5.params.toList.all fun u => !Tryd.prog.wantsStandIn u) = true := by kernel_rfl
        exact (show Tryd.prog.wantsStandIn t = false by simpa using List.all_eq_true.1 hall t hm)⟩)
    (by kernel_rfl)
#print axioms FnExactValueText_holds

end Go.Proofs.YtdkinllmmdlpiaaDoor
