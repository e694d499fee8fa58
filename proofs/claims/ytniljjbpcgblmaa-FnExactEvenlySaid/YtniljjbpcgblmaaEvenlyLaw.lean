/- The law FnExactEvenly returns true for every input: Evenly of the program and of the reference return the same, the arguments read as they did, and the result shares no memory. Conditions: none. -/
import Derived.Test.YtniljjbpcgblmaaEvenly
import Derived.Test.YtniljjbpcgblmaaMarks
namespace Go.Proofs.Ytniljjbpcgblmaa
open Go.ChangeShapes Go.WideShapes Go.ChangeAt Go.RowKit
set_option linter.unusedVariables false
set_option maxHeartbeats 6400000 in
theorem law_FnExactEvenly (n0 : Int) (u0 : In64 n0) (n1 : Int) (u1 : In64 n1) (w : World) :
    Calls Try.prog 7 #[.int .i64 n0, .int .i64 n1] w fun e w' => e = .returned (.bool true) ∧ Below w.heap.size w w' := by
  have hsl := evenlyOf_len n0 n1
  have HD : Hid (∃ s, s = evenlyOf n0 n1) := ⟨_, rfl⟩
  obtain ⟨s, hs⟩ := HD.out
  clear HD
  rw [← hs] at hsl
  have HS := Lib.hid hs
  clear hs u0 u1
  go_enter Try.func7, Try.ntmps7
  go_wp2_with fail
  refine (evenly_s n0 n1 _).mono ?_
  rintro e w1 ⟨v, rfl, ho⟩
  rw [← HS.out] at ho
  have B1 := Lib.hid ho.bel
  have Z1 := Lib.hid (ho.bel).size
  obtain ⟨a1, c1, rfl, ho'⟩ := Sl.of_ow ho
  have W1 := Lib.hid ho'
  clear ho ho'
  go_wp2_with fail
  refine (evenly_i n0 n1 _).mono ?_
  rintro e w2 ⟨v, rfl, ho⟩
  rw [← HS.out] at ho
  have B2 := Lib.hid (bel_call B1.out ho.bel)
  have Z2 := Lib.hid (ho.bel).size
  have W2 := Lib.hid (W1.out.below ho.bel)
  clear W1
  obtain ⟨a2, c2, rfl, ho'⟩ := Sl.of_ow ho
  have G2 := Lib.hid ho'
  clear ho ho'
  go_wp2_with fail
  have m0 : (0 : Int) ≤ ↑s.length := by omega
  have m1 : ¬ (1 + (s.length : Int) < 0) := by omega
  refine (eqIntSR_l s _ _ _ _ hsl _ G2.out.rd W2.out.rd).mono ?_
  rintro e w3 ⟨rfl, hb⟩
  have B3 := Lib.hid (bel_call B2.out hb)
  have Z3 := Lib.hid (hb).size
  have W3 := Lib.hid (W2.out.below hb)
  clear W2
  have G3 := Lib.hid (G2.out.below hb)
  clear G2
  clear hb
  go_wp2_with fail
  refine (markIntS_l _ _ s _ _ 1 (by decide) (by decide) hsl _ G3.out).mono ?_
  rintro e w4 ⟨rfl, hc, hg⟩
  have B4 := Lib.hid (hc.bel B3.out Z1.out)
  have Z4 : Hid (w3.heap.size ≤ w4.heap.size) := Lib.hid (by rw [hc.size]; exact Nat.le_refl _)
  have W4 := Lib.hid (W3.out.chg hc (Or.inl (Nat.le_refl _)))
  clear W3
  clear G3
  have G4 := Lib.hid hg
  clear hc hg
  go_wp2_with fail
  refine (heldIntS_l s.length _ _ 1 (by decide) (by decide) hsl _ G4.out.rd).mono ?_
  rintro e _ ⟨rfl, rfl⟩
  go_wp2_with fail
  refine (evenly_i n0 n1 _).mono ?_
  rintro e w5 ⟨v, rfl, ho⟩
  rw [← HS.out] at ho
  have B5 := Lib.hid (bel_call B4.out ho.bel)
  have Z5 := Lib.hid (ho.bel).size
  have W5 := Lib.hid (W4.out.below ho.bel)
  clear W4
  have G5 := Lib.hid (G4.out.below ho.bel)
  clear G4
  obtain ⟨a5, c5, rfl, ho'⟩ := Sl.of_ow ho
  have H5 := Lib.hid ho'
  clear ho ho'
  go_wp2_with fail
  refine (eqIntSR_l s _ _ _ _ hsl _ H5.out.rd W5.out.rd).mono ?_
  rintro e w6 ⟨rfl, hb⟩
  have B6 := Lib.hid (bel_call B5.out hb)
  have Z6 := Lib.hid (hb).size
  have W6 := Lib.hid (W5.out.below hb)
  clear W5
  have G6 := Lib.hid (G5.out.below hb)
  clear G5
  have H6 := Lib.hid (H5.out.below hb)
  clear H5
  clear hb
  go_wp2_with fail
  refine (heldIntS_l s.length _ _ 1 (by decide) (by decide) hsl _ G6.out.rd).mono ?_
  rintro e _ ⟨rfl, rfl⟩
  go_wp2_with fail
  go_ret
  exact ⟨rfl, B6.out⟩
set_option maxRecDepth 100000 in
theorem FnExactEvenly_lifted (os : Os) (started : os.Started) (H : Type) (enc : TypeId × Value → H) :
    ReturnsInHanded {} Try.checked os 7 .any (Rows.fnExactEvenlySpec.pre6 enc Try.prog Try.f7 Rows.fnExactEvenlyRow.domain false) (Rows.fnExactEvenlySpec.post enc Try.prog Try.f7 false true false false) := by
  refine returnsInHanded_of_change (C := Try.checked) own started (by kernel_rfl) Try.func7
    (ChangeSpec.witness6 (enc := enc) (C := Try.checked) false ⟨#[], #[.int .i64 0, .int .i64 0], []⟩ 8 (by kernel_rfl) (by kernel_rfl) (by kernel_rfl) (by kernel_rfl)) ?_
  intro W base args ds gs before hval0 hW hcnd _
  have hval : ∀ (j : Nat) t v, Try.f7.params[j]? = some t → args[j]? = some v → Value.okWide Try.prog W .any base t v := hval0
  have hW' := hW
  obtain ⟨p, q, hA0, hV, rfl, hfz, hnd⟩ := hW
  have hA : DataW.TrodAll enc Try.prog W 0 (fun _ => true) true Try.f7.params.toList args.toList ds p := hA0
  rw [Try.params7] at hA hval
  obtain ⟨v0, vs0, d0, ds0, p0, q0, hargs, rfl, rfl, h0, r0⟩ := trodAll_cons hA
  obtain ⟨v1, vs1, d1, ds1, p1, q1, rfl, rfl, rfl, h1, r1⟩ := trodAll_cons r0
  obtain ⟨rfl, rfl, rfl⟩ := trodAll_nil r1
  obtain rfl : args = #[v0, v1] := by cases args; simp_all
  obtain ⟨rfl, rfl⟩ := trodVars_none hV
  have k0 := h0
  have lt0 : ∀ x ∈ p0, x.block < W.heap.size := by obtain ⟨m, hm⟩ := k0; exact DataW.trod_lt m _ _ _ hm
  have k1 := h1
  have lt1 : ∀ x ∈ p1, x.block < W.heap.size := by obtain ⟨m, hm⟩ := k1; exact DataW.trod_lt m _ _ _ hm
  obtain ⟨a0, rfl, w0⟩ := val_int Try.underlying3 (hval 0 3 v0 rfl rfl)
  obtain ⟨a1, rfl, w1⟩ := val_int Try.underlying3 (hval 1 3 v1 rfl rfl)
  clear hA0 hval0
  refine (law_FnExactEvenly a0 w0 a1 w1 W).mono fun e W' ⟨he, bel⟩ => ?_
  subst he
  exact ⟨_, rfl, _, _, _, [], _, [], hW', trodAll_mk1 (shut_bool Try.underlying4 _), (trodAll_cons_mk (Below.trod laidOut (by kernel_rfl) (of_decide_eq_true (by kernel_rfl)) k0 bel lt0) (trodAll_cons_mk (Below.trod laidOut (by kernel_rfl) (of_decide_eq_true (by kernel_rfl)) k1 bel lt1) trodAll_mk0)), rfl, bel.frame _, fun h => by cases h⟩

/-- The law 'FnExactEvenly' returns true for every input, and each argument reads afterwards as it read before. -/
theorem FnExactEvenly_holds : Rows.FnExactEvenlySaid :=
  OpenClaim.holds_of_wide 7 Try.f7 rfl rfl rfl rfl rfl rfl rfl ⟨rfl, rfl, rfl, rfl, rfl⟩ rfl rfl rfl rfl rfl (by kernel_rfl) Try.func7 (by kernel_rfl)
    (of_decide_eq_true (by kernel_rfl)) (by unfold Func.isWrapper; first | (rw [if_pos (by decide +kernel)]; kernel_rfl) | (rw [if_neg (by decide +kernel)]; exact ⟨rfl, rfl⟩))
    (fun os started H enc _ => FnExactEvenly_lifted os started H enc)
#print axioms FnExactEvenly_holds

end Go.Proofs.Ytniljjbpcgblmaa
