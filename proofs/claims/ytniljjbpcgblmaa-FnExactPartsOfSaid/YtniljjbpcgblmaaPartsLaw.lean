/- The law FnExactPartsOf returns true for every input: PartsOf of the program and of the reference return the same, and the result shares no memory. Conditions: none. -/
import Derived.Test.YtniljjbpcgblmaaParts
namespace Go.Proofs.Ytniljjbpcgblmaa
open Go.ChangeShapes Go.WideShapes Go.ChangeAt Go.RowKit Go.Deep
open Go.ChangeMaps (open_string shut_string)
set_option linter.unusedVariables false
set_option maxHeartbeats 3200000 in
theorem law_FnExactPartsOf (s : ByteArray) (hs : s.size ≤ 9223372036854775807) (w : World) :
    Calls Try.prog 9 #[.string s] w fun e w' => e = .returned (.bool true) ∧ Below w.heap.size w w' := by
  by_cases h : s.size ≤ 1048576
  · have hbig : ¬ (1048576 : Int) < ↑s.size := by omega
    have hl0 := partsR_len s
    have HD : Hid (∃ l b, l = partsR s ∧ b = partsB s) := ⟨_, _, rfl, rfl⟩
    obtain ⟨l, b, hl, hb⟩ := HD.out
    clear HD
    rw [← hl] at hl0
    have HL := Lib.hid hl
    have HB := Lib.hid hb
    have h1 : l.length ≤ 1048576 := by omega
    have n1 : ¬ ((1 : Int) + (l.length : Int) < 0) := by omega
    clear hl hb hl0
    go_enter Try.func9, Try.ntmps9
    go_wp2_with fail
    refine (partsOf_s s h _).mono ?_
    rintro e w1 ⟨v, rfl, ho⟩
    rw [← HL.out] at ho
    have B1 := Lib.hid ho.bel
    have Z1 := Lib.hid (ho.bel).size
    obtain ⟨a1, c1, rfl, hw⟩ := Ss.of_ot ho
    rw [← HB.out]
    have W1 := Lib.hid hw
    clear ho hw
    go_wp2_with fail
    refine (partsOf_i s h _).mono ?_
    rintro e w2 ⟨v, rfl, ho⟩
    rw [← HL.out] at ho
    have B2 := Lib.hid (bel_call B1.out ho.bel)
    have Z2 := Lib.hid (ho.bel).size
    have W2 := Lib.hid (W1.out.below ho.bel)
    clear W1
    obtain ⟨a2, c2, rfl, hg⟩ := Ss.of_ot ho
    rw [← HB.out]
    have G2 := Lib.hid hg
    clear ho hg
    go_wp2_with fail
    refine (eqStringSR_l l _ _ _ _ h1 _ G2.out.rd W2.out.rd).mono ?_
    rintro e w3 ⟨rfl, hb⟩
    have B3 := Lib.hid (bel_call B2.out hb)
    have Z3 := Lib.hid hb.size
    have W3 := Lib.hid (W2.out.below hb)
    have G3 := Lib.hid (G2.out.below hb)
    clear W2 G2 hb
    go_wp2_with fail
    refine (markStringS_l _ _ l _ _ 1 (by decide) (by decide) h1 _ G3.out).mono ?_
    rintro e w4 ⟨rfl, hc, hg⟩
    have B4 := Lib.hid (hc.bel B3.out Z1.out (Nat.le_trans Z1.out (Nat.le_trans Z2.out Z3.out)))
    have W4 := Lib.hid (W3.out.chg hc (Or.inl (Nat.le_refl _)))
    have G4 := Lib.hid hg
    clear W3 G3 hc hg
    go_wp2_with fail
    refine (heldStringS_l l.length _ _ 1 (by decide) (by decide) h1 _ G4.out.rd).mono ?_
    rintro e w5 ⟨rfl, hb⟩
    have B5 := Lib.hid (bel_call B4.out hb)
    have W5 := Lib.hid (W4.out.below hb)
    have G5 := Lib.hid (G4.out.below hb)
    clear W4 G4 hb
    go_wp2_with fail
    refine (partsOf_i s h _).mono ?_
    rintro e w6 ⟨v, rfl, ho⟩
    rw [← HL.out] at ho
    have B6 := Lib.hid (bel_call B5.out ho.bel)
    have W6 := Lib.hid (W5.out.below ho.bel)
    have G6 := Lib.hid (G5.out.below ho.bel)
    clear W5 G5
    obtain ⟨a6, c6, rfl, hh⟩ := Ss.of_ot ho
    rw [← HB.out]
    have H6 := Lib.hid hh
    clear ho hh
    go_wp2_with fail
    refine (eqStringSR_l l _ _ _ _ h1 _ H6.out.rd W6.out.rd).mono ?_
    rintro e w7 ⟨rfl, hb⟩
    have B7 := Lib.hid (bel_call B6.out hb)
    have G7 := Lib.hid (G6.out.below hb)
    clear W6 G6 H6 hb
    go_wp2_with fail
    refine (heldStringS_l l.length _ _ 1 (by decide) (by decide) h1 _ G7.out.rd).mono ?_
    rintro e w8 ⟨rfl, hb⟩
    have B8 := Lib.hid (bel_call B7.out hb)
    clear hb
    go_wp2_with fail
    go_ret
    exact ⟨rfl, B8.out⟩
  · have hbig : (1048576 : Int) < ↑s.size := by omega
    go_enter Try.func9, Try.ntmps9
    go_wp2_with fail
    go_ret
    exact ⟨rfl, Below.refl _ _⟩
set_option maxRecDepth 100000 in
theorem FnExactPartsOf_lifted (os : Os) (started : os.Started) (H : Type) (enc : TypeId × Value → H) :
    ReturnsInHanded {} Try.checked os 9 .any (Rows.fnExactPartsOfSpec.pre6 enc Try.prog Try.f9 Rows.fnExactPartsOfRow.domain false) (Rows.fnExactPartsOfSpec.post enc Try.prog Try.f9 false true false false) := by
  refine returnsInHanded_of_change (C := Try.checked) own started (by kernel_rfl) Try.func9
    (ChangeSpec.witness6 (enc := enc) (C := Try.checked) false ⟨#[], #[.string ByteArray.empty], []⟩ 8 (by kernel_rfl) (by kernel_rfl) (by kernel_rfl) (by kernel_rfl)) ?_
  intro W base args ds gs before hval0 hW hcnd _
  have hval : ∀ (j : Nat) t v, Try.f9.params[j]? = some t → args[j]? = some v → Value.okWide Try.prog W .any base t v := hval0
  have hW' := hW
  obtain ⟨p, q, hA0, hV, rfl, hfz, hnd⟩ := hW
  have hA : DataW.TrodAll enc Try.prog W 0 (fun _ => true) true Try.f9.params.toList args.toList ds p := hA0
  rw [Try.params9] at hA hval
  obtain ⟨v0, vs0, d0, ds0, p0, q0, hargs, rfl, rfl, h0, r0⟩ := trodAll_cons hA
  obtain ⟨rfl, rfl, rfl⟩ := trodAll_nil r0
  obtain rfl : args = #[v0] := by cases args; simp_all
  obtain ⟨rfl, rfl⟩ := trodVars_none hV
  have k0 := h0
  have lt0 : ∀ x ∈ p0, x.block < W.heap.size := by obtain ⟨m, hm⟩ := k0; exact DataW.trod_lt m _ _ _ hm
  obtain ⟨a0, rfl, w0⟩ := val_string Try.underlying9 (hval 0 9 v0 rfl rfl)
  clear hA0 hval0
  refine (law_FnExactPartsOf a0 w0 W).mono fun e W' ⟨he, bel⟩ => ?_
  subst he
  exact ⟨_, rfl, _, _, _, [], _, [], hW', trodAll_mk1 (shut_bool Try.underlying4 _), (trodAll_cons_mk (Below.trod laidOut (by kernel_rfl) (of_decide_eq_true (by kernel_rfl)) k0 bel lt0) trodAll_mk0), rfl, bel.frame _, fun h => by cases h⟩

/-- The law 'FnExactPartsOf' returns true for every input, and each argument reads afterwards as it read before. -/
theorem FnExactPartsOf_holds : Rows.FnExactPartsOfSaid :=
  OpenClaim.holds_of_wide 9 Try.f9 rfl rfl rfl rfl rfl rfl rfl ⟨rfl, rfl, rfl, rfl, rfl⟩ rfl rfl rfl rfl rfl (by kernel_rfl) Try.func9 (by kernel_rfl)
    (of_decide_eq_true (by kernel_rfl)) (by unfold Func.isWrapper; first | (rw [if_pos (by decide +kernel)]; kernel_rfl) | (rw [if_neg (by decide +kernel)]; exact ⟨rfl, rfl⟩))
    (fun os started H enc _ => FnExactPartsOf_lifted os started H enc)
#print axioms FnExactPartsOf_holds

end Go.Proofs.Ytniljjbpcgblmaa
