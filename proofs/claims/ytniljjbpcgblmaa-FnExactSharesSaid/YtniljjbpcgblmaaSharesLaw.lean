/- The law FnExactShares returns true for every input: Shares of the program and of the reference return the same, the argument reads as it did, and the result shares no memory. Conditions: none. -/
import Derived.Test.YtniljjbpcgblmaaShares
import Derived.Test.YtniljjbpcgblmaaMarks
namespace Go.Proofs.Ytniljjbpcgblmaa
open Go.ChangeShapes Go.WideShapes Go.ChangeAt Go.RowKit
set_option linter.unusedVariables false
set_option maxHeartbeats 3200000 in
theorem law_FnExactShares (n : Int) (a : Option Addr) (len cap : Nat) (zs : List Int) (w : World) (h : IsRow .i64 w a len cap zs) :
    Calls Try.prog 5 #[.int .i64 n, .slice a len cap] w fun e w' => e = .returned (.bool true) ∧ Below w.heap.size w w' := by
  obtain ⟨l, rfl, hr⟩ := Rd.of_row h
  clear h
  by_cases hle : l.length ≤ 1048576
  · have HR := Lib.hid hr
    clear hr
    have hbig : ¬ (1048576 : Int) < ↑l.length := by omega
    have hsl := Nat.le_trans (sharesOf_len n l) hle
    have HD : Hid (∃ s, s = sharesOf n l) := ⟨_, rfl⟩
    obtain ⟨s, hs⟩ := HD.out
    clear HD
    rw [← hs] at hsl
    have HS := Lib.hid hs
    clear hs
    go_enter Try.func5, Try.ntmps5
    go_wp2_with fail
    refine (toIntS_l l a cap hle _ HR.out).mono ?_
    rintro e w1 ⟨g1, rfl, hg1, hA1, hb1⟩
    have B1 := Lib.hid hb1
    have A1 := Lib.hid (Sl.made hA1 hg1)
    clear hA1 hb1
    go_wp2_with fail
    refine (shares_s n l _ _ hle _ A1.out.rd).mono ?_
    rintro e w2 ⟨v0, rfl, ho⟩
    rw [← HS.out] at ho
    have B2 := Lib.hid (bel_call B1.out ho.bel)
    obtain ⟨a0, c0, rfl, ho'⟩ := Sl.of_ow ho
    have W2 := Lib.hid ho'
    have Z1 := Lib.hid B1.out.size
    clear ho ho'
    go_wp2_with fail
    refine (toIntS_l l a cap hle _ (HR.out.below B2.out)).mono ?_
    rintro e w3 ⟨g2, rfl, hg2, hA2, hb3⟩
    have B3 := Lib.hid (bel_call B2.out hb3)
    have Z2 := Lib.hid hb3.size
    have W3 := Lib.hid (W2.out.below hb3)
    have X3 := Lib.hid (Sl.made hA2 hg2)
    clear hA2 hb3 W2
    go_wp2_with fail
    refine (shares_i n l _ _ hle _ X3.out.rd).mono ?_
    rintro e w4 ⟨v0, rfl, ho⟩
    rw [← HS.out] at ho
    have B4 := Lib.hid (bel_call B3.out ho.bel)
    have W4 := Lib.hid (W3.out.below ho.bel)
    have X4 := Lib.hid (X3.out.below ho.bel)
    obtain ⟨a1, c1, rfl, ho'⟩ := Sl.of_ow ho
    have G4 := Lib.hid ho'
    clear ho ho' W3 X3
    go_wp2_with fail
    refine (eqIntSR_l s _ _ _ _ hsl _ G4.out.rd W4.out.rd).mono ?_
    rintro e w5 ⟨rfl, hb⟩
    have B5 := Lib.hid (bel_call B4.out hb)
    have W5 := Lib.hid (W4.out.below hb)
    have X5 := Lib.hid (X4.out.below hb)
    have G5 := Lib.hid (G4.out.below hb)
    clear hb W4 X4 G4
    go_wp2_with fail
    refine (toIntS_l l a cap hle _ (HR.out.below B5.out)).mono ?_
    rintro e w6 ⟨g3, rfl, hg3, hA3, hb⟩
    have B6 := Lib.hid (bel_call B5.out hb)
    have W6 := Lib.hid (W5.out.below hb)
    have X6 := Lib.hid (X5.out.below hb)
    have G6 := Lib.hid (G5.out.below hb)
    have Y6 := Lib.hid (Sl.made hA3 hg3)
    clear hA3 hb W5 X5 G5
    go_wp2_with fail
    refine (eqIntSR_l l _ _ _ _ hle _ X6.out.rd Y6.out.rd).mono ?_
    rintro e w7 ⟨rfl, hb⟩
    have B7 := Lib.hid (bel_call B6.out hb)
    have W7 := Lib.hid (W6.out.below hb)
    have X7 := Lib.hid (X6.out.below hb)
    have G7 := Lib.hid (G6.out.below hb)
    clear hb W6 X6 G6 Y6
    go_wp2_with fail
    refine (markIntS_l _ _ l _ _ 1 (by decide) (by decide) hle _ X7.out).mono ?_
    rintro e w8 ⟨rfl, hc, _⟩
    have B8 := Lib.hid (hc.bel B7.out B2.out.size)
    have W8 := Lib.hid (W7.out.chg hc (Or.inl (Nat.le_refl _)))
    have G8 := Lib.hid (G7.out.chg hc (Or.inr (Nat.le_refl _)))
    clear hc W7 X7 G7
    go_wp2_with fail
    refine (eqIntSR_l s _ _ _ _ hsl _ G8.out.rd W8.out.rd).mono ?_
    rintro e w9 ⟨rfl, hb⟩
    have B9 := Lib.hid (bel_call B8.out hb)
    have W9 := Lib.hid (W8.out.below hb)
    have G9 := Lib.hid (G8.out.below hb)
    have n0 : (0 : Int) ≤ ↑l.length := by omega
    have n1 : ¬ (1 + (l.length : Int) < 0) := by omega
    have m0 : (0 : Int) ≤ ↑s.length := by omega
    have m1 : ¬ (1 + (s.length : Int) < 0) := by omega
    clear hb W8 G8
    go_wp2_with fail
    refine (markIntS_l _ _ s _ _ 1 (by decide) (by decide) hsl _ G9.out).mono ?_
    rintro e w10 ⟨rfl, hc, hg⟩
    have B10 := Lib.hid (hc.bel B9.out B3.out.size)
    have W10 := Lib.hid (W9.out.chg hc (Or.inl Z2.out))
    have G10 := Lib.hid hg
    clear hc hg W9 G9
    go_wp2_with fail
    refine (heldIntS_l s.length _ _ 1 (by decide) (by decide) hsl _ G10.out.rd).mono ?_
    rintro e _ ⟨rfl, rfl⟩
    go_wp2_with fail
    refine (toIntS_l l a cap hle _ (HR.out.below B10.out)).mono ?_
    rintro e w11 ⟨g4, rfl, hg4, hA4, hb⟩
    have B11 := Lib.hid (bel_call B10.out hb)
    have W11 := Lib.hid (W10.out.below hb)
    have G11 := Lib.hid (G10.out.below hb)
    have X11 := Lib.hid (Sl.made hA4 hg4)
    clear hA4 hb W10 G10
    go_wp2_with fail
    refine (shares_i n l _ _ hle _ X11.out.rd).mono ?_
    rintro e w12 ⟨v0, rfl, ho⟩
    rw [← HS.out] at ho
    have B12 := Lib.hid (bel_call B11.out ho.bel)
    have W12 := Lib.hid (W11.out.below ho.bel)
    have G12 := Lib.hid (G11.out.below ho.bel)
    obtain ⟨a2, c2, rfl, ho'⟩ := Sl.of_ow ho
    have Y12 := Lib.hid ho'
    clear ho ho' W11 G11
    go_wp2_with fail
    refine (eqIntSR_l s _ _ _ _ hsl _ Y12.out.rd W12.out.rd).mono ?_
    rintro e w13 ⟨rfl, hb⟩
    have B13 := Lib.hid (bel_call B12.out hb)
    have G13 := Lib.hid (G12.out.below hb)
    clear hb W12 G12
    go_wp2_with fail
    refine (heldIntS_l s.length _ _ 1 (by decide) (by decide) hsl _ G13.out.rd).mono ?_
    rintro e _ ⟨rfl, rfl⟩
    go_wp2_with fail
    go_ret
    exact ⟨rfl, B13.out⟩
  · have hbig : (1048576 : Int) < ↑l.length := by omega
    go_enter Try.func5, Try.ntmps5
    go_wp2_with fail
    go_ret
    exact ⟨rfl, Below.refl _ _⟩
set_option maxRecDepth 100000 in
theorem FnExactShares_lifted (os : Os) (started : os.Started) (H : Type) (enc : TypeId × Value → H) :
    ReturnsInHanded {} Try.checked os 5 .any (Rows.fnExactSharesSpec.pre6 enc Try.prog Try.f5 Rows.fnExactSharesRow.domain false) (Rows.fnExactSharesSpec.post enc Try.prog Try.f5 false true false false) := by
  refine returnsInHanded_of_change (C := Try.checked) own started (by kernel_rfl) Try.func5
    (ChangeSpec.witness6 (enc := enc) (C := Try.checked) false ⟨#[], #[.int .i64 0, .slice none 0 0], []⟩ 8 (by kernel_rfl) (by kernel_rfl) (by kernel_rfl) (by kernel_rfl)) ?_
  intro W base args ds gs before hval0 hW hcnd _
  have hval : ∀ (j : Nat) t v, Try.f5.params[j]? = some t → args[j]? = some v → Value.okWide Try.prog W .any base t v := hval0
  have hW' := hW
  obtain ⟨p, q, hA0, hV, rfl, hfz, hnd⟩ := hW
  have hA : DataW.TrodAll enc Try.prog W 0 (fun _ => true) true Try.f5.params.toList args.toList ds p := hA0
  rw [Try.params5] at hA hval
  obtain ⟨v0, vs0, d0, ds0, p0, q0, hargs, rfl, rfl, h0, r0⟩ := trodAll_cons hA
  obtain ⟨v1, vs1, d1, ds1, p1, q1, rfl, rfl, rfl, h1, r1⟩ := trodAll_cons r0
  obtain ⟨rfl, rfl, rfl⟩ := trodAll_nil r1
  obtain rfl : args = #[v0, v1] := by cases args; simp_all
  obtain ⟨rfl, rfl⟩ := trodVars_none hV
  have k0 := h0
  have lt0 : ∀ x ∈ p0, x.block < W.heap.size := by obtain ⟨m, hm⟩ := k0; exact DataW.trod_lt m _ _ _ hm
  have k1 := h1
  have lt1 : ∀ x ∈ p1, x.block < W.heap.size := by obtain ⟨m, hm⟩ := k1; exact DataW.trod_lt m _ _ _ hm
  obtain ⟨a0, rfl, w0⟩ := val_int Try.underlying3 (hval 0 3 v0 rfl rfl)
  obtain ⟨b1, len1, cap1, rfl⟩ := okWide_slice Try.underlying22 (hval 1 22 v1 rfl rfl)
  obtain ⟨z1, w1⟩ : ∃ zs, IsRow .i64 W b1 len1 cap1 zs := by
    obtain ⟨fuel, hf⟩ := h1
    rcases open_ints Try.underlying22 Try.underlying3 (by kernel_rfl) hf with ⟨hcs, _⟩ | ⟨x, l, c, zs, hcs, _, hl, hm, hz, _, hcell, hwz⟩
    · simp [Value.cells] at hcs
      obtain ⟨rfl, rfl, rfl⟩ := hcs
      exact ⟨[], .inl ⟨rfl, rfl, rfl, rfl⟩⟩
    · simp [Value.cells] at hcs
      obtain ⟨rfl, rfl, rfl⟩ := hcs
      exact ⟨zs, .inr ⟨_, rfl, hl, hm, by simpa using hz, hcell, hwz⟩⟩
  clear hA0 hval0
  refine (law_FnExactShares a0 b1 len1 cap1 z1 W w1).mono fun e W' ⟨he, bel⟩ => ?_
  subst he
  exact ⟨_, rfl, _, _, _, [], _, [], hW', trodAll_mk1 (shut_bool Try.underlying4 _), (trodAll_cons_mk (Below.trod laidOut (by kernel_rfl) (of_decide_eq_true (by kernel_rfl)) k0 bel lt0) (trodAll_cons_mk (Below.trod laidOut (by kernel_rfl) (of_decide_eq_true (by kernel_rfl)) k1 bel lt1) trodAll_mk0)), rfl, bel.frame _, fun h => by cases h⟩

/-- The law 'FnExactShares' returns true for every input, and each argument reads afterwards as it read before. -/
theorem FnExactShares_holds : Rows.FnExactSharesSaid :=
  OpenClaim.holds_of_wide 5 Try.f5 rfl rfl rfl rfl rfl rfl rfl ⟨rfl, rfl, rfl, rfl, rfl⟩ rfl rfl rfl rfl rfl (by kernel_rfl) Try.func5 (by kernel_rfl)
    (of_decide_eq_true (by kernel_rfl)) (by unfold Func.isWrapper; first | (rw [if_pos (by decide +kernel)]; kernel_rfl) | (rw [if_neg (by decide +kernel)]; exact ⟨rfl, rfl⟩))
    (fun os started H enc _ => FnExactShares_lifted os started H enc)
#print axioms FnExactShares_holds

end Go.Proofs.Ytniljjbpcgblmaa
