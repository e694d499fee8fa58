/- The law FnExactScaled returns true for every input: Scaled of the program and of the reference return the same, the arguments read as they did, and the result shares no memory. Conditions: none. -/
import Derived.Test.YtniljjbpcgblmaaScaled
import Derived.Test.YtniljjbpcgblmaaMarks
namespace Go.Proofs.Ytniljjbpcgblmaa
open Go.ChangeShapes Go.WideShapes Go.ChangeAt Go.RowKit
set_option linter.unusedVariables false
theorem scaledOf_len (l m : List Int) : (scaledOf l m).length ≤ l.length := by
  unfold scaledOf
  rw [scaledTo_len]
  omega
set_option maxHeartbeats 6400000 in
theorem law_FnExactScaled (a : Option Addr) (len cap : Nat) (zs : List Int) (b : Option Addr) (len2 cap2 : Nat) (zs2 : List Int) (w : World) (h : IsRow .i64 w a len cap zs) (h2 : IsRow .i64 w b len2 cap2 zs2) :
    Calls Try.prog 4 #[.slice a len cap, .slice b len2 cap2] w fun e w' => e = .returned (.bool true) ∧ Below w.heap.size w w' := by
  obtain ⟨l, rfl, hr⟩ := Rd.of_row h
  obtain ⟨m, rfl, ht⟩ := Rd.of_row h2
  clear h h2
  by_cases hle : l.length ≤ 1048576 ∧ m.length ≤ 1048576
  · obtain ⟨hle, hme⟩ := hle
    have HR := Lib.hid hr
    have HT := Lib.hid ht
    clear hr ht
    have hbig : ¬ (1048576 : Int) < ↑l.length := by omega
    have hbig2 : ¬ (1048576 : Int) < ↑m.length := by omega
    have hsl := Nat.le_trans (scaledOf_len l m) hle
    have HD : Hid (∃ s, s = scaledOf l m) := ⟨_, rfl⟩
    obtain ⟨s, hs⟩ := HD.out
    clear HD
    rw [← hs] at hsl
    have HS := Lib.hid hs
    clear hs
    go_enter Try.func4, Try.ntmps4
    go_wp2_with fail
    refine (toIntS_l l a cap hle _ HR.out).mono ?_
    rintro e w1 ⟨g1, rfl, hg1, hA, hb⟩
    have B1 := Lib.hid hb
    have Z1 := Lib.hid (hb).size
    have P1 := Lib.hid (Sl.made hA hg1)
    clear hA hb
    go_wp2_with fail
    refine (toIntS_l m b cap2 hme _ (HT.out.below B1.out)).mono ?_
    rintro e w2 ⟨g2, rfl, hg2, hA, hb⟩
    have B2 := Lib.hid (bel_call B1.out hb)
    have Z2 := Lib.hid (hb).size
    have P2 := Lib.hid (P1.out.below hb)
    clear P1
    have Q2 := Lib.hid (Sl.made hA hg2)
    clear hA hb
    go_wp2_with fail
    refine (scaled_s l m _ _ _ _ hle hme _ P2.out.rd Q2.out.rd).mono ?_
    rintro e w3 ⟨v, rfl, ho⟩
    rw [← HS.out] at ho
    have B3 := Lib.hid (bel_call B2.out ho.bel)
    have Z3 := Lib.hid (ho.bel).size
    have P3 := Lib.hid (P2.out.below ho.bel)
    clear P2
    have Q3 := Lib.hid (Q2.out.below ho.bel)
    clear Q2
    obtain ⟨a3, c3, rfl, ho'⟩ := Sl.of_ow ho
    have W3 := Lib.hid ho'
    clear ho ho'
    go_wp2_with fail
    clear P3 Q3
    refine (toIntS_l l a cap hle _ (HR.out.below B3.out)).mono ?_
    rintro e w4 ⟨g4, rfl, hg4, hA, hb⟩
    have B4 := Lib.hid (bel_call B3.out hb)
    have Z4 := Lib.hid (hb).size
    have W4 := Lib.hid (W3.out.below hb)
    clear W3
    have X4 := Lib.hid (Sl.made hA hg4)
    clear hA hb
    go_wp2_with fail
    refine (toIntS_l m b cap2 hme _ (HT.out.below B4.out)).mono ?_
    rintro e w5 ⟨g5, rfl, hg5, hA, hb⟩
    have B5 := Lib.hid (bel_call B4.out hb)
    have Z5 := Lib.hid (hb).size
    have W5 := Lib.hid (W4.out.below hb)
    clear W4
    have X5 := Lib.hid (X4.out.below hb)
    clear X4
    have Y5 := Lib.hid (Sl.made hA hg5)
    clear hA hb
    go_wp2_with fail
    refine (scaled_i l m _ _ _ _ hle hme _ X5.out.rd Y5.out.rd).mono ?_
    rintro e w6 ⟨v, rfl, ho⟩
    rw [← HS.out] at ho
    have B6 := Lib.hid (bel_call B5.out ho.bel)
    have Z6 := Lib.hid (ho.bel).size
    have W6 := Lib.hid (W5.out.below ho.bel)
    clear W5
    have X6 := Lib.hid (X5.out.below ho.bel)
    clear X5
    have Y6 := Lib.hid (Y5.out.below ho.bel)
    clear Y5
    obtain ⟨a6, c6, rfl, ho'⟩ := Sl.of_ow ho
    have G6 := Lib.hid ho'
    clear ho ho'
    go_wp2_with fail
    refine (eqIntSR_l s _ _ _ _ hsl _ G6.out.rd W6.out.rd).mono ?_
    rintro e w7 ⟨rfl, hb⟩
    have B7 := Lib.hid (bel_call B6.out hb)
    have Z7 := Lib.hid (hb).size
    have W7 := Lib.hid (W6.out.below hb)
    clear W6
    have X7 := Lib.hid (X6.out.below hb)
    clear X6
    have Y7 := Lib.hid (Y6.out.below hb)
    clear Y6
    have G7 := Lib.hid (G6.out.below hb)
    clear G6
    clear hb
    go_wp2_with fail
    refine (toIntS_l l a cap hle _ (HR.out.below B7.out)).mono ?_
    rintro e w8 ⟨g8, rfl, hg8, hA, hb⟩
    have B8 := Lib.hid (bel_call B7.out hb)
    have Z8 := Lib.hid (hb).size
    have W8 := Lib.hid (W7.out.below hb)
    clear W7
    have X8 := Lib.hid (X7.out.below hb)
    clear X7
    have Y8 := Lib.hid (Y7.out.below hb)
    clear Y7
    have G8 := Lib.hid (G7.out.below hb)
    clear G7
    have U8 := Lib.hid (Sl.made hA hg8)
    clear hA hb
    go_wp2_with fail
    refine (eqIntSR_l l _ _ _ _ hle _ X8.out.rd U8.out.rd).mono ?_
    rintro e w9 ⟨rfl, hb⟩
    have B9 := Lib.hid (bel_call B8.out hb)
    have Z9 := Lib.hid (hb).size
    have W9 := Lib.hid (W8.out.below hb)
    clear W8
    have X9 := Lib.hid (X8.out.below hb)
    clear X8
    have Y9 := Lib.hid (Y8.out.below hb)
    clear Y8
    have G9 := Lib.hid (G8.out.below hb)
    clear G8
    clear hb
    go_wp2_with fail
    refine (toIntS_l m b cap2 hme _ (HT.out.below B9.out)).mono ?_
    rintro e w10 ⟨g10, rfl, hg10, hA, hb⟩
    have B10 := Lib.hid (bel_call B9.out hb)
    have Z10 := Lib.hid (hb).size
    have W10 := Lib.hid (W9.out.below hb)
    clear W9
    have X10 := Lib.hid (X9.out.below hb)
    clear X9
    have Y10 := Lib.hid (Y9.out.below hb)
    clear Y9
    have G10 := Lib.hid (G9.out.below hb)
    clear G9
    have V10 := Lib.hid (Sl.made hA hg10)
    clear hA hb
    go_wp2_with fail
    refine (eqIntSR_l m _ _ _ _ hme _ Y10.out.rd V10.out.rd).mono ?_
    rintro e w11 ⟨rfl, hb⟩
    have B11 := Lib.hid (bel_call B10.out hb)
    have Z11 := Lib.hid (hb).size
    have W11 := Lib.hid (W10.out.below hb)
    clear W10
    have X11 := Lib.hid (X10.out.below hb)
    clear X10
    have Y11 := Lib.hid (Y10.out.below hb)
    clear Y10
    have G11 := Lib.hid (G10.out.below hb)
    clear G10
    clear hb
    go_wp2_with fail
    have m0 : (0 : Int) ≤ ↑s.length := by omega
    have m1 : ¬ (1 + (s.length : Int) < 0) := by omega
    have n0 : (0 : Int) ≤ ↑l.length := by omega
    have n1 : (l.length : Int) ≤ 1048576 := by omega
    have n2 : (0 : Int) ≤ ↑m.length := by omega
    have n3 : (m.length : Int) ≤ 1048576 := by omega
    refine (markIntS_l _ _ l _ _ 1 (by decide) (by decide) hle _ X11.out).mono ?_
    rintro e w12 ⟨rfl, hc, hg⟩
    have B12 := Lib.hid (hc.bel B11.out (Nat.le_trans (Nat.le_trans Z1.out Z2.out) Z3.out))
    have Z12 : Hid (w11.heap.size ≤ w12.heap.size) := Lib.hid (by rw [hc.size]; exact Nat.le_refl _)
    have W12 := Lib.hid (W11.out.chg hc (Or.inl (Nat.le_refl _)))
    clear W11
    have Y12 := Lib.hid (Y11.out.chg hc (Or.inr (Nat.le_refl _)))
    clear Y11
    have G12 := Lib.hid (G11.out.chg hc (Or.inr Z5.out))
    clear G11
    clear X11
    clear hc hg
    go_wp2_with fail
    have q0 : (0 : Int) ≤ 1 + ↑l.length := by omega
    have q1 : 1 + (l.length : Int) ≤ 4194304 := by omega
    obtain ⟨z, hz⟩ : ∃ z : Int, z = 1 + ↑l.length := ⟨_, rfl⟩
    rw [← hz] at q0 q1 ⊢
    clear hz
    have n4 : ¬ (z + (m.length : Int) < 0) := by omega
    have n5 : decide (z + (m.length : Int) < 0) = false := by simpa using n4
    refine (markIntS_l _ _ m _ _ z q0 q1 hme _ Y12.out).mono ?_
    rintro e w13 ⟨rfl, hc, hg⟩
    have B13 := Lib.hid (hc.bel B12.out (Nat.le_trans (Nat.le_trans (Nat.le_trans Z1.out Z2.out) Z3.out) Z4.out))
    have Z13 : Hid (w12.heap.size ≤ w13.heap.size) := Lib.hid (by rw [hc.size]; exact Nat.le_refl _)
    have W13 := Lib.hid (W12.out.chg hc (Or.inl Z4.out))
    clear W12
    have G13 := Lib.hid (G12.out.chg hc (Or.inr (Nat.le_refl _)))
    clear G12
    clear Y12
    clear hc hg
    go_wp2_with fail
    refine (eqIntSR_l s _ _ _ _ hsl _ G13.out.rd W13.out.rd).mono ?_
    rintro e w14 ⟨rfl, hb⟩
    have B14 := Lib.hid (bel_call B13.out hb)
    have Z14 := Lib.hid (hb).size
    have W14 := Lib.hid (W13.out.below hb)
    clear W13
    have G14 := Lib.hid (G13.out.below hb)
    clear G13
    clear hb
    go_wp2_with fail
    refine (markIntS_l _ _ s _ _ 1 (by decide) (by decide) hsl _ G14.out).mono ?_
    rintro e w15 ⟨rfl, hc, hg⟩
    have B15 := Lib.hid (hc.bel B14.out (Nat.le_trans (Nat.le_trans (Nat.le_trans (Nat.le_trans Z1.out Z2.out) Z3.out) Z4.out) Z5.out))
    have Z15 : Hid (w14.heap.size ≤ w15.heap.size) := Lib.hid (by rw [hc.size]; exact Nat.le_refl _)
    have W15 := Lib.hid (W14.out.chg hc (Or.inl (Nat.le_trans Z4.out Z5.out)))
    clear W14
    clear G14
    have G15 := Lib.hid hg
    clear hc hg
    go_wp2_with fail
    refine (heldIntS_l s.length _ _ 1 (by decide) (by decide) hsl _ G15.out.rd).mono ?_
    rintro e _ ⟨rfl, rfl⟩
    go_wp2_with fail
    refine (toIntS_l l a cap hle _ (HR.out.below B15.out)).mono ?_
    rintro e w16 ⟨g16, rfl, hg16, hA, hb⟩
    have B16 := Lib.hid (bel_call B15.out hb)
    have Z16 := Lib.hid (hb).size
    have W16 := Lib.hid (W15.out.below hb)
    clear W15
    have G16 := Lib.hid (G15.out.below hb)
    clear G15
    have X16 := Lib.hid (Sl.made hA hg16)
    clear hA hb
    go_wp2_with fail
    refine (toIntS_l m b cap2 hme _ (HT.out.below B16.out)).mono ?_
    rintro e w17 ⟨g17, rfl, hg17, hA, hb⟩
    have B17 := Lib.hid (bel_call B16.out hb)
    have Z17 := Lib.hid (hb).size
    have W17 := Lib.hid (W16.out.below hb)
    clear W16
    have G17 := Lib.hid (G16.out.below hb)
    clear G16
    have X17 := Lib.hid (X16.out.below hb)
    clear X16
    have Y17 := Lib.hid (Sl.made hA hg17)
    clear hA hb
    go_wp2_with fail
    refine (scaled_i l m _ _ _ _ hle hme _ X17.out.rd Y17.out.rd).mono ?_
    rintro e w18 ⟨v, rfl, ho⟩
    rw [← HS.out] at ho
    have B18 := Lib.hid (bel_call B17.out ho.bel)
    have Z18 := Lib.hid (ho.bel).size
    have W18 := Lib.hid (W17.out.below ho.bel)
    clear W17
    have G18 := Lib.hid (G17.out.below ho.bel)
    clear G17
    have X18 := Lib.hid (X17.out.below ho.bel)
    clear X17
    have Y18 := Lib.hid (Y17.out.below ho.bel)
    clear Y17
    obtain ⟨a18, c18, rfl, ho'⟩ := Sl.of_ow ho
    have H18 := Lib.hid ho'
    clear ho ho'
    go_wp2_with fail
    refine (eqIntSR_l s _ _ _ _ hsl _ H18.out.rd W18.out.rd).mono ?_
    rintro e w19 ⟨rfl, hb⟩
    have B19 := Lib.hid (bel_call B18.out hb)
    have Z19 := Lib.hid (hb).size
    have W19 := Lib.hid (W18.out.below hb)
    clear W18
    have G19 := Lib.hid (G18.out.below hb)
    clear G18
    have X19 := Lib.hid (X18.out.below hb)
    clear X18
    have Y19 := Lib.hid (Y18.out.below hb)
    clear Y18
    have H19 := Lib.hid (H18.out.below hb)
    clear H18
    clear hb
    go_wp2_with fail
    refine (heldIntS_l s.length _ _ 1 (by decide) (by decide) hsl _ G19.out.rd).mono ?_
    rintro e _ ⟨rfl, rfl⟩
    go_wp2_with fail
    go_ret
    exact ⟨rfl, B19.out⟩
  · by_cases h1 : l.length ≤ 1048576
    · have hbig : ¬ (1048576 : Int) < ↑l.length := by omega
      have hbig2 : (1048576 : Int) < ↑m.length := by omega
      clear hle h1
      go_enter Try.func4, Try.ntmps4
      go_wp2_with fail
      go_ret
      exact ⟨rfl, Below.refl _ _⟩
    · have hbig : (1048576 : Int) < ↑l.length := by omega
      clear hle h1
      go_enter Try.func4, Try.ntmps4
      go_wp2_with fail
      go_ret
      exact ⟨rfl, Below.refl _ _⟩
set_option maxRecDepth 100000 in
theorem FnExactScaled_lifted (os : Os) (started : os.Started) (H : Type) (enc : TypeId × Value → H) :
    ReturnsInHanded {} Try.checked os 4 .any (Rows.fnExactScaledSpec.pre6 enc Try.prog Try.f4 Rows.fnExactScaledRow.domain false) (Rows.fnExactScaledSpec.post enc Try.prog Try.f4 false true false false) := by
  refine returnsInHanded_of_change (C := Try.checked) own started (by kernel_rfl) Try.func4
    (ChangeSpec.witness6 (enc := enc) (C := Try.checked) false ⟨#[], #[.slice none 0 0, .slice none 0 0], []⟩ 8 (by kernel_rfl) (by kernel_rfl) (by kernel_rfl) (by kernel_rfl)) ?_
  intro W base args ds gs before hval0 hW hcnd _
  have hval : ∀ (j : Nat) t v, Try.f4.params[j]? = some t → args[j]? = some v → Value.okWide Try.prog W .any base t v := hval0
  have hW' := hW
  obtain ⟨p, q, hA0, hV, rfl, hfz, hnd⟩ := hW
  have hA : DataW.TrodAll enc Try.prog W 0 (fun _ => true) true Try.f4.params.toList args.toList ds p := hA0
  rw [Try.params4] at hA hval
  obtain ⟨v0, vs0, d0, ds0, p0, q0, hargs, rfl, rfl, h0, r0⟩ := trodAll_cons hA
  obtain ⟨v1, vs1, d1, ds1, p1, q1, rfl, rfl, rfl, h1, r1⟩ := trodAll_cons r0
  obtain ⟨rfl, rfl, rfl⟩ := trodAll_nil r1
  obtain rfl : args = #[v0, v1] := by cases args; simp_all
  obtain ⟨rfl, rfl⟩ := trodVars_none hV
  have k0 := h0
  have lt0 : ∀ x ∈ p0, x.block < W.heap.size := by obtain ⟨m, hm⟩ := k0; exact DataW.trod_lt m _ _ _ hm
  have k1 := h1
  have lt1 : ∀ x ∈ p1, x.block < W.heap.size := by obtain ⟨m, hm⟩ := k1; exact DataW.trod_lt m _ _ _ hm
  obtain ⟨b0, len0, cap0, rfl⟩ := okWide_slice Try.underlying22 (hval 0 22 v0 rfl rfl)
  obtain ⟨z0, w0⟩ : ∃ zs, IsRow .i64 W b0 len0 cap0 zs := by
    obtain ⟨fuel, hf⟩ := h0
    rcases open_ints Try.underlying22 Try.underlying3 (by kernel_rfl) hf with ⟨hcs, _⟩ | ⟨x, l, c, zs, hcs, _, hl, hm, hz, _, hcell, hwz⟩
    · simp [Value.cells] at hcs
      obtain ⟨rfl, rfl, rfl⟩ := hcs
      exact ⟨[], .inl ⟨rfl, rfl, rfl, rfl⟩⟩
    · simp [Value.cells] at hcs
      obtain ⟨rfl, rfl, rfl⟩ := hcs
      exact ⟨zs, .inr ⟨_, rfl, hl, hm, by simpa using hz, hcell, hwz⟩⟩
  obtain ⟨b1, len1, cap1, rfl⟩ := okWide_slice Try.underlying22 (hval 1 22 v1 rfl rfl)
  obtain ⟨z1, w1⟩ : ∃ zs, IsRow .i64 W b1 len1 cap1 zs := by
    obtain ⟨fuel, hf⟩ := h1
    rcases open_ints Try.underlying22 Try.underlying3 (by kernel_rfl) hf with ⟨hcs, _⟩ | ⟨x, l, c, zs, hcs, _, hl, hm, hz, _, hcell, hwz⟩
    · simp [Value.cells] at hcs
      obtain ⟨rfl, rfl, rfl⟩ := hcs
      exact ⟨[], .inl ⟨rfl, rfl, rfl, rfl⟩⟩
    · simp [Value.cells] at hcs
      obtain ⟨rfl, rfl, rfl⟩ := hcs
      exact ⟨zs, .inr ⟨_, rfl, hl, hm, by simpa using hz, hcell, hwz⟩⟩
  clear hA0 hval0
  refine (law_FnExactScaled b0 len0 cap0 z0 b1 len1 cap1 z1 W w0 w1).mono fun e W' ⟨he, bel⟩ => ?_
  subst he
  exact ⟨_, rfl, _, _, _, [], _, [], hW', trodAll_mk1 (shut_bool Try.underlying4 _), (trodAll_cons_mk (Below.trod laidOut (by kernel_rfl) (of_decide_eq_true (by kernel_rfl)) k0 bel lt0) (trodAll_cons_mk (Below.trod laidOut (by kernel_rfl) (of_decide_eq_true (by kernel_rfl)) k1 bel lt1) trodAll_mk0)), rfl, bel.frame _, fun h => by cases h⟩

/-- The law 'FnExactScaled' returns true for every input, and each argument reads afterwards as it read before. -/
theorem FnExactScaled_holds : Rows.FnExactScaledSaid :=
  OpenClaim.holds_of_wide 4 Try.f4 rfl rfl rfl rfl rfl rfl rfl ⟨rfl, rfl, rfl, rfl, rfl⟩ rfl rfl rfl rfl rfl (by kernel_rfl) Try.func4 (by kernel_rfl)
    (of_decide_eq_true (by kernel_rfl)) (by unfold Func.isWrapper; first | (rw [if_pos (by decide +kernel)]; kernel_rfl) | (rw [if_neg (by decide +kernel)]; exact ⟨rfl, rfl⟩))
    (fun os started H enc _ => FnExactScaled_lifted os started H enc)
#print axioms FnExactScaled_holds

end Go.Proofs.Ytniljjbpcgblmaa
