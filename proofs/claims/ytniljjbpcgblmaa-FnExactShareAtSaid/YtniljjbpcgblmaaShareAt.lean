/- The law FnExactShareAt returns true for every input: ShareAt of the program and of the reference return the same, and the argument reads as it did. Conditions: none. -/
import Derived.Test.YtniljjbpcgblmaaShares
import Derived.Test.YtniljjbpcgblmaaMarks
namespace Go.Proofs.Ytniljjbpcgblmaa
open Go.ChangeShapes Go.WideShapes Go.ChangeAt Go.RowKit
set_option linter.unusedVariables false
set_option maxHeartbeats 800000 in
theorem shareAt_i (n : Int) (l : List Int) (a : Option Addr) (cap : Nat) (i : Int) (hl : l.length ≤ 1048576) (w : World) (hr : Rd w a l) :
    Calls Try.prog 21 #[.int .i64 n, .slice a l.length cap, .int .i64 i] w fun e w' => e = .returned (.int .i64 (elemOf (sharesOf n l) i)) ∧ Below w.heap.size w w' := by
  have HR := Lib.hid hr
  clear hr
  go_enter Try.func21, Try.ntmps21
  go_wp2_with fail
  refine (shares_i n l a cap hl _ HR.out).mono ?_
  rintro e w1 ⟨v, rfl, how⟩
  obtain ⟨a1, c1, rfl, hr1⟩ := how.rd
  have H1 := Lib.hid hr1
  have B1 := Lib.hid how.bel
  clear how hr1
  go_wp2_with fail
  refine (elementOf_i (sharesOf n l) a1 c1 i (Nat.le_trans (sharesOf_len n l) hl) _ H1.out).mono ?_
  rintro e _ ⟨rfl, rfl⟩
  go_wp2
  go_ret
  exact ⟨rfl, B1.out⟩
set_option maxHeartbeats 800000 in
theorem shareAt_s (n : Int) (l : List Int) (a : Option Addr) (cap : Nat) (i : Int) (hl : l.length ≤ 1048576) (w : World) (hr : Rd w a l) :
    Calls Try.prog 20 #[.int .i64 n, .slice a l.length cap, .int .i64 i] w fun e w' => e = .returned (.int .i64 (elemOf (sharesOf n l) i)) ∧ Below w.heap.size w w' := by
  have HR := Lib.hid hr
  have hln := Nat.le_trans (sharesOf_len n l) hl
  clear hr
  generalize hs : sharesOf n l = s at *
  have HS := Lib.hid hs
  clear hs
  go_enter Try.func20, Try.ntmps20
  go_wp2_with fail
  refine (shares_s n l a cap hl _ HR.out).mono ?_
  rintro e w1 ⟨v, rfl, how⟩
  rw [HS.out] at how
  obtain ⟨a1, c1, rfl, hr1⟩ := how.rd
  have B1 := Lib.hid how.bel
  clear how
  by_cases h : i < 0 ∨ (s.length : Int) ≤ i
  · have HE : Hid (elemOf s i = 0) := Lib.hid (by rw [elemOf, if_pos h])
    have hb : inB i 0 ((s.length : Int) - 1) = false := (by unfold inB; simp; omega)
    clear hr1 h
    go_wp2_with ((go_at_call 31; refine (in_s _ _ _ _).mono ?_; rintro e w' ⟨rfl, rfl⟩))
    go_ret
    exact ⟨ret_int HE.out.symm, B1.out⟩
  · have HE : Hid (elemOf s i = nth s i.toNat) := Lib.hid (by rw [elemOf, if_neg h])
    obtain ⟨k, rfl⟩ : ∃ k : Nat, i = k := ⟨i.toNat, by omega⟩
    have hlt : k < s.length := by omega
    have hb : inB k 0 ((s.length : Int) - 1) = true := (by unfold inB; simp; omega)
    clear h
    rcases hr1 with ⟨b, off, rfl, hcell⟩ | h0
    · have hc := hcell k hlt
      clear hcell
      go_wp2_with ((go_at_call 31; refine (in_s _ _ _ _).mono ?_; rintro e w' ⟨rfl, rfl⟩))
      go_ret
      exact ⟨ret_int (by rw [HE.out]; simp), B1.out⟩
    · omega
set_option maxHeartbeats 1600000 in
theorem law_FnExactShareAt (n : Int) (a : Option Addr) (len cap : Nat) (zs : List Int) (i : Int) (w : World) (h : IsRow .i64 w a len cap zs) :
    Calls Try.prog 6 #[.int .i64 n, .slice a len cap, .int .i64 i] w fun e w' => e = .returned (.bool true) ∧ Below w.heap.size w w' := by
  obtain ⟨l, rfl, hr⟩ := Rd.of_row h
  clear h
  by_cases hle : l.length ≤ 1048576
  · have HR := Lib.hid hr
    clear hr
    have hbig : ¬ (1048576 : Int) < ↑l.length := by omega
    go_enter Try.func6, Try.ntmps6
    go_wp2_with fail
    refine (toIntS_l l a cap hle _ HR.out).mono ?_
    rintro e w1 ⟨g1, rfl, hg1, hA1, hb1⟩
    have B1 := Lib.hid hb1
    have A1 := Lib.hid (Sl.made hA1 hg1)
    clear hA1 hb1
    go_wp2_with fail
    refine (shareAt_s n l _ _ i hle _ A1.out.rd).mono ?_
    rintro e w2 ⟨rfl, hb2⟩
    have B2 := Lib.hid (bel_call B1.out hb2)
    clear hb2
    go_wp2_with fail
    refine (toIntS_l l a cap hle _ (HR.out.below B2.out)).mono ?_
    rintro e w3 ⟨g2, rfl, hg2, hA2, hb3⟩
    have B3 := Lib.hid (bel_call B2.out hb3)
    have A2 := Lib.hid (Sl.made hA2 hg2)
    clear hA2 hb3
    go_wp2_with fail
    refine (shareAt_i n l _ _ i hle _ A2.out.rd).mono ?_
    rintro e w4 ⟨rfl, hb4⟩
    have B4 := Lib.hid (bel_call B3.out hb4)
    have A2' := Lib.hid (A2.out.below hb4)
    clear hb4
    go_wp2_with fail
    refine (toIntS_l l a cap hle _ (HR.out.below B4.out)).mono ?_
    rintro e w5 ⟨g3, rfl, hg3, hA3, hb5⟩
    have B5 := Lib.hid (bel_call B4.out hb5)
    have A2'' := Lib.hid (A2'.out.below hb5)
    have A3 := Lib.hid (Sl.made hA3 hg3)
    clear hA3 hb5
    go_wp2_with fail
    refine (eqIntSR_l l _ _ _ _ hle _ A2''.out.rd A3.out.rd).mono ?_
    rintro e w6 ⟨rfl, hb6⟩
    have B6 := Lib.hid (bel_call B5.out hb6)
    clear hb6
    go_wp2_with fail
    go_ret
    exact ⟨rfl, B6.out⟩
  · have hbig : (1048576 : Int) < ↑l.length := by omega
    go_enter Try.func6, Try.ntmps6
    go_wp2_with fail
    go_ret
    exact ⟨rfl, Below.refl _ _⟩
set_option maxRecDepth 100000 in
theorem FnExactShareAt_lifted (os : Os) (started : os.Started) (H : Type) (enc : TypeId × Value → H) :
    ReturnsInHanded {} Try.checked os 6 .any (Rows.fnExactShareAtSpec.pre6 enc Try.prog Try.f6 Rows.fnExactShareAtRow.domain false) (Rows.fnExactShareAtSpec.post enc Try.prog Try.f6 false true false false) := by
  refine returnsInHanded_of_change (C := Try.checked) own started (by kernel_rfl) Try.func6
    (ChangeSpec.witness6 (enc := enc) (C := Try.checked) false ⟨#[], #[.int .i64 0, .slice none 0 0, .int .i64 0], []⟩ 8 (by kernel_rfl) (by kernel_rfl) (by kernel_rfl) (by kernel_rfl)) ?_
  intro W base args ds gs before hval0 hW hcnd _
  have hval : ∀ (j : Nat) t v, Try.f6.params[j]? = some t → args[j]? = some v → Value.okWide Try.prog W .any base t v := hval0
  have hW' := hW
  obtain ⟨p, q, hA0, hV, rfl, hfz, hnd⟩ := hW
  have hA : DataW.TrodAll enc Try.prog W 0 (fun _ => true) true Try.f6.params.toList args.toList ds p := hA0
  rw [Try.params6] at hA hval
  obtain ⟨v0, vs0, d0, ds0, p0, q0, hargs, rfl, rfl, h0, r0⟩ := trodAll_cons hA
  obtain ⟨v1, vs1, d1, ds1, p1, q1, rfl, rfl, rfl, h1, r1⟩ := trodAll_cons r0
  obtain ⟨v2, vs2, d2, ds2, p2, q2, rfl, rfl, rfl, h2, r2⟩ := trodAll_cons r1
  obtain ⟨rfl, rfl, rfl⟩ := trodAll_nil r2
  obtain rfl : args = #[v0, v1, v2] := by cases args; simp_all
  obtain ⟨rfl, rfl⟩ := trodVars_none hV
  have k0 := h0
  have lt0 : ∀ x ∈ p0, x.block < W.heap.size := by obtain ⟨m, hm⟩ := k0; exact DataW.trod_lt m _ _ _ hm
  have k1 := h1
  have lt1 : ∀ x ∈ p1, x.block < W.heap.size := by obtain ⟨m, hm⟩ := k1; exact DataW.trod_lt m _ _ _ hm
  have k2 := h2
  have lt2 : ∀ x ∈ p2, x.block < W.heap.size := by obtain ⟨m, hm⟩ := k2; exact DataW.trod_lt m _ _ _ hm
  obtain ⟨a0, rfl, w0⟩ := val_int Try.underlying3 (hval 0 3 v0 rfl rfl)
  obtain ⟨b1, len1, cap1, rfl⟩ := okWide_slice Try.underlying22 (hval 1 22 v1 rfl rfl)
  obtain ⟨z1, w1⟩ : ∃ zs, IsRow .i64 W b1 len1 cap1 zs := by
    obtain ⟨fuel, hf⟩ := h1
    rcases open_ints Try.underlying22 Try.underlying3 (by kernel_rfl) hf with ⟨hcs, _⟩ | ⟨x, l, c, zs, hcs, _, hl, hm, hz, _, hcell, hwz⟩
    · simp [Value.cells] at hcs
      obtain ⟨rfl, rfl, rfl⟩ := hcs
      exact ⟨[], .inl ⟨rfl, rfl, rfl, rfl⟩⟩
    · simp [Value.cells] at hcs
      obtain ⟨rfl, rfl, rfl⟩ := hcs
      exact ⟨zs, .inr ⟨_, rfl, hl, hm, by simpa using hz, hcell, hwz⟩⟩
  obtain ⟨a2, rfl, w2⟩ := val_int Try.underlying3 (hval 2 3 v2 rfl rfl)
  clear hA0 hval0
  refine (law_FnExactShareAt a0 b1 len1 cap1 z1 a2 W w1).mono fun e W' ⟨he, bel⟩ => ?_
  subst he
  exact ⟨_, rfl, _, _, _, [], _, [], hW', trodAll_mk1 (shut_bool Try.underlying4 _), (trodAll_cons_mk (Below.trod laidOut (by kernel_rfl) (of_decide_eq_true (by kernel_rfl)) k0 bel lt0) (trodAll_cons_mk (Below.trod laidOut (by kernel_rfl) (of_decide_eq_true (by kernel_rfl)) k1 bel lt1) (trodAll_cons_mk (Below.trod laidOut (by kernel_rfl) (of_decide_eq_true (by kernel_rfl)) k2 bel lt2) trodAll_mk0))), rfl, bel.frame _, fun h => by cases h⟩

/-- The law 'FnExactShareAt' returns true for every input, and each argument reads afterwards as it read before. -/
theorem FnExactShareAt_holds : Rows.FnExactShareAtSaid :=
  OpenClaim.holds_of_wide 6 Try.f6 rfl rfl rfl rfl rfl rfl rfl ⟨rfl, rfl, rfl, rfl, rfl⟩ rfl rfl rfl rfl rfl (by kernel_rfl) Try.func6 (by kernel_rfl)
    (of_decide_eq_true (by kernel_rfl)) (by unfold Func.isWrapper; first | (rw [if_pos (by decide +kernel)]; kernel_rfl) | (rw [if_neg (by decide +kernel)]; exact ⟨rfl, rfl⟩))
    (fun os started H enc _ => FnExactShareAt_lifted os started H enc)
#print axioms FnExactShareAt_holds

end Go.Proofs.Ytniljjbpcgblmaa
