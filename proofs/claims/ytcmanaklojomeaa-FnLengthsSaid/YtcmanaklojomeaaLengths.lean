/- The law FnLengths returns true for every input: what is divided is rounded down, what is within is within and the least wins, no length is above the ceiling. Conditions: none. -/
import Derived.Test.YtcmanaklojomeaaDraw3
namespace Go.Proofs.Ytcmanaklojomeaa
open Go.ChangeShapes Go.WideShapes Go.ChangeAt Go.RowKit Go.Deep
set_option linter.unusedVariables false
theorem fd_low {a b : Int} (hb : 1 ≤ b) : floorDiv a b * b ≤ a ∧ a < floorDiv a b * b + b := by
  unfold floorDiv
  rw [if_neg (by omega)]
  have h1 := Int.ediv_mul_le a (show b ≠ 0 by omega)
  have h2 := Int.lt_ediv_add_one_mul_self a (show 0 < b by omega)
  rw [Int.add_mul] at h2
  exact ⟨h1, by omega⟩
theorem within_low (x y z : Int) : y ≤ within x y z ∧ (within x y z ≤ z ∨ z < 0 ∨ within x y z = y) := by
  unfold within
  (repeat' split) <;> omega
theorem addLen_bd (x y : Int) : 0 ≤ addLen x y ∧ addLen x y ≤ 1048576 := clamped_le _
theorem clamped_in {n : Int} (h0 : 0 ≤ n) (h1 : n ≤ 1048576) : clamped n = n := by
  unfold clamped brought
  (repeat' split) <;> omega
theorem part_hundred {n : Int} (h0 : 0 ≤ n) (h1 : n ≤ 9999) : part 1000 n 100 = floorDiv (1000 * n) 100 := by
  have e1 : signed 1000 = 1000 := rfl
  have e2 : brought n 0 2147483647 = n := by unfold brought; (repeat' split) <;> omega
  have e3 : brought 100 0 2147483647 = 100 := rfl
  unfold part
  rw [e1, e2, e3]
set_option maxHeartbeats 40000000 in
theorem law_FnLengths (a : Option Addr) (len cap : Nat) (zs : List Int) (w : World) (h : IsRow .u8 w a len cap zs) :
    Calls Try.prog 3 #[.slice a len cap] w fun e w' => e = .returned (.bool true) ∧ Below w.heap.size w w' := by
  obtain ⟨l, rfl, hr⟩ := RdB.of_row h
  clear h
  by_cases hle : l.length ≤ 1048576
  · have HR := Lib.hid hr
    have hbig : ¬ (1048576 : Int) < ↑l.length := by omega
    clear hr
    go_enter Try.func3, Try.ntmps3
    go_wp2_with ((go_at_call 8; refine (big_l _ _ _ _).mono ?_; rintro e w' ⟨rfl, rfl⟩))
    refine (drawPlaces_s w a cap l hle HR.out).mono ?_
    rintro e w1 ⟨v, L, rfl, hL, hx, ho⟩
    have B1 := Lib.hid ho.bel
    obtain ⟨g, cp, rfl, p, hc, hp⟩ := places_at hL hx ho
    have HC := Lib.hid hc
    clear hL hx ho hc
    have c0 := HC.out 0 (by decide)
    have c1 := HC.out 1 (by decide)
    have c2 := HC.out 2 (by decide)
    obtain ⟨p00, p01⟩ := hp 0
    obtain ⟨p10, p11⟩ := hp 1
    obtain ⟨p20, p21⟩ := hp 2
    obtain ⟨p30, p31⟩ := hp 3
    clear hp
    go_wp2
    go_quiet (fail)
    have HP := Lib.hid (part_hundred p30 p31)
    have c3 := HC.out 3 (by decide)
    obtain ⟨A, hA⟩ : ∃ A, A = p 0 * 100 + p 1 - 300000 := ⟨_, rfl⟩
    obtain ⟨B, hB⟩ : ∃ B, B = 1 + p 2 % 97 := ⟨_, rfl⟩
    have a0 : -300000 ≤ A := by omega
    have a1 : A ≤ 709899 := by omega
    have b0 : 1 ≤ B := by omega
    have b1 : B ≤ 97 := by omega
    obtain ⟨q1, q2⟩ := fd_low (a := A) b0
    have q0 : -300097 ≤ floorDiv A B * B := by omega
    go_wp2_with fail
    rw [← hA, ← hB]
    clear hA hB p00 p01 p10 p11 p20 p21 c0 c1 c2
    have B2 := Lib.hid (bel_drewN B1.out nq)
    have C2 : Hid ((w1.drewN nq).cell? ⟨g, 3, none⟩ = some (.int .i64 (p 3))) := Lib.hid c3
    clear c3 HC
    generalize w1.drewN nq = w2 at *
    clear B1
    refine (floorDiv_i _ _ ⟨by omega, by omega⟩ ⟨by omega, by omega⟩ _).mono ?_
    rintro e _ ⟨rfl, rfl⟩
    go_wp2_with fail
    refine (drawWithin_s w2 a cap l hle (HR.out.below B2.out)).mono ?_
    rintro e w3 ⟨x, y, z, hx, hy, hz, rfl, hb⟩
    have B3 := Lib.hid (bel_call B2.out hb)
    have C3 := Lib.hid ((hb.cell (World.block_lt_of_cell? _ _ C2.out)).trans C2.out)
    clear hb hx hy hz C2 B2
    obtain ⟨l1, l2⟩ := within_low x y z
    go_wp2_with ((go_at_call 12; refine (within_i _ _ _ _).mono ?_; rintro e w' ⟨rfl, rfl⟩))
    refine (drawAddLen_s w3 a cap l hle (HR.out.below B3.out)).mono ?_
    rintro e w4 ⟨u, v, hx, hy, rfl, hb⟩
    have B4 := Lib.hid (bel_call B3.out hb)
    have c3 := (hb.cell (World.block_lt_of_cell? _ _ C3.out)).trans C3.out
    clear hb hx hy C3 B3
    obtain ⟨s1, s2⟩ := addLen_bd u v
    have s3 := clamped_in s1 s2
    have h3 := HP.out
    have e1 : IntKind.i64.wrap (floorDiv A B * B) = floorDiv A B * B := IntWalk.i64_in _ (by omega)
    have e2 : IntKind.i64.wrap (floorDiv A B * B + B) = floorDiv A B * B + B := IntWalk.i64_in _ (by omega)
    have e3 : IntKind.i64.wrap (1000 * p 3) = 1000 * p 3 := IntWalk.i64_in _ (by omega)
    have e4 : floorDiv (-1) 2 = -1 := rfl
    have t0 : decide (floorDiv A B * B ≤ A) = true := by simpa using q1
    have t1 : decide (A < floorDiv A B * B + B) = true := by simpa using q2
    have t2 : decide (y ≤ within x y z) = true := by simpa using l1
    have t3 : decide (0 ≤ addLen u v) = true := by simpa using s1
    have t4 : decide (addLen u v ≤ 1048576) = true := by simpa using s2
    go_wp2_with ((go_at_call 14; refine (addLen_i _ _ _).mono ?_; rintro e w' ⟨rfl, rfl⟩))
    have t5 : decide (within x y z ≤ z) = true ∨ (decide (within x y z ≤ z) = false ∧ decide (z < 0) = true) ∨ (decide (within x y z ≤ z) = false ∧ decide (z < 0) = false ∧ (within x y z == y) = true) := by
      by_cases m1 : within x y z ≤ z
      · exact Or.inl (by simpa using m1)
      · by_cases m2 : z < 0
        · exact Or.inr (Or.inl ⟨by simpa using m1, by simpa using m2⟩)
        · exact Or.inr (Or.inr ⟨by simpa using m1, by simpa using m2, by rcases l2 with h | h | h; exact absurd h m1; exact absurd h m2; simpa using h⟩)
    clear l2
    rcases t5 with t5 | ⟨t5, t6⟩ | ⟨t5, t6, t7⟩
    all_goals
      clear q1 q2 q0 l1 s1 s2 a0 a1 b0 b1 hbig HP
      go_quiet ((first | (go_at_call 15; exact quiet_same (within_s _ _ _ _)) | (go_at_call 16; exact quiet_same (addLen_s _ _ _)) | (go_at_call 17; exact quiet_same (clamped_i _ _)) | (go_at_call 18; exact quiet_same (part_i _ _ _ _)) | (go_at_call 10; exact quiet_same (floorDiv_i _ _ ⟨by omega, by omega⟩ ⟨by omega, by omega⟩ _))))
      go_wp2
      go_ret
      exact ⟨rfl, bel_drewN B4.out _⟩
  · have hbig : (1048576 : Int) < ↑l.length := by omega
    go_enter Try.func3, Try.ntmps3
    go_wp2_with ((go_at_call 8; refine (big_l _ _ _ _).mono ?_; rintro e w' ⟨rfl, rfl⟩))
    go_ret
    exact ⟨rfl, Below.refl _ _⟩
set_option maxRecDepth 100000 in
theorem FnLengths_lifted (os : Os) (started : os.Started) (H : Type) (enc : TypeId × Value → H) :
    ReturnsInHanded {} Try.checked os 3 .any (Rows.fnLengthsSpec.pre6 enc Try.prog Try.f3 Rows.fnLengthsRow.domain false) (Rows.fnLengthsSpec.post enc Try.prog Try.f3 false true false false) := by
  refine returnsInHanded_of_change (C := Try.checked) own started (by kernel_rfl) Try.func3
    (ChangeSpec.witness6 (enc := enc) (C := Try.checked) false ⟨#[], #[.slice none 0 0], []⟩ 8 (by kernel_rfl) (by kernel_rfl) (by kernel_rfl) (by kernel_rfl)) ?_
  intro W base args ds gs before hval0 hW hcnd _
  have hval : ∀ (j : Nat) t v, Try.f3.params[j]? = some t → args[j]? = some v → Value.okWide Try.prog W .any base t v := hval0
  have hW' := hW
  obtain ⟨p, q, hA0, hV, rfl, hfz, hnd⟩ := hW
  have hA : DataW.TrodAll enc Try.prog W 0 (fun _ => true) true Try.f3.params.toList args.toList ds p := hA0
  rw [Try.params3] at hA hval
  obtain ⟨v0, vs0, d0, ds0, p0, q0, hargs, rfl, rfl, h0, r0⟩ := trodAll_cons hA
  obtain ⟨rfl, rfl, rfl⟩ := trodAll_nil r0
  obtain rfl : args = #[v0] := by cases args; simp_all
  obtain ⟨rfl, rfl⟩ := trodVars_none hV
  have k0 := h0
  have lt0 : ∀ x ∈ p0, x.block < W.heap.size := by obtain ⟨m, hm⟩ := k0; exact DataW.trod_lt m _ _ _ hm
  obtain ⟨b0, len0, cap0, rfl⟩ := okWide_slice Try.underlying22 (hval 0 22 v0 rfl rfl)
  obtain ⟨z0, w0⟩ : ∃ zs, IsRow .u8 W b0 len0 cap0 zs := by
    obtain ⟨fuel, hf⟩ := h0
    rcases open_ints Try.underlying22 Try.underlying5 (by kernel_rfl) hf with ⟨hcs, _⟩ | ⟨x, l, c, zs, hcs, _, hl, hm, hz, _, hcell, hwz⟩
    · simp [Value.cells] at hcs
      obtain ⟨rfl, rfl, rfl⟩ := hcs
      exact ⟨[], .inl ⟨rfl, rfl, rfl, rfl⟩⟩
    · simp [Value.cells] at hcs
      obtain ⟨rfl, rfl, rfl⟩ := hcs
      exact ⟨zs, .inr ⟨_, rfl, hl, hm, by simpa using hz, hcell, hwz⟩⟩
  clear hA0 hval0
  refine (law_FnLengths b0 len0 cap0 z0 W w0).mono fun e W' ⟨he, bel⟩ => ?_
  subst he
  exact ⟨_, rfl, _, _, _, [], _, [], hW', trodAll_mk1 (shut_bool Try.underlying4 _), (trodAll_cons_mk (Below.trod laidOut (by kernel_rfl) (of_decide_eq_true (by kernel_rfl)) k0 bel lt0) trodAll_mk0), rfl, bel.frame _, fun h => by cases h⟩

/-- The law 'FnLengths' returns true for every input, and each argument reads afterwards as it read before. -/
theorem FnLengths_holds : Rows.FnLengthsSaid :=
  OpenClaim.holds_of_wide 3 Try.f3 rfl rfl rfl rfl rfl rfl rfl ⟨rfl, rfl, rfl, rfl, rfl⟩ rfl rfl rfl rfl rfl (by kernel_rfl) Try.func3 (by kernel_rfl)
    (of_decide_eq_true (by kernel_rfl)) (by unfold Func.isWrapper; first | (rw [if_pos (by decide +kernel)]; kernel_rfl) | (rw [if_neg (by decide +kernel)]; exact ⟨rfl, rfl⟩))
    (fun os started H enc _ => FnLengths_lifted os started H enc)
#print axioms FnLengths_holds

end Go.Proofs.Ytcmanaklojomeaa
