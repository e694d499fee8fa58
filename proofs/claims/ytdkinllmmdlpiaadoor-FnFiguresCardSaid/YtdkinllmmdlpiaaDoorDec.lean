/- The contract of the reference's Decimal: every number's numeral. No condition. -/
import Derived.Test.YtdkinllmmdlpiaaDoorDecM
import Derived.Test.YtdkinllmmdlpiaaDoorMarkT
namespace Go.Proofs.YtdkinllmmdlpiaaDoor
open Go.RowKit Go.Deep
set_option linter.unusedVariables false
set_option maxHeartbeats 400000 in
theorem figr_s (x : Int) (h0 : 0 ≤ x) (h1 : x ≤ 9) (w : World) :
    Calls Tryd.prog 31 #[.int .i64 x] w fun e w' => e = .returned (.int .u8 (48 + x)) ∧ w = w' := by
  go_enter Tryd.func31, Tryd.ntmps31
  go_wp2
  all_goals (go_ret; exact ⟨ret_int (by omega), rfl⟩)
theorem dec_zero : decS 0 = ⟨#[48]⟩ := by
  rw [show (0 : Int) = ((0 : Nat) : Int) from rfl, decS_nat, dec_one (by decide)]; rfl
theorem dec_pos {N : Nat} (h : N ≠ 0) : decS (N : Int) = figs N ⟨#[]⟩ := by
  rw [decS_nat, figs_dec (N + 1) N (by omega) h]
  apply ByteArray.ext
  simp
theorem dec_neg {N : Nat} (h : N ≠ 0) : decS (-(N : Int)) = ⟨#[45]⟩ ++ figs N ⟨#[]⟩ := by
  unfold decS Lib.itoa
  rw [if_pos (by omega), figs_dec (N + 1) N (by omega) h]
  apply ByteArray.ext
  simp
theorem pow_size {s m N : Nat} (h : 10 ^ s * m ≤ N) (hm : 1 ≤ m) (hN : N ≤ 9223372036854775808) : s ≤ 18 := by
  refine Nat.le_of_not_lt fun hs => ?_
  have h1 : 10 ^ 19 ≤ 10 ^ s := Nat.pow_le_pow_right (by decide) (by omega)
  have h2 : 10 ^ s * 1 ≤ 10 ^ s * m := Nat.mul_le_mul_left _ hm
  have h3 : (10 : Nat) ^ 19 = 10000000000000000000 := by decide
  omega
theorem pow_step {s m N : Nat} (h : 10 ^ s * m ≤ N) : 10 ^ (1 + s) * (m / 10) ≤ N := by
  refine Nat.le_trans ?_ h
  rw [Nat.add_comm, Nat.pow_succ, Nat.mul_assoc]
  exact Nat.mul_le_mul_left _ (Nat.mul_div_le m 10)
theorem neg_mod {z : Int} (hz : z ≤ 0) : -(z.tmod 10) = (z.natAbs : Int) % 10 ∧ -9 ≤ z.tmod 10 ∧ z.tmod 10 ≤ 0 := by
  obtain ⟨n, rfl⟩ : ∃ n : Nat, z = -(n : Int) := ⟨z.natAbs, by omega⟩
  rw [Int.neg_tmod, Int.tmod_eq_emod_of_nonneg (by omega)]
  simp
  omega
theorem neg_div {z : Int} (hz : z ≤ 0) : (z.tdiv 10).natAbs = z.natAbs / 10 ∧ z.tdiv 10 ≤ 0 ∧ z ≤ z.tdiv 10 := by
  obtain ⟨n, rfl⟩ : ∃ n : Nat, z = -(n : Int) := ⟨z.natAbs, by omega⟩
  rw [Int.neg_tdiv, Int.tdiv_eq_ediv_of_nonneg (by omega)]
  refine ⟨?_, by omega, by omega⟩
  simp
  omega
/-- In the midst of the figures. -/
def Figp (N : Nat) (w : World) (n s : Value) (wr : World) : Prop := ∃ (m : Nat) (acc : ByteArray), n = .int .i64 m ∧ s = .string acc ∧ m ≤ N ∧ 10 ^ acc.size * m ≤ N ∧ acc.size ≤ 20 ∧ figs m acc = figs N ⟨#[]⟩ ∧ Below w.heap.size w wr
def Fign (N : Nat) (w : World) (n s : Value) (wr : World) : Prop := ∃ (z : Int) (acc : ByteArray), n = .int .i64 z ∧ s = .string acc ∧ z ≤ 0 ∧ z.natAbs ≤ N ∧ 10 ^ acc.size * z.natAbs ≤ N ∧ acc.size ≤ 20 ∧ figs z.natAbs acc = figs N ⟨#[]⟩ ∧ Below w.heap.size w wr
set_option maxRecDepth 20000 in
set_option maxHeartbeats 1600000 in
theorem decimal_s (n : Int) (hn : In64 n) (w : World) :
    Calls Tryd.prog 8 #[.int .i64 n] w fun e w' => e = .returned (.string (decS n)) ∧ Below w.heap.size w w' := by
  obtain ⟨hn1, hn2⟩ := hn
  rcases Int.lt_trichotomy n 0 with hneg | rfl | hpos
  · obtain ⟨N, hN⟩ : ∃ N, N = n.natAbs := ⟨_, rfl⟩
    have HN1 : Hid (N ≤ 9223372036854775808) := Lib.hid (by omega)
    have HE : Hid (decS n = ⟨#[45]⟩ ++ figs N ⟨#[]⟩) := Lib.hid (by rw [← dec_neg (by omega), hN]; congr 1; omega)
    have HN := Lib.hid hN
    have h0 : (n == 0) = false := by simp; omega
    clear hN hn1 hn2
    go_enter Tryd.func8, Tryd.ntmps8
    go_wp2
    go_loopw [0, 4] (fun n s wr => Fign N w n s wr) (fun n _ _ => (intOf n).natAbs)
    case atStart => exact ⟨n, ⟨#[]⟩, rfl, rfl, by omega, by rw [HN.out]; exact Nat.le_refl _, by rw [HN.out]; show 1 * n.natAbs ≤ n.natAbs; omega, by decide, by rw [HN.out], Below.refl _ _⟩
    case round =>
      obtain ⟨z, acc, rfl, rfl, hz, hzN, hp, hs, hf, hb⟩ := hrel
      have HF := Lib.hid hf
      have HB := Lib.hid hb
      have HP := Lib.hid hp
      clear hf hb hp
      by_cases hlt : z = 0
      · subst hlt
        have HM : Hid (decS n = ⟨#[45]⟩ ++ acc) := Lib.hid (by rw [HE.out, ← HF.out]; simp [figs_zero])
        have hsz : ¬ 9223372036854775807 < 1 + acc.size := by omega
        go_wp2
        go_ret
        exact ⟨by rw [HM.out]; rfl, HB.out⟩
      · have hm : z.natAbs ≠ 0 := by omega
        obtain ⟨t1, t2, t3⟩ := neg_mod hz
        obtain ⟨v1, v2, v3⟩ := neg_div hz
        have hs18 := pow_size HP.out (by omega) HN1.out
        have HS := Lib.hid (figs_step' hm acc)
        have HT := Lib.hid t1
        have hb0 : (z == 0) = false := by simpa using hlt
        have hw : wrap64 (z.tdiv 10) = z.tdiv 10 := wrap_in ⟨by have := HN1.out; omega, by omega⟩
        rw [← hw] at v1 v2 v3
        have HV := Lib.hid v1
        clear hw v1
        clear t1
        by_cases ht : z.tmod 10 < 0
        · have hcv := conv1 wr (48 + -(z.tmod 10))
          have HZ := Lib.hid (size_one (48 + -(z.tmod 10)) acc)
          have hsz : ¬ 9223372036854775807 < (strOf [48 + -(z.tmod 10)]).size + acc.size := by rw [strOf_size]; simp; omega
          go_wp2_with ((go_at_call 31; refine (figr_s _ (by omega) (by omega) _).mono ?_; rintro e w' ⟨rfl, rfl⟩))
          go_roundw
          case rel => exact ⟨_, _, rfl, rfl, v2, by omega, by rw [HZ.out, HV.out]; exact pow_step HP.out, by rw [HZ.out]; omega, by rw [HV.out, HT.out, ← HS.out]; exact HF.out, bel_alloc HB.out _⟩
          case measure => have := HV.out; simp [intOf]; omega
        · have ht0 : z.tmod 10 = 0 := by omega
          have hcv := conv1 wr 48
          have HZ := Lib.hid (size_one 48 acc)
          have hsz : ¬ 9223372036854775807 < (strOf [48]).size + acc.size := by rw [strOf_size]; simp; omega
          clear ht t2 t3
          have HT0 : Hid (strOf [48 + (z.natAbs : Int) % 10] = strOf [48]) := Lib.hid (by rw [← HT.out, ht0]; rfl)
          go_wp2_with ((go_at_call 31; refine (figr_s _ (by omega) (by omega) _).mono ?_; rintro e w' ⟨rfl, rfl⟩))
          go_roundw
          case rel => exact ⟨_, _, rfl, rfl, v2, by omega, by rw [HZ.out, HV.out]; exact pow_step HP.out, by rw [HZ.out]; omega, by rw [HV.out, ← HT0.out, ← HS.out]; exact HF.out, bel_alloc HB.out _⟩
          case measure => have := HV.out; simp [intOf]; omega
  · go_enter Tryd.func8, Tryd.ntmps8
    go_wp2
    go_ret
    exact ⟨by rw [dec_zero]; rfl, Below.refl _ _⟩
  · obtain ⟨N, rfl⟩ : ∃ N : Nat, n = N := ⟨n.toNat, by omega⟩
    have HN1 : Hid (N ≤ 9223372036854775808) := Lib.hid (by omega)
    have HN2 : Hid (N ≤ 9223372036854775807) := Lib.hid (by omega)
    have HE := Lib.hid (dec_pos (N := N) (by omega))
    have h0 : ((N : Int) == 0) = false := by simp; omega
    clear hn1 hn2
    go_enter Tryd.func8, Tryd.ntmps8
    go_wp2
    go_loopw [0, 4] (fun n s wr => Figp N w n s wr) (fun n _ _ => (intOf n).natAbs)
    case atStart => exact ⟨N, ⟨#[]⟩, rfl, rfl, Nat.le_refl _, by show 1 * N ≤ N; omega, by decide, rfl, Below.refl _ _⟩
    case round =>
      obtain ⟨m, acc, rfl, rfl, hmN, hp, hs, hf, hb⟩ := hrel
      have HF := Lib.hid hf
      have HB := Lib.hid hb
      have HP := Lib.hid hp
      clear hf hb hp
      by_cases hlt : m = 0
      · subst hlt
        have HM : Hid (decS N = acc) := Lib.hid (by rw [HE.out, ← HF.out, figs_zero])
        go_wp2
        go_ret
        exact ⟨by rw [HM.out]; rfl, HB.out⟩
      · have hs18 := pow_size HP.out (by omega) HN1.out
        have hm63 : (m : Int) ≤ 9223372036854775807 := by have := HN2.out; omega
        have HS := Lib.hid (figs_step' hlt acc)
        have hcv := conv1 wr (48 + (m : Int) % 10)
        have HZ := Lib.hid (size_one (48 + (m : Int) % 10) acc)
        have hsz : ¬ 9223372036854775807 < (strOf [48 + (m : Int) % 10]).size + acc.size := by rw [strOf_size]; simp; omega
        go_wp2_with ((go_at_call 31; refine (figr_s _ (by omega) (by omega) _).mono ?_; rintro e w' ⟨rfl, rfl⟩))
        go_roundw
        case rel => exact ⟨m / 10, _, by simp, rfl, by omega, by rw [HZ.out]; exact pow_step HP.out, by rw [HZ.out]; omega, by rw [← HS.out]; exact HF.out, bel_alloc HB.out _⟩
        case measure => simp [intOf]; omega
end Go.Proofs.YtdkinllmmdlpiaaDoor
