/- Contracts of ReadDecimal. Conditions: the library's tables and sentinel hold what the program's text lays. -/
import Derived.Test.YtdkinllmmdlpiaaDoorDoor
import Derived.Test.YtdkinllmmdlpiaaDoorShelfA
import Derived.Lib.AtoiBound
import Derived.Lib.AtoiErrMem
namespace Go.Proofs.YtdkinllmmdlpiaaDoor
open Go.ChangeShapes Go.WideShapes Go.ChangeAt Go.WideMaps Go.WideElems Go.RowKit
set_option linter.unusedVariables false
theorem gES : Tryd.prog.globalNamed "strconv.ErrSyntax" = some 0 := by kernel_rfl
theorem star : "*" ++ "errors.errorString" = "*errors.errorString" := by decide
theorem rowES (u : TypeId) (h : Tryd.prog.typeName? 3 u = some "*errors.errorString") : u = 90 :=
  typeName_ptr_named (nm := "errors.errorString") (by rw [star]; kernel_rfl) (by kernel_rfl) (by decide) u (by rw [star]; exact h)
/-- The sentinel. -/
def ErrSyn (W : World) : Prop := ∃ tp p, W.var? Tryd.prog "strconv.ErrSyntax" = some #[.iface tp p]
theorem ErrSyn.below {w W : World} (h : ErrSyn w) (hb : Below w.heap.size w W) : ErrSyn W := by
  obtain ⟨tp, p, hv⟩ := h
  exact ⟨tp, p, Joins.var_stays gES hv hb (Nat.le_refl _)⟩
theorem err5 {W : World} (h : laidMet Tryd.prog Rows.fnExactReadDecimalRow.laid W) : ErrSyn W := by
  obtain ⟨a0, s0, hv0, -, -, -⟩ := laid_sentinel (laidMet.tail (laidMet.tail (laidMet.tail (laidMet.tail h)))) gES (ti := 48) (by kernel_rfl) Tryd.underlying48 rowES Tryd.underlying90 Tryd.underlying92 rfl rfl Tryd.underlying9 (by kernel_rfl) (by kernel_rfl)
  exact ⟨_, _, hv0⟩
theorem take_all (s : ByteArray) : s.data.toList.take s.size = s.data.toList := List.take_of_length_le (by simp)
theorem byte_get {s : ByteArray} {k : Nat} (hk : k < s.size) : s.data.toList[k]? = some s[k] := by
  have h : k < s.data.size := hk
  rw [Array.getElem?_toList, Array.getElem?_eq_getElem h]
  rfl
theorem bytes_eq {a b : ByteArray} (h : (a.toList == b.toList) = true) : a = b := by
  have h2 := eq_of_beq h
  rw [ByteArray.toList_eq, ByteArray.toList_eq] at h2
  exact ByteArray.ext (Array.toList_inj.mp h2)
theorem bytes_ne {a b : ByteArray} (h : (a.toList == b.toList) = false) : a ≠ b := fun e => by
  rw [e] at h
  simp at h
/-- k figures read, their number m. -/
def Rd10 (s : ByteArray) (k m : Nat) : Prop := Lib.decFrom 0 (s.data.toList.take k) = some m
theorem Rd10.bound {s : ByteArray} {k m : Nat} (h : Rd10 s k m) (hk : k ≤ 10) : m ≤ 9999999999 := by
  have h1 := Lib.decFrom_lt _ _ _ h
  have h2 : (s.data.toList.take k).length ≤ k := List.length_take_le _ _
  have h3 : 10 ^ (s.data.toList.take k).length ≤ 10 ^ 10 := Nat.pow_le_pow_right (by decide) (by omega)
  have h4 : (10 : Nat) ^ 10 = 10000000000 := by decide
  omega
theorem Rd10.succ {s : ByteArray} {k m : Nat} (h : Rd10 s k m) (hk : k < s.size) (h1 : 48 ≤ (s[k].toNat : Int)) (h2 : (s[k].toNat : Int) ≤ 57) : Rd10 s (k + 1) (m * 10 + (s[k].toNat - 48)) :=
  Lib.decFrom_take _ k 0 m s[k] (s[k].toNat - 48) h (byte_get hk) (by unfold Lib.digitVal; rw [if_pos (by omega)])
theorem Rd10.all {s : ByteArray} {m n : Nat} (h : Rd10 s s.size m) (hr : Reads10 s n) : n = m := by
  have h1 := reads_from hr
  unfold Rd10 at h
  rw [take_all, h1] at h
  exact Option.some.inj h
theorem reads_digit {s : ByteArray} {n k : Nat} (hr : Reads10 s n) (hk : k < s.size) : 48 ≤ (s[k].toNat : Int) ∧ (s[k].toNat : Int) ≤ 57 := by
  obtain ⟨d, hd⟩ := Lib.digit_of_decFrom _ _ _ (reads_from hr) k s[k] (byte_get hk)
  have := Lib.digitVal_eq hd
  omega
def GivesN (s : ByteArray) (w : World) (e : Ending) (w' : World) : Prop := e = .returned (.tuple #[.int .i64 (readN s), .bool (readB s)]) ∧ Below w.heap.size w w'
theorem GivesN.no {s : ByteArray} {w w' : World} (h : ¬ ∃ n, Reads10 s n) (hb : Below w.heap.size w w') : GivesN s w (.returned (.tuple #[.int .i64 0, .bool false])) w' := by
  obtain ⟨e1, e2⟩ := read_no h
  exact ⟨by rw [e1, e2], hb⟩
theorem GivesN.yes {s : ByteArray} {w w' : World} {n : Nat} (h : Reads10 s n) (hb : Below w.heap.size w w') : GivesN s w (.returned (.tuple #[.int .i64 n, .bool true])) w' := by
  obtain ⟨e1, e2⟩ := read_yes h
  exact ⟨by rw [e1, e2], hb⟩
set_option maxHeartbeats 1600000 in
theorem readDec_s (s : ByteArray) (w : World) : Calls Tryd.prog 10 #[.string s] w (GivesN s w) := by
  by_cases hb : 10 < s.size
  · have HE : Hid (¬ ∃ n, Reads10 s n) := Lib.hid (fun ⟨n, h⟩ => by have := reads_size h; omega)
    go_enter Tryd.func10, Tryd.ntmps10
    go_wp2
    go_ret2
    exact GivesN.no HE.out (Below.refl _ _)
  · go_enter Tryd.func10, Tryd.ntmps10
    go_wp2
    go_loop [4, 5] (fun n i => ∃ k m : Nat, k ≤ s.size ∧ i = .int .i64 k ∧ n = .int .i64 m ∧ Rd10 s k m) (fun _ i => s.size - (intOf i).toNat)
    case atStart => exact ⟨0, 0, Nat.zero_le _, rfl, rfl, rfl⟩
    case round =>
      obtain ⟨k, m, hk, rfl, rfl, hr⟩ := hrel
      have hm := hr.bound (by omega)
      have HR := Lib.hid hr
      clear hr
      by_cases hlt : k < s.size
      · obtain ⟨b0, b1⟩ := byte_bd s[k]
        by_cases c1 : (s[k].toNat : Int) < 48
        · have HE : Hid (¬ ∃ n, Reads10 s n) := Lib.hid (fun ⟨n, h⟩ => by have := reads_digit h hlt; omega)
          go_wp2
          go_ret2
          exact GivesN.no HE.out (Below.refl _ _)
        · by_cases c2 : 57 < (s[k].toNat : Int)
          · have HE : Hid (¬ ∃ n, Reads10 s n) := Lib.hid (fun ⟨n, h⟩ => by have := reads_digit h hlt; omega)
            go_wp2
            go_ret2
            exact GivesN.no HE.out (Below.refl _ _)
          · have HS := Lib.hid (HR.out.succ hlt (by omega) (by omega))
            have HQ : Hid (((m * 10 + (s[k].toNat - 48) : Nat) : Int) = 10 * (m : Int) + (s[k].toNat : Int) - 48) := Lib.hid (by omega)
            go_wp2
            go_round
            case rel => exact ⟨k + 1, _, by omega, by go_num, by rw [HQ.out], HS.out⟩
            case measure => simp [intOf]; omega
      · obtain rfl : k = s.size := by omega
        by_cases c1 : 1000000000 < m
        · have HE : Hid (¬ ∃ n, Reads10 s n) := Lib.hid (fun ⟨n, h⟩ => by have := HR.out.all h; have := h.1; omega)
          have c2 : (1000000000 : Int) < ↑m := by omega
          go_wp2
          go_ret2
          exact GivesN.no HE.out (Below.refl _ _)
        · have c2 : ¬ (1000000000 : Int) < ↑m := by omega
          have HI : Hid (In64 (m : Int)) := Lib.hid ⟨by omega, by omega⟩
          rcases Bool.eq_false_or_eq_true ((decS (m : Int)).toList == s.toList) with hq | hq
          · have HE : Hid (Reads10 s m) := Lib.hid ⟨by omega, (bytes_eq hq).symm⟩
            go_wp2_with (go_at_call 8; refine (decimal_s _ HI.out _).mono ?_; rintro e w1 ⟨rfl, hb1⟩; replace hb1 := Lib.hid hb1)
            go_ret2
            exact GivesN.yes HE.out hb1.out
          · have HE : Hid (¬ ∃ n, Reads10 s n) := Lib.hid (fun ⟨n, h⟩ => by have e := HR.out.all h; rw [e] at h; exact bytes_ne hq h.2.symm)
            go_wp2_with (go_at_call 8; refine (decimal_s _ HI.out _).mono ?_; rintro e w1 ⟨rfl, hb1⟩; replace hb1 := Lib.hid hb1)
            go_ret2
            exact GivesN.no HE.out hb1.out
set_option maxHeartbeats 1600000 in
theorem readDec_i (s : ByteArray) (w : World) (hT : Pow10 w) (hE : ErrSyn w) : Calls Tryd.prog 11 #[.string s] w (GivesN s w) := by
  have HT := Lib.hid hT
  have HS := Lib.hid hE
  clear hT hE
  by_cases h0 : s.size = 0
  · have HE : Hid (¬ ∃ n, Reads10 s n) := Lib.hid (fun ⟨n, h⟩ => by have := reads_size h; omega)
    go_enter Tryd.func11, Tryd.ntmps11
    go_wp2
    go_ret2
    exact GivesN.no HE.out (Below.refl _ _)
  · have h1 : 1 ≤ s.size := by omega
    clear h0
    by_cases hb : 10 < s.size
    · have HE : Hid (¬ ∃ n, Reads10 s n) := Lib.hid (fun ⟨n, h⟩ => by have := reads_size h; omega)
      go_enter Tryd.func11, Tryd.ntmps11
      go_wp2
      go_ret2
      exact GivesN.no HE.out (Below.refl _ _)
    · have hl : s.size ≤ 18 := by omega
      cases ha : Lib.atoi s.data.toList with
      | none =>
        have HE : Hid (¬ ∃ n, Reads10 s n) := Lib.hid (fun ⟨n, h⟩ => by rw [reads_atoi h] at ha; cases ha)
        obtain ⟨tp, p, hv⟩ := HS.out
        have HC := Lib.hid (Tryd.strconv_Atoi_err_var s hl ha tp p w hv)
        clear ha hv
        go_enter Tryd.func11, Tryd.ntmps11
        go_wp2_with fail
        refine HC.out.mono ?_
        rintro e w1 ⟨N, rfl, _, _, hb1⟩
        have B1 := Lib.hid hb1
        clear hb1
        go_wp2_with fail
        go_ret2
        exact GivesN.no HE.out B1.out
      | some n =>
        obtain ⟨n1, n2⟩ := Lib.atoi_bound ha (by rw [← Lib.size_eq]; exact hl)
        have HC := Lib.hid (Tryd.strconv_Atoi s n hl ha w)
        have HU : Hid (∀ m, Reads10 s m → n = m) := Lib.hid (fun m h => by rw [reads_atoi h] at ha; injection ha with ha; exact ha.symm)
        clear ha
        by_cases c1 : n < 0
        · have HE : Hid (¬ ∃ n, Reads10 s n) := Lib.hid (fun ⟨m, h⟩ => by have := HU.out m h; omega)
          go_enter Tryd.func11, Tryd.ntmps11
          go_wp2_with fail
          refine HC.out.mono ?_
          rintro e w1 ⟨rfl, t, rfl⟩
          have B1 := Lib.hid (Lib.bytesWorld_below w 5 t)
          go_wp2_with fail
          go_ret2
          exact GivesN.no HE.out B1.out
        · by_cases c2 : 1000000000 < n
          · have HE : Hid (¬ ∃ n, Reads10 s n) := Lib.hid (fun ⟨m, h⟩ => by have := HU.out m h; have := h.1; omega)
            go_enter Tryd.func11, Tryd.ntmps11
            go_wp2_with fail
            refine HC.out.mono ?_
            rintro e w1 ⟨rfl, t, rfl⟩
            have B1 := Lib.hid (Lib.bytesWorld_below w 5 t)
            go_wp2_with fail
            go_ret2
            exact GivesN.no HE.out B1.out
          · obtain ⟨m, rfl⟩ : ∃ m : Nat, n = m := ⟨n.toNat, by omega⟩
            have HI : Hid (In64 (m : Int)) := Lib.hid ⟨by omega, by omega⟩
            clear n1 n2
            rcases Bool.eq_false_or_eq_true ((decS (m : Int)).toList == s.toList) with hq | hq
            · have HE : Hid (Reads10 s m) := Lib.hid ⟨by omega, (bytes_eq hq).symm⟩
              go_enter Tryd.func11, Tryd.ntmps11
              go_wp2_with fail
              refine HC.out.mono ?_
              rintro e w1 ⟨rfl, t, rfl⟩
              have B1 := Lib.hid (Lib.bytesWorld_below w 5 t)
              generalize Lib.bytesWorld w 5 t = w1 at *
              go_wp2_with (go_at_call 9; refine (decimal_i _ HI.out _ (HT.out.below B1.out)).mono ?_; rintro e w2 ⟨rfl, hb1⟩; replace hb1 := Lib.hid hb1)
              go_ret2
              exact GivesN.yes HE.out (bel_call B1.out hb1.out)
            · have HE : Hid (¬ ∃ n, Reads10 s n) := Lib.hid (fun ⟨k, h⟩ => by have e := HU.out k h; rw [e] at hq; exact bytes_ne hq h.2.symm)
              go_enter Tryd.func11, Tryd.ntmps11
              go_wp2_with fail
              refine HC.out.mono ?_
              rintro e w1 ⟨rfl, t, rfl⟩
              have B1 := Lib.hid (Lib.bytesWorld_below w 5 t)
              generalize Lib.bytesWorld w 5 t = w1 at *
              go_wp2_with (go_at_call 9; refine (decimal_i _ HI.out _ (HT.out.below B1.out)).mono ?_; rintro e w2 ⟨rfl, hb1⟩; replace hb1 := Lib.hid hb1)
              go_ret2
              exact GivesN.no HE.out (bel_call B1.out hb1.out)
end Go.Proofs.YtdkinllmmdlpiaaDoor
