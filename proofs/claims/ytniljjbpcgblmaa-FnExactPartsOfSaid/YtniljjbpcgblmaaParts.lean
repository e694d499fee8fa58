/- Contracts of PartsOf. No condition. -/
import Derived.Test.YtniljjbpcgblmaaMarkS
namespace Go.Proofs.Ytniljjbpcgblmaa
open Go.RowKit Go.Deep
set_option linter.unusedVariables false
theorem infoStr : (Try.prog.info? 9).map (fun i => (i.zero, i.size, i.bytes)) = some (some (.string ⟨#[]⟩), 1, 16) := by kernel_rfl
theorem wpList_appt {w W : World} {v : Value} {l : List ByteArray} (h : Ot w W v l) {ops : Array Oper} {rest : List Oper} {o : Oper} {a : Act} {Q : Exit → Act → World → Prop} (hgd : o.guard = none) (s x : Operand)
    (ho : o.op = .call { callee := .builtin .append, args := #[s, x], argTypes := #[37, 37] })
    (y : ByteArray) (hs : a.eval s = v) (hx : a.eval x = .slice (some ⟨W.heap.size, 0, none⟩) 1 1) (hl : l.length ≤ 1048576)
    (hK : ∀ v' w1, Ot w w1 v' (l ++ [y]) → wpList Try.prog ops Q rest (a.put o.dst v') w1) : wpList Try.prog ops Q (o :: rest) a (W.alloc (.cells #[.string y] 9)) := by
  obtain ⟨i0, hi, hz0, hz1, hz2⟩ := info_parts infoStr
  exact wpList_appg Try.underlying37 hi hz0 hz1 hz2 rfl (by decide) h hgd s x ho [.string y] (by intro u hu; simp at hu; subst hu; rfl) hs hx (by simp; omega) (fun v' w1 k => hK v' w1 (by unfold Ot; rw [List.map_append]; exact k))
def GivesP (s : ByteArray) (w : World) (e : Ending) (w' : World) : Prop := ∃ v, e = .returned (.tuple #[v, .bool (partsB s)]) ∧ Ot w w' v (partsR s)
theorem GivesP.no {s : ByteArray} {w w' : World} {v : Value} (h : partsB s = false ∧ partsR s = []) (hv : Ot w w' v []) : GivesP s w (.returned (.tuple #[v, .bool false])) w' := ⟨v, by rw [h.1], by rw [h.2]; exact hv⟩
theorem GivesP.yes {s : ByteArray} {w w' : World} {v : Value} (h : partsB s = true ∧ partsR s = partsL s) (hv : Ot w w' v (partsL s)) : GivesP s w (.returned (.tuple #[v, .bool true])) w' := ⟨v, by rw [h.1], by rw [h.2]; exact hv⟩
/-- In the midst of a line, k bytes read; bg: where the part begins. -/
structure Pin (s : ByteArray) (k bg : Nat) (w wr : World) (v : Value) : Prop where
  beg : bg = (pTo s k).beg
  line : Line s (min k s.size)
  own : Ot w wr v (pTo s k).out
theorem Pin.le {s : ByteArray} {k bg : Nat} {w wr : World} {v : Value} (h : Pin s k bg w wr v) : bg ≤ k := by rw [h.beg]; exact pTo_beg s k
theorem Pin.start {s : ByteArray} {w wr : World} {v : Value} (h : Ot w wr v []) : Pin s 0 0 w wr v := ⟨rfl, fun j hj => absurd hj (by simp), h⟩
theorem Line.mono {s : ByteArray} {k m : Nat} (h : Line s k) (hm : m ≤ k) : Line s m := fun j hj => h j (by omega)
/-- A byte within a part. -/
theorem Pin.go {s : ByteArray} {k bg : Nat} {w wr : World} {v : Value} (h : Pin s k bg w wr v) (hk : k < s.size) (h1 : 32 ≤ (s[k].toNat : Int)) (h2 : (s[k].toNat : Int) ≤ 126) (h3 : ¬ (s[k].toNat : Int) = 32) : Pin s (k + 1) bg w wr v := by
  have hl : Line s k := h.line.mono (by omega)
  obtain ⟨e1, e2⟩ := pTo_in (gap_no hk h3)
  exact ⟨by rw [e2]; exact h.beg, (hl.succ hk h1 h2).mono (by omega), by rw [e1]; exact h.own⟩
theorem Pin.lineTo {s : ByteArray} {k bg : Nat} {w wr : World} {v : Value} (h : Pin s k bg w wr v) (hk : s.size ≤ k) : Line s s.size := by
  have := h.line; rwa [Nat.min_eq_right hk] at this
/-- A part ends. -/
theorem Pin.cut {s : ByteArray} {k bg : Nat} {w wr w1 : World} {v v' : Value} (h : Pin s k bg w wr v) (hg : gapAt s k = true) (hl : Line s (min (k + 1) s.size)) (hb : bg < k) (h1 : Ot w w1 v' ((pTo s k).out ++ [s.extract bg k])) : Pin s (k + 1) (k + 1) w w1 v' := by
  obtain ⟨e1, e2⟩ := pTo_gap hg (by rw [← h.beg]; exact hb)
  exact ⟨e2.symm, hl, by rw [e1, ← h.beg]; exact h1⟩
theorem Pin.gap {s : ByteArray} {k bg : Nat} {w wr : World} {v : Value} (h : Pin s k bg w wr v) (hg : gapAt s k = true) (hl : Line s (min (k + 1) s.size)) (hb : ¬ bg < k) : Pin s (k + 1) (k + 1) w wr v := by
  obtain ⟨e1, e2⟩ := pTo_gap0 hg (by rw [← h.beg]; exact hb)
  exact ⟨e2.symm, hl, by rw [e1]; exact h.own⟩
theorem Pin.lineSp {s : ByteArray} {k bg : Nat} {w wr : World} {v : Value} (h : Pin s k bg w wr v) (hk : k < s.size) (h3 : (s[k].toNat : Int) = 32) : Line s (min (k + 1) s.size) :=
  (Line.succ (h.line.mono (by omega)) hk (by omega) (by omega)).mono (by omega)
theorem Pin.lineEnd {s : ByteArray} {bg : Nat} {w wr : World} {v : Value} (h : Pin s s.size bg w wr v) : Line s (min (s.size + 1) s.size) := (h.lineTo (Nat.le_refl _)).mono (by omega)
theorem Pin.len {s : ByteArray} {k bg : Nat} {w wr : World} {v : Value} (h : Pin s k bg w wr v) (hk : k ≤ 601) : (pTo s k).out.length ≤ 1048576 := Nat.le_trans (pTo_len s k) (by omega)
def fromOf (k bg : Nat) : Int := if bg = k then -1 else bg
set_option maxHeartbeats 3200000 in
theorem partsOf_s (s : ByteArray) (hs : s.size ≤ 1048576) (w : World) : Calls Try.prog 26 #[.string s] w (GivesP s w) := by
  by_cases hb : 600 < s.size
  · have HE := Lib.hid (parts_no (s := s) (by omega))
    go_enter Try.func26, Try.ntmps26
    go_wp2
    go_ret2
    exact GivesP.no HE.out (Og.made (Below.refl _ _))
  · go_enter Try.func26, Try.ntmps26
    go_wp2
    go_loopw [4, 5, 6] (fun v b i wr => ∃ k bg : Nat, k ≤ s.size + 1 ∧ i = .int .i64 k ∧ b = .int .i64 bg ∧ Pin s k bg w wr v) (fun _ _ i _ => s.size + 1 - (intOf i).toNat)
    case atStart => exact ⟨0, 0, by omega, rfl, rfl, Pin.start (Og.made (Below.refl _ _))⟩
    case round =>
      obtain ⟨k, bg, hk, rfl, rfl, hp⟩ := hrel
      have hle := hp.le
      have HP := Lib.hid hp
      clear hp
      by_cases hlt : k < s.size
      · obtain ⟨b0, b1⟩ := byte_bd s[k]
        have i0 : (0 : Int) ≤ ↑k := by omega
        have i1 : (k : Int) < ↑s.size := by omega
        have i2 : ¬ k = s.size := by omega
        by_cases c1 : (s[k].toNat : Int) < 32
        · have HE := Lib.hid (parts_no (s := s) (fun h => line_no hlt (Or.inl c1) h.2.1))
          have c3 : ¬ (s[k].toNat : Int) = 32 := by omega
          go_wp2
          go_ret2
          exact GivesP.no HE.out (Og.made HP.out.own.bel)
        · skip
          by_cases c2 : 126 < (s[k].toNat : Int)
          · have HE := Lib.hid (parts_no (s := s) (fun h => line_no hlt (Or.inr c2) h.2.1))
            have c3 : ¬ (s[k].toNat : Int) = 32 := by omega
            go_wp2
            go_ret2
            exact GivesP.no HE.out (Og.made HP.out.own.bel)
          · skip
            by_cases c3 : (s[k].toNat : Int) = 32
            · have HG := Lib.hid (gap_sp hlt c3)
              have HN := Lib.hid (HP.out.lineSp hlt c3)
              by_cases c4 : bg < k
              · go_wp2_with (at_builtin; go_loud ((apply wpList_appt (s := .tmp 48) (x := .tmp 53) HP.out.own); (· rfl); (· rfl); (· rfl); (· rfl); (· exact HP.out.len (by omega)); (intro v' w1 h1)))
                go_roundw
                case rel => exact ⟨k + 1, k + 1, by omega, by go_num, by go_num, HP.out.cut HG.out HN.out c4 h1⟩
                case measure => simp [intOf]; omega
              · go_wp2
                go_roundw
                case rel => exact ⟨k + 1, k + 1, by omega, by go_num, by go_num, HP.out.gap HG.out HN.out c4⟩
                case measure => simp [intOf]; omega
            · go_wp2
              go_roundw
              case rel => exact ⟨k + 1, bg, by omega, by go_num, rfl, HP.out.go hlt (by omega) (by omega) c3⟩
              case measure => simp [intOf]; omega
      · by_cases hk2 : k = s.size
        · subst hk2
          have HG := Lib.hid (gap_end s)
          have HN := Lib.hid HP.out.lineEnd
          by_cases c4 : bg < s.size
          · go_wp2_with (at_builtin; go_loud ((apply wpList_appt (s := .tmp 48) (x := .tmp 53) HP.out.own); (· rfl); (· rfl); (· rfl); (· rfl); (· exact HP.out.len (by omega)); (intro v' w1 h1)))
            go_roundw
            case rel => exact ⟨s.size + 1, s.size + 1, by omega, by go_num, by go_num, HP.out.cut HG.out HN.out c4 h1⟩
            case measure => simp [intOf]
          · go_wp2
            go_roundw
            case rel => exact ⟨s.size + 1, s.size + 1, by omega, by go_num, by go_num, HP.out.gap HG.out HN.out c4⟩
            case measure => simp [intOf]
        · obtain rfl : k = s.size + 1 := by omega
          have HL := Lib.hid (HP.out.lineTo (by omega))
          have hov : Ot w wr u4 (partsL s) := HP.out.own
          obtain ⟨a, cap, rfl, _⟩ := Ss.of_ot hov
          have HO := Lib.hid hov
          clear hov
          have hx : ¬ (s.size : Int) + 1 ≤ ↑s.size := by omega
          by_cases c5 : 12 < (partsL s).length
          · have HE := Lib.hid (parts_no (s := s) (fun h => absurd h.2.2 (by omega)))
            have hn : (12 : Int) < ↑(partsL s).length := by omega
            go_wp2
            go_ret2
            exact GivesP.no HE.out (Og.made HP.out.own.bel)
          · have HE := Lib.hid (parts_yes (s := s) ⟨by omega, HL.out, by omega⟩)
            have hn : ¬ (12 : Int) < ↑(partsL s).length := by omega
            go_wp2
            go_ret2
            exact GivesP.yes HE.out HO.out
set_option maxHeartbeats 3200000 in
theorem partsOf_i (s : ByteArray) (hs : s.size ≤ 1048576) (w : World) : Calls Try.prog 27 #[.string s] w (GivesP s w) := by
  by_cases hb : 600 < s.size
  · have HE := Lib.hid (parts_no (s := s) (by omega))
    go_enter Try.func27, Try.ntmps27
    go_wp2
    go_ret2
    exact GivesP.no HE.out (Og.nilB (Below.refl _ _))
  · go_enter Try.func27, Try.ntmps27
    go_wp2
    go_loopw [4, 5, 6] (fun v b i wr => ∃ k bg : Nat, k ≤ s.size + 1 ∧ i = .int .i64 k ∧ b = .int .i64 (fromOf k bg) ∧ Pin s k bg w wr v) (fun _ _ i _ => s.size + 1 - (intOf i).toNat)
    case atStart => exact ⟨0, 0, by omega, rfl, rfl, Pin.start (Og.nilB (Below.refl _ _))⟩
    case round =>
      obtain ⟨k, bg, hk, rfl, rfl, hp⟩ := hrel
      have hle := hp.le
      have HP := Lib.hid hp
      clear hp
      by_cases hlt : k < s.size
      · obtain ⟨b0, b1⟩ := byte_bd s[k]
        have i0 : (0 : Int) ≤ ↑k := by omega
        have i1 : (k : Int) < ↑s.size := by omega
        have i2 : ¬ k = s.size := by omega
        have i3 : ((k : Int) == (s.size : Int)) = false := by simp; omega
        by_cases c1 : (s[k].toNat : Int) < 32
        · have HE := Lib.hid (parts_no (s := s) (fun h => line_no hlt (Or.inl c1) h.2.1))
          have c3 : ((s[k].toNat : Int) == 32) = false := by simp; omega
          go_wp2
          go_ret2
          exact GivesP.no HE.out (Og.nilB HP.out.own.bel)
        · skip
          by_cases c2 : 126 < (s[k].toNat : Int)
          · have HE := Lib.hid (parts_no (s := s) (fun h => line_no hlt (Or.inr c2) h.2.1))
            have c3 : ((s[k].toNat : Int) == 32) = false := by simp; omega
            go_wp2
            go_ret2
            exact GivesP.no HE.out (Og.nilB HP.out.own.bel)
          · skip
            by_cases c3 : (s[k].toNat : Int) = 32
            · have c3b : ((s[k].toNat : Int) == 32) = true := by simpa using c3
              have HG := Lib.hid (gap_sp hlt c3)
              have HN := Lib.hid (HP.out.lineSp hlt c3)
              by_cases c4 : bg < k
              · have hfr : fromOf k bg = (bg : Int) := by rw [fromOf, if_neg (by omega)]
                rw [hfr]
                clear hfr
                go_wp2_with (at_builtin; go_loud ((apply wpList_appt (s := .tmp 28) (x := .tmp 33) HP.out.own); (· rfl); (· rfl); (· rfl); (· rfl); (· exact HP.out.len (by omega)); (intro v' w1 h1)))
                go_roundw
                case rel => exact ⟨k + 1, k + 1, by omega, by go_num, by rw [fromOf, if_pos rfl], HP.out.cut HG.out HN.out c4 h1⟩
                case measure => simp [intOf]; omega
              · have hfr : fromOf k bg = -1 := by rw [fromOf, if_pos (by omega)]
                rw [hfr]
                clear hfr
                go_wp2
                go_roundw
                case rel => exact ⟨k + 1, k + 1, by omega, by go_num, by rw [fromOf, if_pos rfl], HP.out.gap HG.out HN.out c4⟩
                case measure => simp [intOf]; omega
            · have c3b : ((s[k].toNat : Int) == 32) = false := by simpa using c3
              by_cases c4 : bg = k
              · have hfr : fromOf k bg = -1 := by rw [fromOf, if_pos (by omega)]
                rw [hfr]
                clear hfr
                go_wp2
                go_roundw
                case rel => exact ⟨k + 1, bg, by omega, by go_num, by rw [fromOf, if_neg (by omega), c4], HP.out.go hlt (by omega) (by omega) c3⟩
                case measure => simp [intOf]; omega
              · have hfr : fromOf k bg = (bg : Int) := by rw [fromOf, if_neg (by omega)]
                rw [hfr]
                clear hfr
                go_wp2
                go_roundw
                case rel => exact ⟨k + 1, bg, by omega, by go_num, by rw [fromOf, if_neg (by omega)], HP.out.go hlt (by omega) (by omega) c3⟩
                case measure => simp [intOf]; omega
      · by_cases hk2 : k = s.size
        · subst hk2
          have HG := Lib.hid (gap_end s)
          have HN := Lib.hid HP.out.lineEnd
          by_cases c4 : bg < s.size
          · have hfr : fromOf s.size bg = (bg : Int) := by rw [fromOf, if_neg (by omega)]
            rw [hfr]
            clear hfr
            go_wp2_with (at_builtin; go_loud ((apply wpList_appt (s := .tmp 28) (x := .tmp 33) HP.out.own); (· rfl); (· rfl); (· rfl); (· rfl); (· exact HP.out.len (by omega)); (intro v' w1 h1)))
            go_roundw
            case rel => exact ⟨s.size + 1, s.size + 1, by omega, by go_num, by rw [fromOf, if_pos rfl], HP.out.cut HG.out HN.out c4 h1⟩
            case measure => simp [intOf]
          · have hfr : fromOf s.size bg = -1 := by rw [fromOf, if_pos (by omega)]
            rw [hfr]
            clear hfr
            go_wp2
            go_roundw
            case rel => exact ⟨s.size + 1, s.size + 1, by omega, by go_num, by rw [fromOf, if_pos rfl], HP.out.gap HG.out HN.out c4⟩
            case measure => simp [intOf]
        · obtain rfl : k = s.size + 1 := by omega
          have HL := Lib.hid (HP.out.lineTo (by omega))
          have hov : Ot w wr u4 (partsL s) := HP.out.own
          obtain ⟨a, cap, rfl, _⟩ := Ss.of_ot hov
          have HO := Lib.hid hov
          clear hov
          have hx : ¬ (s.size : Int) + 1 ≤ ↑s.size := by omega
          by_cases c5 : 12 < (partsL s).length
          · have HE := Lib.hid (parts_no (s := s) (fun h => absurd h.2.2 (by omega)))
            have hn : (12 : Int) < ↑(partsL s).length := by omega
            go_wp2
            go_ret2
            exact GivesP.no HE.out (Og.nilB HP.out.own.bel)
          · have HE := Lib.hid (parts_yes (s := s) ⟨by omega, HL.out, by omega⟩)
            have hn : ¬ (12 : Int) < ↑(partsL s).length := by omega
            go_wp2
            go_ret2
            exact GivesP.yes HE.out HO.out
end Go.Proofs.Ytniljjbpcgblmaa
