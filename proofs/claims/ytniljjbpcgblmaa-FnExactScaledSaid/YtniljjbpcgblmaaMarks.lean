/- What the laws do with a slice of integers of the call's own: compare, mark, look again. No condition. -/
import Derived.Test.YtniljjbpcgblmaaOwn
namespace Go.Proofs.Ytniljjbpcgblmaa
open Go.RowKit Go.Deep
set_option linter.unusedVariables false
/-- A slice in a block from lo to hi that holds l. -/
def Sl (lo hi : Nat) (w : World) (a : Option Addr) (l : List Int) : Prop :=
  l.length = 0 ∨ ∃ g cur, a = some ⟨g, 0, none⟩ ∧ lo ≤ g ∧ g < hi ∧ w.heap[g]? = some (.cells cur 3 (0, 0)) ∧ ∀ i, i < l.length → cur[i]? = some (.int .i64 (nth l i))
theorem blk_lt {w : World} {g : Nat} {o : Obj} (h : w.heap[g]? = some o) : g < w.heap.size := (Array.getElem?_eq_some_iff.1 h).1
theorem Sl.made {lo : Nat} {w : World} {g : Nat} {l : List Int} (h : w.heap[g]? = some (.cells (arr l) 3 (0, 0))) (hg : lo ≤ g) : Sl lo w.heap.size w (some ⟨g, 0, none⟩) l :=
  Or.inr ⟨g, arr l, rfl, hg, blk_lt h, h, fun i hi => arr_get l i hi⟩
theorem Sl.of_ow {w W : World} {v : Value} {l : List Int} (h : Ow w W v l) : ∃ a cap, v = .slice a l.length cap ∧ Sl w.heap.size W.heap.size W a l := by
  rcases h.own.2 with ⟨hv, h0⟩ | ⟨g, cap, cur, hv, hb, hg, _, _, _, ht⟩
  · exact ⟨none, 0, by rw [hv, h0], Or.inl h0⟩
  · refine ⟨_, cap, hv, Or.inr ⟨g, cur, rfl, hb, blk_lt hg, hg, fun i hi => ?_⟩⟩
    have : (cur.toList.take (l.length * 1))[i]? = some (.int .i64 (nth l i)) := by rw [ht]; simp [hi, nth, List.getD_eq_getElem?_getD]
    rw [List.getElem?_take] at this
    split at this
    · simpa using this
    · cases this
theorem Sl.rd {lo hi : Nat} {w : World} {a : Option Addr} {l : List Int} (h : Sl lo hi w a l) : Rd w a l := by
  rcases h with h0 | ⟨g, cur, rfl, _, _, hg, hc⟩
  · exact Or.inr h0
  · exact Or.inl ⟨g, 0, rfl, fun i hi => by rw [Joins.cell_of_block hg, Nat.zero_add]; exact hc i hi⟩
theorem Sl.below {lo hi : Nat} {w w' : World} {a : Option Addr} {l : List Int} (h : Sl lo hi w a l) (hb : Below w.heap.size w w') : Sl lo hi w' a l := by
  rcases h with h0 | ⟨g, cur, rfl, h1, h2, hg, hc⟩
  · exact Or.inl h0
  · exact Or.inr ⟨g, cur, rfl, h1, h2, by rw [hb.block g (blk_lt hg)]; exact hg, hc⟩
/-- Only blocks from lo to hi have changed. -/
structure Chg (lo hi : Nat) (w w' : World) : Prop where
  os : w'.os = w.os
  tape : w'.tape = w.tape
  output : w'.output = w.output
  size : w'.heap.size = w.heap.size
  block : ∀ j, j < lo ∨ hi ≤ j → w'.heap[j]? = w.heap[j]?
theorem Chg.refl (lo hi : Nat) (w : World) : Chg lo hi w w := ⟨rfl, rfl, rfl, rfl, fun _ _ => rfl⟩
theorem Chg.set {lo hi : Nat} {w W : World} (h : Chg lo hi w W) {p : Addr} (h1 : lo ≤ p.block) (h2 : p.block < hi) (u : Value) : Chg lo hi w (W.setCell p u) :=
  ⟨h.os, h.tape, h.output, by rw [← h.size]; simp [World.setCell], fun j hj => by rw [Below.heap_setCell _ _ _ _ (by omega)]; exact h.block j hj⟩
theorem Chg.bel {lo hi B : Nat} {w0 w w' : World} (h : Chg lo hi w w') (hb : Below B w0 w) (hB : B ≤ lo) : Below B w0 w' :=
  hb.trans ⟨h.os, h.tape, h.output, by rw [h.size]; exact Nat.le_refl _, fun k hk => h.block k (Or.inl (by omega))⟩
theorem Sl.chg {lo hi lo' hi' : Nat} {w w' : World} {a : Option Addr} {l : List Int} (h : Sl lo hi w a l) (hc : Chg lo' hi' w w') (hd : hi ≤ lo' ∨ hi' ≤ lo) : Sl lo hi w' a l := by
  rcases h with h0 | ⟨g, cur, rfl, h1, h2, hg, hx⟩
  · exact Or.inl h0
  · exact Or.inr ⟨g, cur, rfl, h1, h2, by rw [hc.block g (by omega)]; exact hg, hx⟩
def upto (k : Int) (n : Nat) : List Int := (List.range n).map (fun i : Nat => k + (i : Int))
theorem upto_len (k : Int) (n : Nat) : (upto k n).length = n := by simp [upto]
theorem upto_nth (k : Int) (n i : Nat) (h : i < n) : nth (upto k n) i = k + i := by simp [nth, upto, h, List.getD_eq_getElem?_getD]
/-- In the midst of the marking. -/
structure Mk (lo hi : Nat) (w : World) (g n : Nat) (k : Int) (j : Nat) (W : World) : Prop where
  chg : Chg lo hi w W
  arr : ∃ A, W.heap[g]? = some (.cells A 3 (0, 0)) ∧ n ≤ A.size ∧ ∀ i, i < j → A[i]? = some (.int .i64 (k + i))
theorem Mk.cell {lo hi : Nat} {w W : World} {g n j : Nat} {k : Int} (h : Mk lo hi w g n k j W) (i : Nat) (hi' : i < n) : ∃ v, W.cell? ⟨g, i, none⟩ = some v := by
  obtain ⟨A, hT, hA, _⟩ := h.arr
  exact ⟨A[i]'(by omega), by rw [Joins.cell_of_block hT]; simp [show i < A.size by omega]⟩
theorem Mk.froz {lo hi : Nat} {w W : World} {g n j : Nat} {k : Int} (h : Mk lo hi w g n k j W) (i : Nat) : W.frozen? ⟨g, i, none⟩ = false := by
  obtain ⟨A, hT, _, _⟩ := h.arr
  exact Joins.unfrozen_of_block hT i
theorem Mk.set {lo hi : Nat} {w W : World} {g n j : Nat} {k : Int} (h : Mk lo hi w g n k j W) (h1 : lo ≤ g) (h2 : g < hi) (hj : j < n) : Mk lo hi w g n k (j + 1) (W.setCell ⟨g, j, none⟩ (.int .i64 (k + j))) := by
  refine ⟨h.chg.set h1 h2 _, ?_⟩
  obtain ⟨A, hT, hA, hx⟩ := h.arr
  refine ⟨A.setIfInBounds j (.int .i64 (k + j)), Joins.block_setCell hT _, by simpa using hA, ?_⟩
  intro i hi'
  by_cases e : i = j
  · subst e
    rw [Array.getElem?_setIfInBounds_self_of_lt (by omega)]
  · rw [Array.getElem?_setIfInBounds_ne (by omega)]
    exact hx i (by omega)
set_option maxHeartbeats 800000 in
theorem markIntS_l (lo hi : Nat) (l : List Int) (a : Option Addr) (cap : Nat) (k : Int) (h0 : 0 ≤ k) (h1 : k ≤ 4194304) (hl : l.length ≤ 1048576) (w : World) (hr : Sl lo hi w a l) :
    Calls Try.prog 16 #[.slice a l.length cap, .int .i64 k] w fun e w' => e = .returned (.int .i64 (k + l.length)) ∧ Chg lo hi w w' ∧ Sl lo hi w' a (upto k l.length) := by
  by_cases hz : l.length = 0
  · clear hr
    rw [hz]
    go_enter Try.func16, Try.ntmps16
    go_wp2
    go_loopw [1, 5] (fun kk i wr => i = .int .i64 0 ∧ kk = .int .i64 k ∧ wr = w) (fun _ i _ => 0)
    case atStart => exact ⟨rfl, rfl, rfl⟩
    case round =>
      obtain ⟨rfl, rfl, rfl⟩ := hrel
      go_wp2
      go_ret
      exact ⟨by simp, Chg.refl _ _ _, Or.inl (by rw [upto_len])⟩
  · rcases hr with h | ⟨g, cur, rfl, g1, g2, hg, hc⟩
    · exact absurd h hz
    · have hsz : l.length ≤ cur.size := by
        have := hc (l.length - 1) (by omega)
        have := (Array.getElem?_eq_some_iff.1 this).1
        omega
      have HG := Lib.hid hg
      clear hg hc
      generalize l.length = n at *
      go_enter Try.func16, Try.ntmps16
      go_wp2
      go_loopw [1, 5] (fun kk i wr => ∃ j : Nat, j ≤ n ∧ i = .int .i64 j ∧ kk = .int .i64 (k + j) ∧ Mk lo hi w g n k j wr) (fun _ i _ => n - (intOf i).toNat)
      case atStart => exact ⟨0, Nat.zero_le _, rfl, by simp, Chg.refl _ _ _, cur, HG.out, hsz, fun i hi => by omega⟩
      case round =>
        obtain ⟨j, hj, rfl, rfl, hm⟩ := hrel
        have HM := Lib.hid hm
        clear hm
        by_cases hlt : j < n
        · obtain ⟨v, hv⟩ := HM.out.cell j hlt
          have hf := HM.out.froz j
          go_wp2
          go_roundw
          case rel => exact ⟨j + 1, by omega, by go_num, by go_num, HM.out.set g1 g2 hlt⟩
          case measure => simp [intOf]; omega
        · obtain rfl : j = n := by omega
          go_wp2
          go_ret
          refine ⟨rfl, HM.out.chg, ?_⟩
          obtain ⟨A, hT, hA, hx⟩ := HM.out.arr
          exact Or.inr ⟨g, A, rfl, g1, g2, hT, fun i hi => by rw [upto_len] at hi; rw [upto_nth _ _ _ hi]; exact hx i hi⟩
set_option maxHeartbeats 800000 in
theorem heldIntS_l (n : Nat) (a : Option Addr) (cap : Nat) (k : Int) (h0 : 0 ≤ k) (h1 : k ≤ 4194304) (hl : n ≤ 1048576) (w : World) (hr : Rd w a (upto k n)) :
    Calls Try.prog 17 #[.slice a n cap, .int .i64 k] w fun e w' => e = .returned (.int .i64 (k + n)) ∧ w = w' := by
  have HR := Lib.hid hr
  clear hr
  go_enter Try.func17, Try.ntmps17
  go_wp2
  go_loop [1, 5] (fun kk i => ∃ j : Nat, j ≤ n ∧ i = .int .i64 j ∧ kk = .int .i64 (k + j)) (fun _ i => n - (intOf i).toNat)
  case atStart => exact ⟨0, Nat.zero_le _, rfl, by simp⟩
  case round =>
    obtain ⟨j, hj, rfl, rfl⟩ := hrel
    by_cases hlt : j < n
    · rcases HR.out with ⟨b, off, rfl, hcell⟩ | hz
      · have hc := hcell j (by rw [upto_len]; exact hlt)
        rw [upto_nth _ _ _ hlt] at hc
        clear hcell
        go_wp2
        go_round
        case rel => exact ⟨j + 1, by omega, by go_num, by go_num⟩
        case measure => simp [intOf]; omega
      · rw [upto_len] at hz; omega
    · obtain rfl : j = n := by omega
      go_wp2
      go_ret
      exact ⟨rfl, rfl⟩
set_option maxHeartbeats 800000 in
theorem eqIntSR_l (l : List Int) (a b : Option Addr) (c1 c2 : Nat) (hl : l.length ≤ 1048576) (w : World) (hA : Rd w a l) (hB : Rd w b l) :
    Calls Try.prog 13 #[.slice a l.length c1, .slice b l.length c2] w fun e w' => e = .returned (.bool true) ∧ Below w.heap.size w w' := by
  have HC := Lib.hid hA
  have HD := Lib.hid hB
  clear hA hB
  go_enter Try.func13, Try.ntmps13
  go_wp2
  go_loopw [5] (fun i wr => Below w.heap.size w wr ∧ ∃ k : Nat, k ≤ l.length ∧ i = .int .i64 k) (fun i _ => l.length - (intOf i).toNat)
  case atStart => exact ⟨Below.refl _ _, 0, Nat.zero_le _, rfl⟩
  case round =>
    obtain ⟨hbel, k, hk, rfl⟩ := hrel
    by_cases hlt : k < l.length
    · rcases HC.out with ⟨b1, o1, rfl, hc1⟩ | hz
      · rcases HD.out with ⟨b2, o2, rfl, hc2⟩ | hz
        · have hc := hc1 k hlt
          have hd := hc2 k hlt
          have hc' := (hbel.cell (World.block_lt_of_cell? _ _ hc)).trans hc
          have hd' := (hbel.cell (World.block_lt_of_cell? _ _ hd)).trans hd
          clear hc hd hc1 hc2
          have i0 : (0 : Int) ≤ ↑k := by omega
          have i1 : (k : Int) < ↑l.length := by omega
          have HB := Lib.hid hbel
          clear hbel
          go_wp2
          go_quiet (fail)
          go_wp2
          go_roundw
          case rel => exact ⟨bel_drewN HB.out _, k + 1, by omega, by go_num⟩
          case measure => simp [intOf]; omega
        · omega
      · omega
    · go_wp2
      go_ret
      exact ⟨rfl, hbel⟩
end Go.Proofs.Ytniljjbpcgblmaa
