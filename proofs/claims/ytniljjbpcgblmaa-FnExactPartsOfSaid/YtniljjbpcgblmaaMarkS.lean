/- What the laws do with a slice of strings of the call's own: compare, mark, look again. No condition. -/
import Derived.Test.YtniljjbpcgblmaaMarkT
import Derived.Deep.RegionWith
namespace Go.Proofs.Ytniljjbpcgblmaa
open Go.RowKit Go.Deep
set_option linter.unusedVariables false
/-- The element at k, under a name that the walk does not open. -/
def sth (l : List ByteArray) (k : Nat) : ByteArray := l.getD k ByteArray.empty
def Rs (w : World) (a : Option Addr) (l : List ByteArray) : Prop := (∃ b off, a = some ⟨b, off, none⟩ ∧ ∀ i, i < l.length → w.cell? ⟨b, off + i, none⟩ = some (.string (sth l i))) ∨ l.length = 0
/-- A slice in a block from lo to hi that holds l. -/
def Ss (lo hi : Nat) (w : World) (a : Option Addr) (l : List ByteArray) : Prop :=
  l.length = 0 ∨ ∃ g cur, a = some ⟨g, 0, none⟩ ∧ lo ≤ g ∧ g < hi ∧ w.heap[g]? = some (.cells cur 9 (0, 0)) ∧ ∀ i, i < l.length → cur[i]? = some (.string (sth l i))
theorem sblk_lt {w : World} {g : Nat} {o : Obj} (h : w.heap[g]? = some o) : g < w.heap.size := (Array.getElem?_eq_some_iff.1 h).1
def Ot (w W : World) (v : Value) (l : List ByteArray) : Prop := Og 9 w W v (l.map Value.string)
theorem Ss.of_ot {w W : World} {v : Value} {l : List ByteArray} (h : Ot w W v l) : ∃ a cap, v = .slice a l.length cap ∧ Ss w.heap.size W.heap.size W a l := by
  obtain ⟨a, cap, hv, hc⟩ := Og.cell h
  rw [List.length_map] at hv
  refine ⟨a, cap, hv, ?_⟩
  rcases hc with h0 | ⟨g, cur, ha, hb, hg, hx⟩
  · exact Or.inl (by simpa using h0)
  · refine Or.inr ⟨g, cur, ha, hb, sblk_lt hg, hg, fun i hi => ?_⟩
    rw [hx i (by simpa using hi)]
    simp [sth, hi, List.getD_eq_getElem?_getD]
theorem Ss.rd {lo hi : Nat} {w : World} {a : Option Addr} {l : List ByteArray} (h : Ss lo hi w a l) : Rs w a l := by
  rcases h with h0 | ⟨g, cur, rfl, _, _, hg, hc⟩
  · exact Or.inr h0
  · exact Or.inl ⟨g, 0, rfl, fun i hi => by rw [Joins.cell_of_block hg, Nat.zero_add]; exact hc i hi⟩
theorem Ss.below {lo hi : Nat} {w w' : World} {a : Option Addr} {l : List ByteArray} (h : Ss lo hi w a l) (hb : Below w.heap.size w w') : Ss lo hi w' a l := by
  rcases h with h0 | ⟨g, cur, rfl, h1, h2, hg, hc⟩
  · exact Or.inl h0
  · exact Or.inr ⟨g, cur, rfl, h1, h2, by rw [hb.block g (sblk_lt hg)]; exact hg, hc⟩
/-- Of what there was only blocks from lo to hi have changed. -/
structure Chs (lo hi : Nat) (w w' : World) : Prop where
  os : w'.os = w.os
  tape : w'.tape = w.tape
  output : w'.output = w.output
  size : w.heap.size ≤ w'.heap.size
  block : ∀ j, j < w.heap.size → j < lo ∨ hi ≤ j → w'.heap[j]? = w.heap[j]?
theorem Chs.refl (lo hi : Nat) (w : World) : Chs lo hi w w := ⟨rfl, rfl, rfl, Nat.le_refl _, fun _ _ _ => rfl⟩
theorem Chs.set {lo hi : Nat} {w W : World} (h : Chs lo hi w W) {p : Addr} (h1 : lo ≤ p.block) (h2 : p.block < hi) (u : Value) : Chs lo hi w (W.setCell p u) :=
  ⟨h.os, h.tape, h.output, by have := h.size; simpa [World.setCell] using this, fun j hs hj => by rw [Below.heap_setCell _ _ _ _ (by omega)]; exact h.block j hs hj⟩
theorem Chs.below {lo hi : Nat} {w W W' : World} (h : Chs lo hi w W) (hb : Below W.heap.size W W') : Chs lo hi w W' :=
  ⟨hb.os.trans h.os, hb.tape.trans h.tape, hb.output.trans h.output, Nat.le_trans h.size hb.size, fun j hs hj => (hb.block j (Nat.lt_of_lt_of_le hs h.size)).trans (h.block j hs hj)⟩
theorem Chs.bel {lo hi B : Nat} {w0 w w' : World} (h : Chs lo hi w w') (hb : Below B w0 w) (hB : B ≤ lo) (hS : B ≤ w.heap.size) : Below B w0 w' :=
  hb.trans ⟨h.os, h.tape, h.output, h.size, fun k hk => h.block k (by omega) (Or.inl (by omega))⟩
theorem Ss.chg {lo hi lo' hi' : Nat} {w w' : World} {a : Option Addr} {l : List ByteArray} (h : Ss lo hi w a l) (hc : Chs lo' hi' w w') (hd : hi ≤ lo' ∨ hi' ≤ lo) : Ss lo hi w' a l := by
  rcases h with h0 | ⟨g, cur, rfl, h1, h2, hg, hx⟩
  · exact Or.inl h0
  · exact Or.inr ⟨g, cur, rfl, h1, h2, by rw [hc.block g (sblk_lt hg) (by omega)]; exact hg, hx⟩
def mks (k n : Nat) : List ByteArray := (List.range n).map (fun i => mtxt (k + i))
theorem mks_len (k n : Nat) : (mks k n).length = n := by simp [mks]
theorem mks_nth (k n i : Nat) (h : i < n) : sth (mks k n) i = mtxt (k + i) := by simp [sth, mks, h, List.getD_eq_getElem?_getD]
/-- In the midst of the marking. -/
structure Ms (lo hi : Nat) (w : World) (g n k j : Nat) (W : World) : Prop where
  chg : Chs lo hi w W
  arr : ∃ A, W.heap[g]? = some (.cells A 9 (0, 0)) ∧ n ≤ A.size ∧ ∀ i, i < j → A[i]? = some (.string (mtxt (k + i)))
theorem Ms.cell {lo hi : Nat} {w W : World} {g n k j : Nat} (h : Ms lo hi w g n k j W) (i : Nat) (hi' : i < n) : ∃ v, W.cell? ⟨g, i, none⟩ = some v := by
  obtain ⟨A, hT, hA, _⟩ := h.arr
  exact ⟨A[i]'(by omega), by rw [Joins.cell_of_block hT]; simp [show i < A.size by omega]⟩
theorem Ms.froz {lo hi : Nat} {w W : World} {g n k j : Nat} (h : Ms lo hi w g n k j W) (i : Nat) : W.frozen? ⟨g, i, none⟩ = false := by
  obtain ⟨A, hT, _, _⟩ := h.arr
  exact Joins.unfrozen_of_block hT i
theorem Ms.below {lo hi : Nat} {w W W' : World} {g n k j : Nat} (h : Ms lo hi w g n k j W) (hb : Below W.heap.size W W') : Ms lo hi w g n k j W' := by
  obtain ⟨A, hT, hA⟩ := h.arr
  exact ⟨h.chg.below hb, A, by rw [hb.block g (sblk_lt hT)]; exact hT, hA⟩
theorem Ms.set {lo hi : Nat} {w W : World} {g n k j : Nat} (h : Ms lo hi w g n k j W) (h1 : lo ≤ g) (h2 : g < hi) (hj : j < n) : Ms lo hi w g n k (j + 1) (W.setCell ⟨g, j, none⟩ (.string (mtxt (k + j)))) := by
  refine ⟨h.chg.set h1 h2 _, ?_⟩
  obtain ⟨A, hT, hA, hx⟩ := h.arr
  refine ⟨A.setIfInBounds j (.string (mtxt (k + j))), Joins.block_setCell hT _, by simpa using hA, ?_⟩
  intro i hi'
  by_cases e : i = j
  · subst e
    rw [Array.getElem?_setIfInBounds_self_of_lt (by omega)]
  · rw [Array.getElem?_setIfInBounds_ne (by omega)]
    exact hx i (by omega)
set_option maxHeartbeats 800000 in
theorem eqStringSR_l (l : List ByteArray) (a b : Option Addr) (c1 c2 : Nat) (hl : l.length ≤ 1048576) (w : World) (hA : Rs w a l) (hB : Rs w b l) :
    Calls Try.prog 28 #[.slice a l.length c1, .slice b l.length c2] w fun e w' => e = .returned (.bool true) ∧ Below w.heap.size w w' := by
  have HC := Lib.hid hA
  have HD := Lib.hid hB
  clear hA hB
  go_enter Try.func28, Try.ntmps28
  go_wp2
  go_loopw [5] (fun i wr => Below w.heap.size w wr ∧ ∃ k : Nat, k ≤ l.length ∧ i = .int .i64 k) (fun i _ => l.length - (intOf i).toNat)
  case atStart => exact ⟨Below.refl _ _, 0, Nat.zero_le _, rfl⟩
  case round =>
    obtain ⟨hbel, k, hk, rfl⟩ := hrel
    by_cases hlt : k < l.length
    · rcases HC.out with ⟨b1, o1, rfl, hx⟩ | hz
      · rcases HD.out with ⟨b2, o2, rfl, hy⟩ | hz
        · have hc' := (hbel.cell (World.block_lt_of_cell? _ _ (hx k hlt))).trans (hx k hlt)
          have hd' := (hbel.cell (World.block_lt_of_cell? _ _ (hy k hlt))).trans (hy k hlt)
          have i0 : (0 : Int) ≤ ↑k := by omega
          have i1 : (k : Int) < ↑l.length := by omega
          have HB := Lib.hid hbel
          clear hbel hx hy
          go_wp2
          go_quiet (fail)
          go_wp2
          go_roundw
          case rel => exact ⟨bel_drewN HB.out _, k + 1, by omega, by go_num⟩
          case measure => simp [intOf]; omega
        · omega
      · omega
    · go_wp2
      go_ret
      exact ⟨rfl, hbel⟩
set_option maxHeartbeats 800000 in
theorem markStringS_l (lo hi : Nat) (l : List ByteArray) (a : Option Addr) (cap k : Nat) (h0 : 1 ≤ k) (h1 : k ≤ 4194304) (hl : l.length ≤ 1048576) (w : World) (hr : Ss lo hi w a l) :
    Calls Try.prog 29 #[.slice a l.length cap, .int .i64 k] w fun e w' => e = .returned (.int .i64 ((k + l.length : Nat) : Int)) ∧ Chs lo hi w w' ∧ Ss lo hi w' a (mks k l.length) := by
  by_cases hz : l.length = 0
  · clear hr
    rw [hz]
    go_enter Try.func29, Try.ntmps29
    go_wp2
    go_loopw [1, 5] (fun kk i wr => i = .int .i64 0 ∧ kk = .int .i64 k ∧ wr = w) (fun _ i _ => 0)
    case atStart => exact ⟨rfl, rfl, rfl⟩
    case round =>
      obtain ⟨rfl, rfl, rfl⟩ := hrel
      go_wp2
      go_ret
      exact ⟨by simp, Chs.refl _ _ _, Or.inl (by rw [mks_len])⟩
  · rcases hr with h | ⟨g, cur, rfl, g1, g2, hg, hc⟩
    · exact absurd h hz
    · have hsz : l.length ≤ cur.size := by
        have := hc (l.length - 1) (by omega)
        have := (Array.getElem?_eq_some_iff.1 this).1
        omega
      have HG := Lib.hid hg
      clear hg hc
      generalize l.length = n at *
      go_enter Try.func29, Try.ntmps29
      go_wp2
      go_loopw [1, 5] (fun kk i wr => ∃ j m : Nat, j ≤ n ∧ i = .int .i64 j ∧ m = k + j ∧ kk = .int .i64 m ∧ Ms lo hi w g n k j wr) (fun _ i _ => n - (intOf i).toNat)
      case atStart => exact ⟨0, k, Nat.zero_le _, rfl, rfl, rfl, Chs.refl _ _ _, cur, HG.out, hsz, fun i hi => by omega⟩
      case round =>
        obtain ⟨j, m, hj, rfl, hm, rfl, hM⟩ := hrel
        have HM := Lib.hid hM
        have hm1 : m ≤ 9999999 := by omega
        have hm0 : 1 ≤ m := by omega
        have HE := Lib.hid hm
        clear hM hm
        by_cases hlt : j < n
        · have i0 : (0 : Int) ≤ ↑j := by omega
          have i1 : (j : Int) < ↑n := by omega
          go_wp2_with fail
          refine (markText_l m hm0 hm1 _).mono ?_
          rintro e w1 ⟨rfl, hb⟩
          have HN := Lib.hid (HM.out.below hb)
          clear hb
          obtain ⟨v, hv⟩ := HN.out.cell j hlt
          have hf := HN.out.froz j
          go_wp2_with fail
          go_roundw
          case rel => exact ⟨j + 1, m + 1, by omega, by go_num, by have := HE.out; omega, by go_num, by rw [HE.out]; exact HN.out.set g1 g2 hlt⟩
          case measure => simp [intOf]; omega
        · obtain rfl : j = n := by omega
          go_wp2
          go_ret
          refine ⟨by rw [HE.out]; rfl, HM.out.chg, ?_⟩
          obtain ⟨A, hT, hA, hx⟩ := HM.out.arr
          exact Or.inr ⟨g, A, rfl, g1, g2, hT, fun i hi => by rw [mks_len] at hi; rw [mks_nth _ _ _ hi]; exact hx i hi⟩
set_option maxHeartbeats 1600000 in
theorem heldStringS_l (n : Nat) (a : Option Addr) (cap k : Nat) (h0 : 1 ≤ k) (h1 : k ≤ 4194304) (hl : n ≤ 1048576) (w : World) (hr : Rs w a (mks k n)) :
    Calls Try.prog 30 #[.slice a n cap, .int .i64 k] w fun e w' => e = .returned (.int .i64 ((k + n : Nat) : Int)) ∧ Below w.heap.size w w' := by
  have HR := Lib.hid hr
  clear hr
  go_enter Try.func30, Try.ntmps30
  go_wp2
  go_loopw [1, 5] (fun kk i wr => ∃ j m : Nat, j ≤ n ∧ i = .int .i64 j ∧ m = k + j ∧ kk = .int .i64 m ∧ Below w.heap.size w wr) (fun _ i _ => n - (intOf i).toNat)
  case atStart => exact ⟨0, k, Nat.zero_le _, rfl, rfl, rfl, Below.refl _ _⟩
  case round =>
    obtain ⟨j, m, hj, rfl, hm, rfl, hbel⟩ := hrel
    by_cases hlt : j < n
    · rcases HR.out with ⟨b, off, rfl, hcell⟩ | hz
      · have hc := hcell j (by rw [mks_len]; exact hlt)
        rw [mks_nth _ _ _ hlt, ← hm] at hc
        have hc' := (hbel.cell (World.block_lt_of_cell? _ _ hc)).trans hc
        have hlb : b < wr.heap.size := World.block_lt_of_cell? _ _ hc'
        have hm1 : m ≤ 9999999 := by omega
        have hm0 : 1 ≤ m := by omega
        have i0 : (0 : Int) ≤ ↑j := by omega
        have i1 : (j : Int) < ↑n := by omega
        have HE := Lib.hid hm
        have HB := Lib.hid hbel
        clear hcell hc hm hbel
        go_wp2
        go_region_with (go_at_call 44; refine (markText_l m hm0 hm1 _).mono ?_; rintro e w1 ⟨rfl, hb⟩; have hc2 := (hb.cell (p := ⟨b, off + j, none⟩) (by simpa using hlb)).trans hc'; replace hb := Lib.hid hb)
        all_goals go_wp2
        all_goals go_roundw
        all_goals (first | exact ⟨j + 1, m + 1, by omega, by go_num, by have := HE.out; omega, by go_num, bel_call HB.out.drew hb.out⟩ | (simp [intOf]; omega))
      · rw [mks_len] at hz; omega
    · obtain rfl : j = n := by omega
      go_wp2
      go_ret
      exact ⟨by rw [hm]; rfl, hbel⟩
end Go.Proofs.Ytniljjbpcgblmaa
