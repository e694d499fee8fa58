/- Contracts over slices of integers: a slice that the call has made itself, read by a loop. No condition. -/
import Derived.Test.YtljaagjdaolonaaCore2
import Derived.Lib.SmallJoins
import Derived.LoopTactic
import Derived.Deep.OwnRows
namespace Go.Proofs.Ytljaagjdaolonaa
open Go.RowKit Go.Deep
set_option linter.unusedVariables false
/-- The element at k, under a name that the walk does not open. -/
def nth (l : List Int) (k : Nat) : Int := l.getD k 0
/-- A list as cells. -/
def arr (l : List Int) : Array Value := (l.map (Value.int .i64)).toArray
theorem arr_size (l : List Int) : (arr l).size = l.length := by simp [arr]
theorem arr_get (l : List Int) (i : Nat) (h : i < l.length) : (arr l)[i]? = some (.int .i64 (nth l i)) := by
  simp [arr, h, nth, List.getD_eq_getElem?_getD]
theorem infoInt : (Try.prog.info? 3).map (fun i => (i.zero, i.size, i.bytes)) = some (some (.int .i64 0), 1, 8) := by kernel_rfl
/-- A slice of the call's own that holds l. -/
def Made (l : List Int) (w : World) (e : Ending) (w' : World) : Prop :=
  ∃ g, e = .returned (.slice (some ⟨g, 0, none⟩) l.length l.length) ∧ w.heap.size ≤ g ∧ w'.heap[g]? = some (.cells (arr l) 3 (0, 0)) ∧ Below w.heap.size w w'
theorem cell_made {W : World} {g : Nat} {l : List Int} {T : TypeId} (h : W.heap[g]? = some (.cells (arr l) T (0, 0))) : ∀ i, i < l.length → W.cell? ⟨g, i, none⟩ = some (.int .i64 (nth l i)) := fun i hi => by
  rw [Joins.cell_of_block h]; exact arr_get l i hi
theorem totalOf_take (l : List Int) (k : Nat) (h : k < l.length) : totalOf (l.take (k + 1)) = totalOf (l.take k) + signed (nth l k) := by
  induction l generalizing k with
  | nil => simp at h
  | cons x l ih =>
    cases k with
    | zero => simp [totalOf, nth]
    | succ k =>
      simp only [List.take_succ_cons, totalOf]
      rw [ih k (by simpa using h)]
      simp [nth, List.getD_eq_getElem?_getD]
      omega
theorem totalOf_bd (l : List Int) (k : Nat) : -(1048576 * (k : Int)) ≤ totalOf (l.take k) ∧ totalOf (l.take k) ≤ 1048576 * (k : Int) := by
  induction l generalizing k with
  | nil => simp [totalOf]; omega
  | cons x l ih =>
    cases k with
    | zero => simp [totalOf]
    | succ k =>
      have h1 := ih k
      have h2 := signed_le x
      simp only [List.take_succ_cons, totalOf]
      omega
set_option maxHeartbeats 800000 in
theorem totalOf_i (l : List Int) (g : Nat) (hl : l.length ≤ 1048576) (w : World) (hA : w.heap[g]? = some (.cells (arr l) 3 (0, 0))) :
    Calls Try.prog 42 #[.slice (some ⟨g, 0, none⟩) l.length l.length] w fun e w' => e = .returned (.int .i64 (totalOf l)) ∧ w = w' := by
  have HC := Lib.hid (cell_made hA)
  clear hA
  go_enter Try.func42, Try.ntmps42
  go_wp2
  go_loop [3, 8] (fun t i => ∃ k : Nat, k ≤ l.length ∧ i = .int .i64 k ∧ t = .int .i64 (totalOf (l.take k))) (fun _ i => l.length - (intOf i).toNat)
  case atStart => exact ⟨0, Nat.zero_le _, rfl, rfl⟩
  case round =>
    obtain ⟨k, hk, rfl, rfl⟩ := hrel
    by_cases hlt : k < l.length
    · have hc := HC.out k hlt
      have hb := totalOf_bd l k
      have hs := signed_le (nth l k)
      have HT := Lib.hid (totalOf_take l k hlt)
      have b1 : -1099511627776 ≤ totalOf (l.take k) := by omega
      have b2 : totalOf (l.take k) ≤ 1099511627776 := by omega
      obtain ⟨s1, s2⟩ := hs
      clear hb
      go_wp2_with ((go_at_call 54; refine (signed_i _ _).mono ?_; rintro e w' ⟨rfl, rfl⟩))
      go_round
      case rel => exact ⟨k + 1, by omega, by go_num, by rw [HT.out]⟩
      case measure => simp [intOf]; omega
    · go_wp2
      go_ret
      exact ⟨ret_int (by rw [List.take_of_length_le (by omega)]), rfl⟩
set_option maxHeartbeats 800000 in
theorem totalOf_s (l : List Int) (g : Nat) (hl : l.length ≤ 1048576) (w : World) (hA : w.heap[g]? = some (.cells (arr l) 3 (0, 0))) :
    Calls Try.prog 40 #[.slice (some ⟨g, 0, none⟩) l.length l.length] w fun e w' => e = .returned (.int .i64 (totalOf l)) ∧ w = w' := by
  have HC := Lib.hid (cell_made hA)
  clear hA
  go_enter Try.func40, Try.ntmps40
  go_wp2
  go_loop [3, 4] (fun t i => ∃ k : Nat, k ≤ l.length ∧ i = .int .i64 k ∧ t = .int .i64 (totalOf (l.take k))) (fun _ i => l.length - (intOf i).toNat)
  case atStart => exact ⟨0, Nat.zero_le _, rfl, rfl⟩
  case round =>
    obtain ⟨k, hk, rfl, rfl⟩ := hrel
    by_cases hlt : k < l.length
    · have hc := HC.out k hlt
      have hb := totalOf_bd l k
      have hs := signed_le (nth l k)
      have HT := Lib.hid (totalOf_take l k hlt)
      have b1 : -1099511627776 ≤ totalOf (l.take k) := by omega
      have b2 : totalOf (l.take k) ≤ 1099511627776 := by omega
      obtain ⟨s1, s2⟩ := hs
      clear hb
      go_wp2_with ((go_at_call 51; refine (signed_s _ _).mono ?_; rintro e w' ⟨rfl, rfl⟩))
      go_round
      case rel => exact ⟨k + 1, by omega, by go_num, by rw [HT.out]⟩
      case measure => simp [intOf]; omega
    · go_wp2
      go_ret
      exact ⟨ret_int (by rw [List.take_of_length_le (by omega)]), rfl⟩
set_option maxHeartbeats 800000 in
theorem wanting_i (n : Int) (l : List Int) (g : Nat) (hl : l.length ≤ 1048576) (w : World) (hA : w.heap[g]? = some (.cells (arr l) 3 (0, 0))) :
    Calls Try.prog 45 #[.int .i64 n, .slice (some ⟨g, 0, none⟩) l.length l.length] w fun e w' => e = .returned (.int .i64 (wrap64 (n - totalOf l))) ∧ w = w' := by
  have HA := Lib.hid hA
  clear hA
  go_enter Try.func45, Try.ntmps45
  go_wp2_with (go_at_call 42; refine (totalOf_i l g hl _ HA.out).mono ?_; rintro e w' ⟨rfl, rfl⟩)
  go_ret
  exact ⟨rfl, rfl⟩
set_option maxHeartbeats 800000 in
theorem wanting_s (n : Int) (l : List Int) (g : Nat) (hl : l.length ≤ 1048576) (w : World) (hA : w.heap[g]? = some (.cells (arr l) 3 (0, 0))) :
    Calls Try.prog 44 #[.int .i64 n, .slice (some ⟨g, 0, none⟩) l.length l.length] w fun e w' => e = .returned (.int .i64 (wrap64 (n - totalOf l))) ∧ w = w' := by
  have HA := Lib.hid hA
  clear hA
  go_enter Try.func44, Try.ntmps44
  go_wp2_with (go_at_call 40; refine (totalOf_s l g hl _ HA.out).mono ?_; rintro e w' ⟨rfl, rfl⟩)
  go_ret
  exact ⟨rfl, rfl⟩
set_option maxHeartbeats 800000 in
theorem eqIntS_l (l : List Int) (g h : Nat) (hl : l.length ≤ 1048576) (w : World) (hA : w.heap[g]? = some (.cells (arr l) 3 (0, 0))) (hB : w.heap[h]? = some (.cells (arr l) 3 (0, 0))) :
    Calls Try.prog 43 #[.slice (some ⟨g, 0, none⟩) l.length l.length, .slice (some ⟨h, 0, none⟩) l.length l.length] w fun e w' => e = .returned (.bool true) ∧ Below w.heap.size w w' := by
  have HC := Lib.hid (cell_made hA)
  have HD := Lib.hid (cell_made hB)
  clear hA hB
  go_enter Try.func43, Try.ntmps43
  go_wp2
  go_loopw [5] (fun i wr => Below w.heap.size w wr ∧ ∃ k : Nat, k ≤ l.length ∧ i = .int .i64 k) (fun i _ => l.length - (intOf i).toNat)
  case atStart => exact ⟨Below.refl _ _, 0, Nat.zero_le _, rfl⟩
  case round =>
    obtain ⟨hbel, k, hk, rfl⟩ := hrel
    by_cases hlt : k < l.length
    · have hc := HC.out k hlt
      have hd := HD.out k hlt
      have hc' := (hbel.cell (World.block_lt_of_cell? _ _ hc)).trans hc
      have hd' := (hbel.cell (World.block_lt_of_cell? _ _ hd)).trans hd
      clear hc hd
      have i0 : (0 : Int) ≤ ↑k := by omega
      have i1 : (k : Int) < ↑l.length := by omega
      have HB := Lib.hid hbel
      clear hbel
      go_wp2
      go_quiet (fail)
      go_wp2
      go_goals
      go_roundw
      case rel => exact ⟨bel_drewN HB.out _, k + 1, by omega, by go_num⟩
      case measure => simp [intOf]; omega
    · go_wp2
      go_ret
      exact ⟨rfl, hbel⟩
end Go.Proofs.Ytljaagjdaolonaa
