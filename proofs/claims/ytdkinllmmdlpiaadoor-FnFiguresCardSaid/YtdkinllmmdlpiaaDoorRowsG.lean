/- Slices that a call builds by append: bytes, strings; and the string made of bytes. No condition. -/
import Derived.Test.YtdkinllmmdlpiaaDoorBase
import Derived.OwnWalk
import Derived.Deep.AppendLies
import Derived.Deep.RegionLaw
import Derived.Deep.RegionHeldLaw
import Derived.Laws.IdiomStrings
import Derived.Lib.SmallJoins
import Derived.LoopTactic
namespace Go.Proofs.YtdkinllmmdlpiaaDoor
open Go.RowKit Go.Deep
set_option linter.unusedVariables false
/-- v is a slice of the call's own that holds l. -/
structure Og (T : TypeId) (w W : World) (v : Value) (l : List Value) : Prop where
  bel : Below w.heap.size w W
  own : W.ownsRow w.heap.size T 1 v l.length l
theorem Og.nilB {T : TypeId} {w W : World} (h : Below w.heap.size w W) : Og T w W (.slice none 0 0) [] := ⟨h, World.ownsRow_nil _ _ _ _⟩
theorem Og.made {T : TypeId} {w W : World} (h : Below w.heap.size w W) : Og T w (W.alloc (.cells #[] T)) (.slice (some ⟨W.heap.size, 0, none⟩) 0 0) [] :=
  ⟨bel_alloc h _, World.ownsRow_made W #[] 0 h.size (by unfold maxLen; omega) rfl⟩
theorem Og.drew {T : TypeId} {w W : World} {v : Value} {l : List Value} (h : Og T w W v l) : Og T w W.drew v l := ⟨h.bel.drew, h.own⟩
theorem Og.drewN {T : TypeId} {w W : World} {v : Value} {l : List Value} (h : Og T w W v l) (n : Nat) : Og T w (W.drewN n) v l := ⟨bel_drewN h.bel n, h.own⟩
theorem Og.alloc {T : TypeId} {w W : World} {v : Value} {l : List Value} (h : Og T w W v l) (o : Obj) : Og T w (W.alloc o) v l := ⟨bel_alloc h.bel o, h.own.alloc o⟩
/-- What a call in between leaves. -/
theorem Og.below {T : TypeId} {w W W' : World} {v : Value} {l : List Value} (h : Og T w W v l) (hb : Below W.heap.size W W') : Og T w W' v l := by
  refine ⟨bel_call h.bel hb, h.own.1, h.own.2.imp id ?_⟩
  rintro ⟨g, cap, cur, hv, h1, hg, hr⟩
  exact ⟨g, cap, cur, hv, h1, by rw [hb.block g (Array.getElem?_eq_some_iff.1 hg).1]; exact hg, hr⟩
/-- What a callee has made belongs to the caller too. -/
theorem Og.up {T : TypeId} {w W W' : World} {v : Value} {l : List Value} (h : Below w.heap.size w W) (k : Og T W W' v l) : Og T w W' v l := by
  refine ⟨bel_call h k.bel, k.own.1, k.own.2.imp id ?_⟩
  rintro ⟨g, cap, cur, hv, hb, hr⟩
  exact ⟨g, cap, cur, hv, Nat.le_trans h.size hb, hr⟩
theorem Og.step {T : TypeId} {w W w1 : World} {v v' : Value} {l zs : List Value} {o : Obj} (h : Og T w W v l) (h1 : w1.ownsRow w.heap.size T 1 v' (l.length + zs.length) (l ++ zs)) (hg : (W.alloc o).grownBy w1 v.ownBlock) : Og T w w1 v' (l ++ zs) :=
  ⟨(bel_alloc h.bel o).grown hg (by have := h.bel.size; simp; omega) (fun k hk => (h.own.lt k hk).1), by rw [List.length_append]; exact h1⟩
/-- The elements of such a slice are read off the heap. -/
theorem Og.cell {T : TypeId} {w W : World} {v : Value} {l : List Value} (h : Og T w W v l) : ∃ a cap, v = .slice a l.length cap ∧ (l.length = 0 ∨ ∃ g cur, a = some ⟨g, 0, none⟩ ∧ w.heap.size ≤ g ∧ W.heap[g]? = some (.cells cur T (0, 0)) ∧ ∀ i (hi : i < l.length), cur[i]? = some l[i]) := by
  rcases h.own.2 with ⟨hv, h0⟩ | ⟨g, cap, cur, hv, hb, hg, _, _, _, ht⟩
  · exact ⟨none, 0, by rw [hv, h0], Or.inl h0⟩
  · refine ⟨_, cap, hv, Or.inr ⟨g, cur, rfl, hb, hg, fun i hi => ?_⟩⟩
    have : (cur.toList.take (l.length * 1))[i]? = some l[i] := by rw [ht]; exact List.getElem?_eq_getElem hi
    rw [List.getElem?_take] at this
    split at this
    · simpa using this
    · cases this
section
variable {T ST : TypeId} {i : TypeInfo} {z : Value} {bytes : Nat} {w W : World} {v : Value} {l : List Value} {ops : Array Oper} {rest : List Oper} {o : Oper} {a : Act} {Q : Exit → Act → World → Prop}
theorem wpList_appg (ht : Tryd.prog.underlying ST = some (.slice T)) (hi : Tryd.prog.info? T = some i) (hz0 : i.zero = some z) (hz1 : i.size = 1) (hz2 : i.bytes = bytes) (hzs : z.cells.size = 1) (hby : bytes ≤ 16)
    (h : Og T w W v l) (hgd : o.guard = none) (s x : Operand) (ho : o.op = .call { callee := .builtin .append, args := #[s, x], argTypes := #[ST, ST] })
    (zs : List Value) (h1 : ∀ u ∈ zs, u.oneCell' = true) (hs : a.eval s = v) (hx : a.eval x = .slice (some ⟨W.heap.size, 0, none⟩) zs.length zs.length) (hl : l.length + zs.length ≤ 1048577)
    (hK : ∀ v' w1, Og T w w1 v' (l ++ zs) → wpList Tryd.prog ops Q rest (a.put o.dst v') w1) : wpList Tryd.prog ops Q (o :: rest) a (W.alloc (.cells zs.toArray T)) := by
  refine wpList_append_own _ hgd s x ST ho w.heap.size T i z 1 bytes ht hi hz0 hz1 hz2 hzs (by decide) v l.length _ hs (h.own.alloc _) ⟨W.heap.size, 0, none⟩ zs.length zs.length zs hx (by simp) (World.news_of_block (heap_alloc_new W _)) h1 ?_ ?_ ?_ ?_
  · unfold maxLen; omega
  · have := Nat.mul_le_mul hl hby; omega
  · have := h.bel.size; simp; omega
  · intro v' w1 hown hgrow _
    exact hK v' w1 (h.step hown hgrow)
theorem step_appg {K : Act → World → Prop} {E : Prop} (ht : Tryd.prog.underlying ST = some (.slice T)) (hi : Tryd.prog.info? T = some i) (hz0 : i.zero = some z) (hz1 : i.size = 1) (hz2 : i.bytes = bytes) (hzs : z.cells.size = 1) (hby : bytes ≤ 16)
    (h : Og T w W v l) (hgd : o.guard = none) (s x : Operand) (ho : o.op = .call { callee := .builtin .append, args := #[s, x], argTypes := #[ST, ST] })
    (zs : List Value) (h1 : ∀ u ∈ zs, u.oneCell' = true) (hs : a.eval s = v) (hx : a.eval x = .slice (some ⟨W.heap.size, 0, none⟩) zs.length zs.length) (hl : l.length + zs.length ≤ 1048577)
    (hK : ∀ v' w1, Og T w w1 v' (l ++ zs) → K (a.put o.dst v') w1) : if Region.wanted o (yielded ops a.tmps) = true then Oper.wp Tryd.prog o a (W.alloc (.cells zs.toArray T)) K Q else E := by
  have hw : Region.wanted o (yielded ops a.tmps) = true := by simp [Region.wanted, hgd]
  rw [if_pos hw]
  refine wp_append_own _ s x ST ho w.heap.size T i z 1 bytes ht hi hz0 hz1 hz2 hzs (by decide) v l.length _ hs (h.own.alloc _) ⟨W.heap.size, 0, none⟩ zs.length zs.length zs hx (by simp) (World.news_of_block (heap_alloc_new W _)) h1 ?_ ?_ ?_ ?_
  · unfold maxLen; omega
  · have := Nat.mul_le_mul hl hby; omega
  · have := h.bel.size; simp; omega
  · intro v' w1 hown hgrow _
    exact hK v' w1 (h.step hown hgrow)
end
/-- Bytes. -/
def Ob (w W : World) (v : Value) (l : List Int) : Prop := Og 5 w W v (l.map (Value.int .u8))
theorem infoU8 : (Tryd.prog.info? 5).map (fun i => (i.zero, i.size, i.bytes)) = some (some (.int .u8 0), 1, 1) := by kernel_rfl
/-- The string of these bytes. -/
def strOf (l : List Int) : ByteArray := l.foldl (fun r n => r.push (UInt8.ofNat n.toNat)) ByteArray.empty
theorem strOf_size (l : List Int) : (strOf l).size = l.length := by
  have key : ∀ (l : List Int) (r : ByteArray), (l.foldl (fun r n => r.push (UInt8.ofNat n.toNat)) r).size = r.size + l.length := by
    intro l
    induction l with
    | nil => intro r; simp
    | cons n l ih => intro r; rw [List.foldl_cons, ih]; simp; omega
  rw [strOf, key]
  simp
theorem Ob.conv {w W : World} {v : Value} {l : List Int} (h : Ob w W v l) : (convert 33 9 v).run Tryd.prog W = .ok (.string (strOf l)) W := by
  rcases h.own.2 with ⟨hv, h0⟩ | ⟨g, cap, cur, hv, hb, hg, _, _, _, ht⟩
  · obtain rfl : l = [] := by simpa using h0
    rw [hv, run_convert_bytes_string W _ _ _ none 0 0 Tryd.underlying33 Tryd.underlying5 Tryd.underlying9]
    rfl
  · have hv' : v = .slice (some ⟨g, 0, none⟩) l.length cap := by rw [hv]; simp
    rw [hv', run_convert_bytes_string W _ _ _ _ _ _ Tryd.underlying33 Tryd.underlying5 Tryd.underlying9]
    have hl := run_loadCells_list (P := Tryd.prog) W ⟨g, 0, none⟩ (l.map (Value.int .u8)) (fun j u hj => h.own.cells (g := g) (by rw [hv]; rfl) j u hj)
    rw [List.length_map] at hl
    exact run_bytesToString W ⟨g, 0, none⟩ l.length cap l hl
section
variable {w W : World} {v : Value} {l : List Int} {ops : Array Oper} {rest : List Oper} {o : Oper} {a : Act} {Q : Exit → Act → World → Prop} {K : Act → World → Prop} {E : Prop}
theorem wpList_appb1 (h : Ob w W v l) (hgd : o.guard = none) (s x : Operand) (ho : o.op = .call { callee := .builtin .append, args := #[s, x], argTypes := #[33, 33] })
    (y : Int) (hs : a.eval s = v) (hx : a.eval x = .slice (some ⟨W.heap.size, 0, none⟩) 1 1) (hl : l.length ≤ 1048576)
    (hK : ∀ v' w1, Ob w w1 v' (l ++ [y]) → wpList Tryd.prog ops Q rest (a.put o.dst v') w1) : wpList Tryd.prog ops Q (o :: rest) a (W.alloc (.cells #[.int .u8 y] 5)) := by
  obtain ⟨i0, hi, hz0, hz1, hz2⟩ := info_parts infoU8
  exact wpList_appg Tryd.underlying33 hi hz0 hz1 hz2 rfl (by decide) h hgd s x ho [.int .u8 y] (by intro u hu; simp at hu; subst hu; rfl) hs hx (by simp; omega) (fun v' w1 k => hK v' w1 (by unfold Ob; rw [List.map_append]; exact k))
theorem wpList_appb2 (h : Ob w W v l) (hgd : o.guard = none) (s x : Operand) (ho : o.op = .call { callee := .builtin .append, args := #[s, x], argTypes := #[33, 33] })
    (y y2 : Int) (hs : a.eval s = v) (hx : a.eval x = .slice (some ⟨W.heap.size, 0, none⟩) 2 2) (hl : l.length ≤ 1048575)
    (hK : ∀ v' w1, Ob w w1 v' (l ++ [y, y2]) → wpList Tryd.prog ops Q rest (a.put o.dst v') w1) : wpList Tryd.prog ops Q (o :: rest) a (W.alloc (.cells #[.int .u8 y, .int .u8 y2] 5)) := by
  obtain ⟨i0, hi, hz0, hz1, hz2⟩ := info_parts infoU8
  exact wpList_appg Tryd.underlying33 hi hz0 hz1 hz2 rfl (by decide) h hgd s x ho [.int .u8 y, .int .u8 y2] (by intro u hu; simp at hu; rcases hu with rfl | rfl <;> rfl) hs hx (by simp; omega) (fun v' w1 k => hK v' w1 (by unfold Ob; rw [List.map_append]; exact k))
theorem step_appb1 (h : Ob w W v l) (hgd : o.guard = none) (s x : Operand) (ho : o.op = .call { callee := .builtin .append, args := #[s, x], argTypes := #[33, 33] })
    (y : Int) (hs : a.eval s = v) (hx : a.eval x = .slice (some ⟨W.heap.size, 0, none⟩) 1 1) (hl : l.length ≤ 1048576)
    (hK : ∀ v' w1, Ob w w1 v' (l ++ [y]) → K (a.put o.dst v') w1) : if Region.wanted o (yielded ops a.tmps) = true then Oper.wp Tryd.prog o a (W.alloc (.cells #[.int .u8 y] 5)) K Q else E := by
  obtain ⟨i0, hi, hz0, hz1, hz2⟩ := info_parts infoU8
  exact step_appg Tryd.underlying33 hi hz0 hz1 hz2 rfl (by decide) h hgd s x ho [.int .u8 y] (by intro u hu; simp at hu; subst hu; rfl) hs hx (by simp; omega) (fun v' w1 k => hK v' w1 (by unfold Ob; rw [List.map_append]; exact k))
theorem step_appb2 (h : Ob w W v l) (hgd : o.guard = none) (s x : Operand) (ho : o.op = .call { callee := .builtin .append, args := #[s, x], argTypes := #[33, 33] })
    (y y2 : Int) (hs : a.eval s = v) (hx : a.eval x = .slice (some ⟨W.heap.size, 0, none⟩) 2 2) (hl : l.length ≤ 1048575)
    (hK : ∀ v' w1, Ob w w1 v' (l ++ [y, y2]) → K (a.put o.dst v') w1) : if Region.wanted o (yielded ops a.tmps) = true then Oper.wp Tryd.prog o a (W.alloc (.cells #[.int .u8 y, .int .u8 y2] 5)) K Q else E := by
  obtain ⟨i0, hi, hz0, hz1, hz2⟩ := info_parts infoU8
  exact step_appg Tryd.underlying33 hi hz0 hz1 hz2 rfl (by decide) h hgd s x ho [.int .u8 y, .int .u8 y2] (by intro u hu; simp at hu; rcases hu with rfl | rfl <;> rfl) hs hx (by simp; omega) (fun v' w1 k => hK v' w1 (by unfold Ob; rw [List.map_append]; exact k))
end
theorem Ob.below {w W W' : World} {v : Value} {l : List Int} (h : Ob w W v l) (hb : Below W.heap.size W W') : Ob w W' v l := Og.below h hb
theorem Ob.drew {w W : World} {v : Value} {l : List Int} (h : Ob w W v l) : Ob w W.drew v l := Og.drew h
theorem Ob.drewN {w W : World} {v : Value} {l : List Int} (h : Ob w W v l) (n : Nat) : Ob w (W.drewN n) v l := Og.drewN h n
theorem Ob.bel {w W : World} {v : Value} {l : List Int} (h : Ob w W v l) : Below w.heap.size w W := Og.bel h
end Go.Proofs.YtdkinllmmdlpiaaDoor
