/- The conversions of the laws' structs into the program's: each returns the same cells and makes new memory only. Structs of many cells are kept under one name. No condition. -/
import Derived.Test.YtkjipijbfblffaaCore
import Derived.Deep.MidRow
import Derived.Deep.Cut
import Derived.Laws.Rows
import Derived.Laws.IdiomCopy
import Derived.Lib.SmallJoins
namespace Go.Proofs.Ytkjipijbfblffaa
open Go.RowKit
set_option linter.unusedVariables false

def ksSides : List Bool := [true, true, true, true, true, true, true, true, true, true, true, true]
def ksStyle : List Bool := [true, true, true, true, true, true, false, false, true, true, true, true, true, true, true, true, true, true, true, true, true, true, true, true, true, true, true, true, true, true, true, true, true, true, true, true, true, true, true, true, true, true, true, true, true, true, true, true, true, true, true, true, true, true, true, true, true, true, true, true]
/-- The twelve cells of a 'Sides', the sixty of a 'Style'. -/
def sdA (g : Nat → Int) (q : Nat → Bool) : Array Value := ⟨leafV g q ksSides 0⟩
def syA (g : Nat → Int) (q : Nat → Bool) : Array Value := ⟨leafV g q ksStyle 0⟩
theorem sdA_size (g : Nat → Int) (q : Nat → Bool) : (sdA g q).size = 12 := by simp [sdA, leafV_length, ksSides]
theorem syA_size (g : Nat → Int) (q : Nat → Bool) : (syA g q).size = 60 := by simp [syA, leafV_length, ksStyle]
theorem sdA_int (g : Nat → Int) (q : Nat → Bool) (i : Nat) (h : ksSides[i]? = some true) : (sdA g q)[i]? = some (.int .i64 (g i)) := by
  simpa [sdA] using leafV_get g q ksSides 0 i true h
theorem syA_int (g : Nat → Int) (q : Nat → Bool) (i : Nat) (h : ksStyle[i]? = some true) : (syA g q)[i]? = some (.int .i64 (g i)) := by
  simpa [syA] using leafV_get g q ksStyle 0 i true h
theorem syA_bool (g : Nat → Int) (q : Nat → Bool) (i : Nat) (h : ksStyle[i]? = some false) : (syA g q)[i]? = some (.bool (q i)) := by
  simpa [syA] using leafV_get g q ksStyle 0 i false h
theorem leafV_one (g : Nat → Int) (q : Nat → Bool) : ∀ (ks : List Bool) (i : Nat), ∀ v ∈ leafV g q ks i, v.oneCell' = true
  | [], _, v, h => by cases h
  | true :: ks, i, v, h => by
    rcases List.mem_cons.mp h with rfl | h
    · rfl
    · exact leafV_one g q ks (i + 1) v h
  | false :: ks, i, v, h => by
    rcases List.mem_cons.mp h with rfl | h
    · rfl
    · exact leafV_one g q ks (i + 1) v h
theorem sdA_one (g : Nat → Int) (q : Nat → Bool) : (sdA g q).all (·.oneCell') = true := all_oneCell_toArray (leafV_one g q _ _)
theorem syA_one (g : Nat → Int) (q : Nat → Bool) : (syA g q).all (·.oneCell') = true := all_oneCell_toArray (leafV_one g q _ _)

/-- In the midst of a conversion: the box holds C, the new struct's first k cells are C's. -/
structure Cv (C : Array Value) (w : World) (k : Nat) (W : World) : Prop where
  bel : Below w.heap.size w W
  size : w.heap.size + 3 ≤ W.heap.size
  box : ∃ T, W.heap[w.heap.size]? = some (.cells C T (0, 0))
  res : ∃ R T, W.heap[w.heap.size + 1]? = some (.cells R T (0, 0)) ∧ R.size = C.size
  cmp : ∃ A T, W.heap[w.heap.size + 1 + 1]? = some (.cells A T (0, 0)) ∧ A.size = C.size ∧ ∀ j, j < k → A[j]? = C[j]?

theorem Cv.mk0 {C Z A : Array Value} {T0 T1 T2 : TypeId} {k : Nat} (w : World) (hZ : Z.size = C.size) (hA : A.size = C.size) (hk : ∀ j, j < k → A[j]? = C[j]?) :
    Cv C w k (((w.alloc (.cells C T0)).alloc (.cells Z T1)).alloc (.cells A T2)) := by
  refine ⟨bel_alloc (bel_alloc (bel_alloc (Below.refl _ _) _) _) _, by simp, ⟨T0, ?_⟩, ⟨Z, T1, ?_, hZ⟩, ⟨A, T2, ?_, hA, hk⟩⟩
  · rw [Below.heap_alloc _ _ _ (by simp; omega), Below.heap_alloc _ _ _ (by simp)]
    exact heap_alloc_new _ _
  · rw [Below.heap_alloc _ _ _ (by simp)]
    have := heap_alloc_new (w.alloc (.cells C T0)) (.cells Z T1)
    simpa using this
  · have := heap_alloc_new ((w.alloc (.cells C T0)).alloc (.cells Z T1)) (.cells A T2)
    simpa using this
theorem Cv.call {C : Array Value} {w W W' : World} {k : Nat} (h : Cv C w k W) (hb : Below W.heap.size W W') : Cv C w k W' := by
  have hs := h.size
  refine ⟨bel_call h.bel hb, Nat.le_trans h.size hb.size, ?_, ?_, ?_⟩
  · obtain ⟨T, hT⟩ := h.box
    exact ⟨T, by rw [hb.block _ (by omega)]; exact hT⟩
  · obtain ⟨R, T, hT, hR⟩ := h.res
    exact ⟨R, T, by rw [hb.block _ (by omega)]; exact hT, hR⟩
  · obtain ⟨A, T, hT, hA, hk⟩ := h.cmp
    exact ⟨A, T, by rw [hb.block _ (by omega)]; exact hT, hA, hk⟩
theorem Cv.set {C : Array Value} {w W : World} {k : Nat} (h : Cv C w k W) {v : Value} (hv : C[k]? = some v) : Cv C w (k + 1) (W.setCell ⟨w.heap.size + 1 + 1, k, none⟩ v) := by
  have hs := h.size
  refine ⟨Below.setCell h.bel (by simp; omega) _, by simpa using h.size, ?_, ?_, ?_⟩
  · obtain ⟨T, hT⟩ := h.box
    exact ⟨T, by rw [heap_setCell_other _ _ _ _ (by simp; omega)]; exact hT⟩
  · obtain ⟨R, T, hT, hR⟩ := h.res
    exact ⟨R, T, by rw [heap_setCell_other _ _ _ _ (by simp)]; exact hT, hR⟩
  · obtain ⟨A, T, hT, hA, hk⟩ := h.cmp
    refine ⟨A.setIfInBounds k v, T, Joins.block_setCell hT v, by simpa using hA, ?_⟩
    intro j hj
    have hkC : k < C.size := (Array.getElem?_eq_some_iff.mp hv).1
    by_cases hjk : j = k
    · subst hjk
      rw [hv, Array.getElem?_setIfInBounds_self_of_lt (by omega)]
    · rw [Array.getElem?_setIfInBounds_ne (by omega)]
      exact hk j (by omega)
theorem Cv.boxc {C : Array Value} {w W : World} {k : Nat} (h : Cv C w k W) : ∀ o, W.cell? ⟨w.heap.size, o, none⟩ = C[o]? := by
  obtain ⟨T, hT⟩ := h.box
  exact fun o => Joins.cell_of_block hT o
theorem Cv.cell {C : Array Value} {w W : World} {k : Nat} (h : Cv C w k W) (j : Nat) (hj : j < C.size) : ∃ v, W.cell? ⟨w.heap.size + 1 + 1, j, none⟩ = some v := by
  obtain ⟨A, T, hT, hA, _⟩ := h.cmp
  exact ⟨A[j]'(by omega), by rw [Joins.cell_of_block hT]; simp [hA, hj]⟩
theorem Cv.froz {C : Array Value} {w W : World} {k : Nat} (h : Cv C w k W) : ∀ o, W.frozen? ⟨w.heap.size + 1 + 1, o, none⟩ = false := by
  obtain ⟨A, T, hT, _, _⟩ := h.cmp
  exact fun o => Joins.unfrozen_of_block hT o
theorem Cv.full {C : Array Value} {w W : World} {k : Nat} (h : Cv C w k W) (hk : k = C.size) : ∃ T, W.heap[w.heap.size + 1 + 1]? = some (.cells C T (0, 0)) := by
  obtain ⟨A, T, hT, hA, hj⟩ := h.cmp
  have : A = C := by
    apply Array.ext_getElem?
    intro i
    by_cases hi : i < C.size
    · exact hj i (by omega)
    · rw [Array.getElem?_eq_none (by omega), Array.getElem?_eq_none (by omega)]
  exact ⟨T, by rw [hT, this]⟩
theorem Cv.there {C : Array Value} {w W : World} {k : Nat} (h : Cv C w k W) : W.there (w.heap.size + 1) 0 C.size := by
  obtain ⟨R, T, hT, hR⟩ := h.res
  intro j hj
  refine ⟨?_, Joins.unfrozen_of_block hT _⟩
  rw [Joins.cell_of_block hT]
  simp [hR, hj]
theorem below_setCells' {B : Nat} {a : World} (b : Nat) (hb : B ≤ b) : ∀ (vs : List Value) (o : Nat) {w : World}, Below B a w → Below B a (w.setCells b o vs)
  | [], _, _, h => h
  | v :: r, o, _, h => below_setCells' b hb r (o + 1) (h.setCell (p := ⟨b, o, none⟩) hb v)
/-- A result that is a struct, out of its variable, read as a range. -/
theorem results_cell_mid {P : Program} {fn : Func} {p : Tmp} {ty : TypeId} (h : fn.results = #[.cell p ty]) (tmps : Array Value) (w : World) (g : Nat) (cs : List Value) (d : TypeDesc)
    (hp : tmps.getD p undef = .pointer (some ⟨g, 0, none⟩)) (hc : w.rangeAt g 0 cs)
    (hu : P.underlying ty = some d) (hd : d.isRow = true) (hi : (P.info? ty).map (·.size) = some cs.length) :
    (results fn tmps).run P w = .ok (.agg cs.toArray) w := by
  have hp' : tmps[p]?.getD undef = .pointer (some ⟨g, 0, none⟩) := by simpa using hp
  simp [results, h, hp', asAddr, run_loadVar_mid w g 0 ty cs d hc hu hd hi]
/-- The end of a conversion: the new struct is read whole and stored into the result. -/
theorem Cv.finish {C : Array Value} {w W : World} {k : Nat} (h : Cv C w k W) : (W.setCells (w.heap.size + 1) 0 C.toList).rangeAt (w.heap.size + 1) 0 C.toList ∧ Below w.heap.size w (W.setCells (w.heap.size + 1) 0 C.toList) :=
  ⟨World.rangeAt_setCells_same _ _ _ _ (by simpa using h.there), below_setCells' _ (by omega) _ _ h.bel⟩

def tsSides : List TypeId := [3, 3, 3, 3, 3, 3, 3, 3, 3, 3, 3, 3]
def tsStyle : List TypeId := [3, 3, 3, 3, 3, 3, 4, 4, 3, 3, 3, 3, 3, 3, 3, 3, 3, 3, 3, 3, 3, 3, 3, 3, 3, 3, 3, 3, 3, 3, 3, 3, 3, 3, 3, 3, 3, 3, 3, 3, 3, 3, 3, 3, 3, 3, 3, 3, 3, 3, 3, 3, 3, 3, 3, 3, 3, 3, 3, 3]
theorem size_lt_alloc (w : World) (o : Obj) : w.heap.size < (w.alloc o).heap.size := by simp
theorem size_lt_alloc' {n : Nat} {w : World} (h : n < w.heap.size) (o : Obj) : n < (w.alloc o).heap.size := by simp; omega
theorem hbox1 (w : World) (C : Array Value) (T : TypeId) : (w.alloc (.cells C T)).heap[w.heap.size]? = some (.cells C T (0, 0)) := heap_alloc_new _ _
theorem hbox2a (w : World) (C : Array Value) (T : TypeId) (o : Obj) : ((w.alloc (.cells C T)).alloc o).heap[w.heap.size]? = some (.cells C T (0, 0)) := by
  rw [Below.heap_alloc _ _ _ (by simp)]; exact heap_alloc_new _ _
theorem hbox2b (w : World) (C : Array Value) (T : TypeId) (o : Obj) : ((w.alloc o).alloc (.cells C T)).heap[w.heap.size + 1]? = some (.cells C T (0, 0)) := by
  have := heap_alloc_new (w.alloc o) (.cells C T)
  simpa using this
theorem sdA_info_v (g : Nat → Int) (q : Nat → Bool) : (Try.prog.info? 33).map (·.size) = some (sdA g q).size := by rw [sdA_size]; kernel_rfl
theorem sdA_info_w (g : Nat → Int) (q : Nat → Bool) : (Try.prog.info? 25).map (·.size) = some (sdA g q).size := by rw [sdA_size]; kernel_rfl
theorem syA_info_v (g : Nat → Int) (q : Nat → Bool) : (Try.prog.info? 36).map (·.size) = some (syA g q).size := by rw [syA_size]; kernel_rfl
theorem syA_info_w (g : Nat → Int) (q : Nat → Bool) : (Try.prog.info? 29).map (·.size) = some (syA g q).size := by rw [syA_size]; kernel_rfl
/-- The load of a whole style out of its box, run whole: rules for the walk ('attribute [local go_sem ↓]'). -/
theorem exec_row {W : World} {b : Nat} {ev : Operand → Value} {x : Operand} {ty : TypeId} {ps : String} {dst : Option Tmp} {af : Array Edge} {gd : Option (Tmp × Bool)} {g : Nat → Int} {q : Nat → Bool}
    (hb : W.heap[b]? = some (.cells (syA g q) 36 (0, 0))) (hx : ev x = .pointer (some ⟨b, 0, none⟩)) :
    (execOp ev { dst := dst, op := .load 36 x, type := ty, pos := ps, after := af, guard := gd }).run Try.prog W = .ok (.value (.agg (syA g q))) W := by
  unfold execOp
  simp only [hx, Instr.loadAt, Instr.sureAddr, Sem.run_bind, Sem.run_pure, Result.andThen_ok, run_loadVar_row W b 36 36 (syA g q) (0, 0) _ hb Try.underlying36 rfl (syA_info_v g q)]
theorem exec_row1 {w : World} {ev : Operand → Value} {x : Operand} {ty : TypeId} {ps : String} {dst : Option Tmp} {af : Array Edge} {gd : Option (Tmp × Bool)} {g : Nat → Int} {q : Nat → Bool} (hx : ev x = .pointer (some ⟨w.heap.size, 0, none⟩)) :
    (execOp ev { dst := dst, op := .load 36 x, type := ty, pos := ps, after := af, guard := gd }).run Try.prog (w.alloc (.cells (syA g q) 36)) = .ok (.value (.agg (syA g q))) (w.alloc (.cells (syA g q) 36)) :=
  exec_row (hbox1 _ _ _) hx
theorem exec_row1d {w : World} {ev : Operand → Value} {x : Operand} {ty : TypeId} {ps : String} {dst : Option Tmp} {af : Array Edge} {gd : Option (Tmp × Bool)} {g : Nat → Int} {q : Nat → Bool} (hx : ev x = .pointer (some ⟨w.heap.size, 0, none⟩)) :
    (execOp ev { dst := dst, op := .load 36 x, type := ty, pos := ps, after := af, guard := gd }).run Try.prog (w.alloc (.cells (syA g q) 36)).drew = .ok (.value (.agg (syA g q))) (w.alloc (.cells (syA g q) 36)).drew :=
  exec_row (hbox1 _ _ _) hx
theorem exec_row2 {w : World} {o : Obj} {ev : Operand → Value} {x : Operand} {ty : TypeId} {ps : String} {dst : Option Tmp} {af : Array Edge} {gd : Option (Tmp × Bool)} {g : Nat → Int} {q : Nat → Bool} (hx : ev x = .pointer (some ⟨w.heap.size, 0, none⟩)) :
    (execOp ev { dst := dst, op := .load 36 x, type := ty, pos := ps, after := af, guard := gd }).run Try.prog ((w.alloc (.cells (syA g q) 36)).alloc o) = .ok (.value (.agg (syA g q))) ((w.alloc (.cells (syA g q) 36)).alloc o) :=
  exec_row (hbox2a _ _ _ _) hx
/-- A world of which it is known that block b holds C: a name that the rules can see. -/
def held (W : World) (b : Nat) (C : Array Value) : World := match b with | 0 => W | _ + 1 => W
theorem held_eq (W : World) (b : Nat) (C : Array Value) : held W b C = W := by unfold held; split <;> rfl
theorem exec_rowh {W : World} {b : Nat} {ev : Operand → Value} {x : Operand} {ty : TypeId} {ps : String} {dst : Option Tmp} {af : Array Edge} {gd : Option (Tmp × Bool)} {g : Nat → Int} {q : Nat → Bool}
    (hb : (held W b (syA g q)).heap[b]? = some (.cells (syA g q) 36 (0, 0))) (hx : ev x = .pointer (some ⟨b, 0, none⟩)) :
    (execOp ev { dst := dst, op := .load 36 x, type := ty, pos := ps, after := af, guard := gd }).run Try.prog (held W b (syA g q)) = .ok (.value (.agg (syA g q))) (held W b (syA g q)) := exec_row hb hx
theorem exec_rowhd {W : World} {b : Nat} {ev : Operand → Value} {x : Operand} {ty : TypeId} {ps : String} {dst : Option Tmp} {af : Array Edge} {gd : Option (Tmp × Bool)} {g : Nat → Int} {q : Nat → Bool}
    (hb : (held W b (syA g q)).heap[b]? = some (.cells (syA g q) 36 (0, 0))) (hx : ev x = .pointer (some ⟨b, 0, none⟩)) :
    (execOp ev { dst := dst, op := .load 36 x, type := ty, pos := ps, after := af, guard := gd }).run Try.prog (held W b (syA g q)).drew = .ok (.value (.agg (syA g q))) (held W b (syA g q)).drew := exec_row hb hx
/-- The same rules at the laws' own type of a style, and where two boxes lie. -/
theorem exec_roww {W : World} {b : Nat} {ev : Operand → Value} {x : Operand} {ty : TypeId} {ps : String} {dst : Option Tmp} {af : Array Edge} {gd : Option (Tmp × Bool)} {g : Nat → Int} {q : Nat → Bool}
    (hb : W.heap[b]? = some (.cells (syA g q) 29 (0, 0))) (hx : ev x = .pointer (some ⟨b, 0, none⟩)) :
    (execOp ev { dst := dst, op := .load 29 x, type := ty, pos := ps, after := af, guard := gd }).run Try.prog W = .ok (.value (.agg (syA g q))) W := by
  unfold execOp
  simp only [hx, Instr.loadAt, Instr.sureAddr, Sem.run_bind, Sem.run_pure, Result.andThen_ok, run_loadVar_row W b 29 29 (syA g q) (0, 0) _ hb Try.underlying29 rfl (syA_info_w g q)]
theorem exec_1w {w : World} {ev : Operand → Value} {x : Operand} {ty : TypeId} {ps : String} {dst : Option Tmp} {af : Array Edge} {gd : Option (Tmp × Bool)} {g : Nat → Int} {q : Nat → Bool} (hx : ev x = .pointer (some ⟨w.heap.size, 0, none⟩)) :
    (execOp ev { dst := dst, op := .load 29 x, type := ty, pos := ps, after := af, guard := gd }).run Try.prog (w.alloc (.cells (syA g q) 29)) = .ok (.value (.agg (syA g q))) (w.alloc (.cells (syA g q) 29)) := exec_roww (hbox1 _ _ _) hx
theorem exec_1wd {w : World} {ev : Operand → Value} {x : Operand} {ty : TypeId} {ps : String} {dst : Option Tmp} {af : Array Edge} {gd : Option (Tmp × Bool)} {g : Nat → Int} {q : Nat → Bool} (hx : ev x = .pointer (some ⟨w.heap.size, 0, none⟩)) :
    (execOp ev { dst := dst, op := .load 29 x, type := ty, pos := ps, after := af, guard := gd }).run Try.prog ((w.alloc (.cells (syA g q) 29)).drew) = .ok (.value (.agg (syA g q))) ((w.alloc (.cells (syA g q) 29)).drew) := exec_roww (hbox1 _ _ _) hx
theorem exec_2aw {w : World} {o : Obj} {ev : Operand → Value} {x : Operand} {ty : TypeId} {ps : String} {dst : Option Tmp} {af : Array Edge} {gd : Option (Tmp × Bool)} {g : Nat → Int} {q : Nat → Bool} (hx : ev x = .pointer (some ⟨w.heap.size, 0, none⟩)) :
    (execOp ev { dst := dst, op := .load 29 x, type := ty, pos := ps, after := af, guard := gd }).run Try.prog ((w.alloc (.cells (syA g q) 29)).alloc o) = .ok (.value (.agg (syA g q))) ((w.alloc (.cells (syA g q) 29)).alloc o) := exec_roww (hbox2a _ _ _ _) hx
theorem exec_2awd {w : World} {o : Obj} {ev : Operand → Value} {x : Operand} {ty : TypeId} {ps : String} {dst : Option Tmp} {af : Array Edge} {gd : Option (Tmp × Bool)} {g : Nat → Int} {q : Nat → Bool} (hx : ev x = .pointer (some ⟨w.heap.size, 0, none⟩)) :
    (execOp ev { dst := dst, op := .load 29 x, type := ty, pos := ps, after := af, guard := gd }).run Try.prog (((w.alloc (.cells (syA g q) 29)).alloc o).drew) = .ok (.value (.agg (syA g q))) (((w.alloc (.cells (syA g q) 29)).alloc o).drew) := exec_roww (hbox2a _ _ _ _) hx
theorem exec_2bw {w : World} {o : Obj} {ev : Operand → Value} {x : Operand} {ty : TypeId} {ps : String} {dst : Option Tmp} {af : Array Edge} {gd : Option (Tmp × Bool)} {g : Nat → Int} {q : Nat → Bool} (hx : ev x = .pointer (some ⟨w.heap.size + 1, 0, none⟩)) :
    (execOp ev { dst := dst, op := .load 29 x, type := ty, pos := ps, after := af, guard := gd }).run Try.prog ((w.alloc o).alloc (.cells (syA g q) 29)) = .ok (.value (.agg (syA g q))) ((w.alloc o).alloc (.cells (syA g q) 29)) := exec_roww (hbox2b _ _ _ _) hx
theorem exec_2bwd {w : World} {o : Obj} {ev : Operand → Value} {x : Operand} {ty : TypeId} {ps : String} {dst : Option Tmp} {af : Array Edge} {gd : Option (Tmp × Bool)} {g : Nat → Int} {q : Nat → Bool} (hx : ev x = .pointer (some ⟨w.heap.size + 1, 0, none⟩)) :
    (execOp ev { dst := dst, op := .load 29 x, type := ty, pos := ps, after := af, guard := gd }).run Try.prog (((w.alloc o).alloc (.cells (syA g q) 29)).drew) = .ok (.value (.agg (syA g q))) (((w.alloc o).alloc (.cells (syA g q) 29)).drew) := exec_roww (hbox2b _ _ _ _) hx
theorem exec_hw {W : World} {b : Nat} {ev : Operand → Value} {x : Operand} {ty : TypeId} {ps : String} {dst : Option Tmp} {af : Array Edge} {gd : Option (Tmp × Bool)} {g : Nat → Int} {q : Nat → Bool} (hb : (held W b (syA g q)).heap[b]? = some (.cells (syA g q) 29 (0, 0))) (hx : ev x = .pointer (some ⟨b, 0, none⟩)) :
    (execOp ev { dst := dst, op := .load 29 x, type := ty, pos := ps, after := af, guard := gd }).run Try.prog (held W b (syA g q)) = .ok (.value (.agg (syA g q))) (held W b (syA g q)) := exec_roww hb hx
theorem exec_hwd {W : World} {b : Nat} {ev : Operand → Value} {x : Operand} {ty : TypeId} {ps : String} {dst : Option Tmp} {af : Array Edge} {gd : Option (Tmp × Bool)} {g : Nat → Int} {q : Nat → Bool} (hb : (held W b (syA g q)).heap[b]? = some (.cells (syA g q) 29 (0, 0))) (hx : ev x = .pointer (some ⟨b, 0, none⟩)) :
    (execOp ev { dst := dst, op := .load 29 x, type := ty, pos := ps, after := af, guard := gd }).run Try.prog ((held W b (syA g q)).drew) = .ok (.value (.agg (syA g q))) ((held W b (syA g q)).drew) := exec_roww hb hx
theorem exec_iw {W : World} {b b' : Nat} {D : Array Value} {ev : Operand → Value} {x : Operand} {ty : TypeId} {ps : String} {dst : Option Tmp} {af : Array Edge} {gd : Option (Tmp × Bool)} {g : Nat → Int} {q : Nat → Bool} (hb : (held (held W b (syA g q)) b' D).heap[b]? = some (.cells (syA g q) 29 (0, 0))) (hx : ev x = .pointer (some ⟨b, 0, none⟩)) :
    (execOp ev { dst := dst, op := .load 29 x, type := ty, pos := ps, after := af, guard := gd }).run Try.prog (held (held W b (syA g q)) b' D) = .ok (.value (.agg (syA g q))) (held (held W b (syA g q)) b' D) := exec_roww hb hx
theorem exec_iwd {W : World} {b b' : Nat} {D : Array Value} {ev : Operand → Value} {x : Operand} {ty : TypeId} {ps : String} {dst : Option Tmp} {af : Array Edge} {gd : Option (Tmp × Bool)} {g : Nat → Int} {q : Nat → Bool} (hb : (held (held W b (syA g q)) b' D).heap[b]? = some (.cells (syA g q) 29 (0, 0))) (hx : ev x = .pointer (some ⟨b, 0, none⟩)) :
    (execOp ev { dst := dst, op := .load 29 x, type := ty, pos := ps, after := af, guard := gd }).run Try.prog ((held (held W b (syA g q)) b' D).drew) = .ok (.value (.agg (syA g q))) ((held (held W b (syA g q)) b' D).drew) := exec_roww hb hx
theorem exec_1v {w : World} {ev : Operand → Value} {x : Operand} {ty : TypeId} {ps : String} {dst : Option Tmp} {af : Array Edge} {gd : Option (Tmp × Bool)} {g : Nat → Int} {q : Nat → Bool} (hx : ev x = .pointer (some ⟨w.heap.size, 0, none⟩)) :
    (execOp ev { dst := dst, op := .load 36 x, type := ty, pos := ps, after := af, guard := gd }).run Try.prog (w.alloc (.cells (syA g q) 36)) = .ok (.value (.agg (syA g q))) (w.alloc (.cells (syA g q) 36)) := exec_row (hbox1 _ _ _) hx
theorem exec_1vd {w : World} {ev : Operand → Value} {x : Operand} {ty : TypeId} {ps : String} {dst : Option Tmp} {af : Array Edge} {gd : Option (Tmp × Bool)} {g : Nat → Int} {q : Nat → Bool} (hx : ev x = .pointer (some ⟨w.heap.size, 0, none⟩)) :
    (execOp ev { dst := dst, op := .load 36 x, type := ty, pos := ps, after := af, guard := gd }).run Try.prog ((w.alloc (.cells (syA g q) 36)).drew) = .ok (.value (.agg (syA g q))) ((w.alloc (.cells (syA g q) 36)).drew) := exec_row (hbox1 _ _ _) hx
theorem exec_2av {w : World} {o : Obj} {ev : Operand → Value} {x : Operand} {ty : TypeId} {ps : String} {dst : Option Tmp} {af : Array Edge} {gd : Option (Tmp × Bool)} {g : Nat → Int} {q : Nat → Bool} (hx : ev x = .pointer (some ⟨w.heap.size, 0, none⟩)) :
    (execOp ev { dst := dst, op := .load 36 x, type := ty, pos := ps, after := af, guard := gd }).run Try.prog ((w.alloc (.cells (syA g q) 36)).alloc o) = .ok (.value (.agg (syA g q))) ((w.alloc (.cells (syA g q) 36)).alloc o) := exec_row (hbox2a _ _ _ _) hx
theorem exec_2avd {w : World} {o : Obj} {ev : Operand → Value} {x : Operand} {ty : TypeId} {ps : String} {dst : Option Tmp} {af : Array Edge} {gd : Option (Tmp × Bool)} {g : Nat → Int} {q : Nat → Bool} (hx : ev x = .pointer (some ⟨w.heap.size, 0, none⟩)) :
    (execOp ev { dst := dst, op := .load 36 x, type := ty, pos := ps, after := af, guard := gd }).run Try.prog (((w.alloc (.cells (syA g q) 36)).alloc o).drew) = .ok (.value (.agg (syA g q))) (((w.alloc (.cells (syA g q) 36)).alloc o).drew) := exec_row (hbox2a _ _ _ _) hx
theorem exec_2bv {w : World} {o : Obj} {ev : Operand → Value} {x : Operand} {ty : TypeId} {ps : String} {dst : Option Tmp} {af : Array Edge} {gd : Option (Tmp × Bool)} {g : Nat → Int} {q : Nat → Bool} (hx : ev x = .pointer (some ⟨w.heap.size + 1, 0, none⟩)) :
    (execOp ev { dst := dst, op := .load 36 x, type := ty, pos := ps, after := af, guard := gd }).run Try.prog ((w.alloc o).alloc (.cells (syA g q) 36)) = .ok (.value (.agg (syA g q))) ((w.alloc o).alloc (.cells (syA g q) 36)) := exec_row (hbox2b _ _ _ _) hx
theorem exec_2bvd {w : World} {o : Obj} {ev : Operand → Value} {x : Operand} {ty : TypeId} {ps : String} {dst : Option Tmp} {af : Array Edge} {gd : Option (Tmp × Bool)} {g : Nat → Int} {q : Nat → Bool} (hx : ev x = .pointer (some ⟨w.heap.size + 1, 0, none⟩)) :
    (execOp ev { dst := dst, op := .load 36 x, type := ty, pos := ps, after := af, guard := gd }).run Try.prog (((w.alloc o).alloc (.cells (syA g q) 36)).drew) = .ok (.value (.agg (syA g q))) (((w.alloc o).alloc (.cells (syA g q) 36)).drew) := exec_row (hbox2b _ _ _ _) hx
theorem exec_hv {W : World} {b : Nat} {ev : Operand → Value} {x : Operand} {ty : TypeId} {ps : String} {dst : Option Tmp} {af : Array Edge} {gd : Option (Tmp × Bool)} {g : Nat → Int} {q : Nat → Bool} (hb : (held W b (syA g q)).heap[b]? = some (.cells (syA g q) 36 (0, 0))) (hx : ev x = .pointer (some ⟨b, 0, none⟩)) :
    (execOp ev { dst := dst, op := .load 36 x, type := ty, pos := ps, after := af, guard := gd }).run Try.prog (held W b (syA g q)) = .ok (.value (.agg (syA g q))) (held W b (syA g q)) := exec_row hb hx
theorem exec_hvd {W : World} {b : Nat} {ev : Operand → Value} {x : Operand} {ty : TypeId} {ps : String} {dst : Option Tmp} {af : Array Edge} {gd : Option (Tmp × Bool)} {g : Nat → Int} {q : Nat → Bool} (hb : (held W b (syA g q)).heap[b]? = some (.cells (syA g q) 36 (0, 0))) (hx : ev x = .pointer (some ⟨b, 0, none⟩)) :
    (execOp ev { dst := dst, op := .load 36 x, type := ty, pos := ps, after := af, guard := gd }).run Try.prog ((held W b (syA g q)).drew) = .ok (.value (.agg (syA g q))) ((held W b (syA g q)).drew) := exec_row hb hx
theorem exec_iv {W : World} {b b' : Nat} {D : Array Value} {ev : Operand → Value} {x : Operand} {ty : TypeId} {ps : String} {dst : Option Tmp} {af : Array Edge} {gd : Option (Tmp × Bool)} {g : Nat → Int} {q : Nat → Bool} (hb : (held (held W b (syA g q)) b' D).heap[b]? = some (.cells (syA g q) 36 (0, 0))) (hx : ev x = .pointer (some ⟨b, 0, none⟩)) :
    (execOp ev { dst := dst, op := .load 36 x, type := ty, pos := ps, after := af, guard := gd }).run Try.prog (held (held W b (syA g q)) b' D) = .ok (.value (.agg (syA g q))) (held (held W b (syA g q)) b' D) := exec_row hb hx
theorem exec_ivd {W : World} {b b' : Nat} {D : Array Value} {ev : Operand → Value} {x : Operand} {ty : TypeId} {ps : String} {dst : Option Tmp} {af : Array Edge} {gd : Option (Tmp × Bool)} {g : Nat → Int} {q : Nat → Bool} (hb : (held (held W b (syA g q)) b' D).heap[b]? = some (.cells (syA g q) 36 (0, 0))) (hx : ev x = .pointer (some ⟨b, 0, none⟩)) :
    (execOp ev { dst := dst, op := .load 36 x, type := ty, pos := ps, after := af, guard := gd }).run Try.prog ((held (held W b (syA g q)) b' D).drew) = .ok (.value (.agg (syA g q))) ((held (held W b (syA g q)) b' D).drew) := exec_row hb hx
set_option maxRecDepth 20000 in
set_option maxHeartbeats 4000000 in
theorem toSides_A (g : Nat → Int) (q : Nat → Bool) (w : World) :
    Calls Try.prog 43 #[.agg (sdA g q)] w fun e w' => e = .returned (.agg (sdA g q)) ∧ Below w.heap.size w w' := by
  have hinfo : (Try.prog.info? 33).map (·.size) = some (sdA g q).size := by rw [sdA_size]; kernel_rfl
  have hinfl : (Try.prog.info? 33).map (·.size) = some (sdA g q).toList.length := by rw [Array.length_toList, sdA_size]; kernel_rfl
  have hsz := Lib.hid (sdA_size g q)
  have h0 := sdA_int g q 0 rfl
  have h1 := sdA_int g q 1 rfl
  go_enter Try.func43, Try.ntmps43
  go_wp2_with fail
  refine (toValue_l (g 0) (g 1) _).mono ?_
  rintro e w0 ⟨rfl, hb⟩
  have K0 := (Cv.mk0 (C := sdA g q) (k := 0) w (by rw [sdA_size]; rfl) (by rw [sdA_size]; rfl) (by intro j hj; omega)).call hb
  clear hb
  have h2 := sdA_int g q 2 rfl
  have h3 := sdA_int g q 3 rfl
  have c := K0.boxc
  have f := K0.froz
  obtain ⟨x0, e0⟩ := K0.cell 0 (by rw [hsz.out]; decide)
  obtain ⟨x1, e1⟩ := K0.cell 1 (by rw [hsz.out]; decide)
  go_wp2_with fail
  refine (toValue_l (g 2) (g 3) _).mono ?_
  rintro e w1 ⟨rfl, hb⟩
  have K1 := ((K0.set h0).set h1).call hb
  clear K0 c f
  clear h0
  clear h1
  clear hb
  have h4 := sdA_int g q 4 rfl
  have h5 := sdA_int g q 5 rfl
  have c := K1.boxc
  have f := K1.froz
  obtain ⟨x2, e2⟩ := K1.cell 2 (by rw [hsz.out]; decide)
  obtain ⟨x3, e3⟩ := K1.cell 3 (by rw [hsz.out]; decide)
  go_wp2_with fail
  refine (toValue_l (g 4) (g 5) _).mono ?_
  rintro e w2 ⟨rfl, hb⟩
  have K2 := ((K1.set h2).set h3).call hb
  clear K1 c f
  clear h2
  clear h3
  clear hb
  have h6 := sdA_int g q 6 rfl
  have h7 := sdA_int g q 7 rfl
  have c := K2.boxc
  have f := K2.froz
  obtain ⟨x4, e4⟩ := K2.cell 4 (by rw [hsz.out]; decide)
  obtain ⟨x5, e5⟩ := K2.cell 5 (by rw [hsz.out]; decide)
  go_wp2_with fail
  refine (toValue_l (g 6) (g 7) _).mono ?_
  rintro e w3 ⟨rfl, hb⟩
  have K3 := ((K2.set h4).set h5).call hb
  clear K2 c f
  clear h4
  clear h5
  clear hb
  have h8 := sdA_int g q 8 rfl
  have h9 := sdA_int g q 9 rfl
  have c := K3.boxc
  have f := K3.froz
  obtain ⟨x6, e6⟩ := K3.cell 6 (by rw [hsz.out]; decide)
  obtain ⟨x7, e7⟩ := K3.cell 7 (by rw [hsz.out]; decide)
  go_wp2_with fail
  refine (toValue_l (g 8) (g 9) _).mono ?_
  rintro e w4 ⟨rfl, hb⟩
  have K4 := ((K3.set h6).set h7).call hb
  clear K3 c f
  clear h6
  clear h7
  clear hb
  have h10 := sdA_int g q 10 rfl
  have h11 := sdA_int g q 11 rfl
  have c := K4.boxc
  have f := K4.froz
  obtain ⟨x8, e8⟩ := K4.cell 8 (by rw [hsz.out]; decide)
  obtain ⟨x9, e9⟩ := K4.cell 9 (by rw [hsz.out]; decide)
  go_wp2_with fail
  refine (toValue_l (g 10) (g 11) _).mono ?_
  rintro e w5 ⟨rfl, hb⟩
  have K5 := ((K4.set h8).set h9).call hb
  clear K4 c f
  clear h8
  clear h9
  clear hb
  have c := K5.boxc
  have f := K5.froz
  obtain ⟨x10, e10⟩ := K5.cell 10 (by rw [hsz.out]; decide)
  obtain ⟨x11, e11⟩ := K5.cell 11 (by rw [hsz.out]; decide)
  have KF := Lib.hid ((K5.set h10).set h11)
  obtain ⟨TT, hfull⟩ := KF.out.full (by rw [hsz.out])
  have HF := Lib.hid hfull
  clear hfull
  go_upto_region 8 with (fail)
  go_wp2_with (first | (refine wpList_load_row rfl 33 _ rfl (w.heap.size + 1 + 1) rfl TT (sdA g q) (0, 0) _ HF.out Try.underlying33 rfl hinfo ?_) | (refine wpList_store_mid rfl 33 _ _ rfl (w.heap.size + 1) 0 (sdA g q) rfl rfl KF.out.there hinfo (sdA_one g q) ?_))
  refine bodyPost_ret (v := .agg (sdA g q)) (results_cell_mid Try.results43 _ _ (w.heap.size + 1) (sdA g q).toList _ rfl KF.out.finish.1 Try.underlying33 rfl hinfl) rfl ⟨rfl, KF.out.finish.2⟩
theorem toSides_L (g : Nat → Int) (w : World) :
    Calls Try.prog 43 #[.agg #[.int .i64 (g 0), .int .i64 (g 1), .int .i64 (g 2), .int .i64 (g 3), .int .i64 (g 4), .int .i64 (g 5), .int .i64 (g 6), .int .i64 (g 7), .int .i64 (g 8), .int .i64 (g 9), .int .i64 (g 10), .int .i64 (g 11)]] w fun e w' => e = .returned (.agg #[.int .i64 (g 0), .int .i64 (g 1), .int .i64 (g 2), .int .i64 (g 3), .int .i64 (g 4), .int .i64 (g 5), .int .i64 (g 6), .int .i64 (g 7), .int .i64 (g 8), .int .i64 (g 9), .int .i64 (g 10), .int .i64 (g 11)]) ∧ Below w.heap.size w w' :=
  toSides_A g (fun _ => false) w

set_option maxRecDepth 20000 in
set_option maxHeartbeats 4000000 in
theorem toStyle_A (g : Nat → Int) (q : Nat → Bool) (w : World) :
    Calls Try.prog 16 #[.agg (syA g q)] w fun e w' => e = .returned (.agg (syA g q)) ∧ Below w.heap.size w w' := by
  have hinfo : (Try.prog.info? 36).map (·.size) = some (syA g q).size := by rw [syA_size]; kernel_rfl
  have hinfl : (Try.prog.info? 36).map (·.size) = some (syA g q).toList.length := by rw [Array.length_toList, syA_size]; kernel_rfl
  have hsz := Lib.hid (syA_size g q)
  have h0 := syA_int g q 0 rfl
  have h1 := syA_int g q 1 rfl
  have h2 := syA_int g q 2 rfl
  have h3 := syA_int g q 3 rfl
  have h4 := syA_int g q 4 rfl
  have h5 := syA_int g q 5 rfl
  have h6 := syA_bool g q 6 rfl
  have h7 := syA_bool g q 7 rfl
  have h8 := syA_int g q 8 rfl
  have h9 := syA_int g q 9 rfl
  have h10 := syA_int g q 10 rfl
  have h11 := syA_int g q 11 rfl
  have h12 := syA_int g q 12 rfl
  go_enter Try.func16, Try.ntmps16
  go_wp2_with fail
  refine (toValue_l (g 11) (g 12) _).mono ?_
  rintro e w0 ⟨rfl, hb⟩
  have K0 := (Cv.mk0 (C := syA g q) (k := 11) w (by rw [syA_size]; rfl) (by rw [syA_size]; rfl) (by intro j hj; have hj' : j = 0 ∨ j = 1 ∨ j = 2 ∨ j = 3 ∨ j = 4 ∨ j = 5 ∨ j = 6 ∨ j = 7 ∨ j = 8 ∨ j = 9 ∨ j = 10 := (by omega); rcases hj' with rfl | rfl | rfl | rfl | rfl | rfl | rfl | rfl | rfl | rfl | rfl <;> (first | exact h0.symm | exact h1.symm | exact h2.symm | exact h3.symm | exact h4.symm | exact h5.symm | exact h6.symm | exact h7.symm | exact h8.symm | exact h9.symm | exact h10.symm))).call hb
  clear hb
  clear h0
  clear h1
  clear h2
  clear h3
  clear h4
  clear h5
  clear h6
  clear h7
  clear h8
  clear h9
  clear h10
  have h13 := syA_int g q 13 rfl
  have h14 := syA_int g q 14 rfl
  have c := K0.boxc
  have f := K0.froz
  obtain ⟨x11, e11⟩ := K0.cell 11 (by rw [hsz.out]; decide)
  obtain ⟨x12, e12⟩ := K0.cell 12 (by rw [hsz.out]; decide)
  go_wp2_with fail
  refine (toValue_l (g 13) (g 14) _).mono ?_
  rintro e w1 ⟨rfl, hb⟩
  have K1 := ((K0.set h11).set h12).call hb
  clear K0 c f
  clear h11
  clear h12
  clear hb
  have h15 := syA_int g q 15 rfl
  have h16 := syA_int g q 16 rfl
  have c := K1.boxc
  have f := K1.froz
  obtain ⟨x13, e13⟩ := K1.cell 13 (by rw [hsz.out]; decide)
  obtain ⟨x14, e14⟩ := K1.cell 14 (by rw [hsz.out]; decide)
  go_wp2_with fail
  refine (toValue_l (g 15) (g 16) _).mono ?_
  rintro e w2 ⟨rfl, hb⟩
  have K2 := ((K1.set h13).set h14).call hb
  clear K1 c f
  clear h13
  clear h14
  clear hb
  have h17 := syA_int g q 17 rfl
  have h18 := syA_int g q 18 rfl
  have c := K2.boxc
  have f := K2.froz
  obtain ⟨x15, e15⟩ := K2.cell 15 (by rw [hsz.out]; decide)
  obtain ⟨x16, e16⟩ := K2.cell 16 (by rw [hsz.out]; decide)
  go_wp2_with fail
  refine (toValue_l (g 17) (g 18) _).mono ?_
  rintro e w3 ⟨rfl, hb⟩
  have K3 := ((K2.set h15).set h16).call hb
  clear K2 c f
  clear h15
  clear h16
  clear hb
  have h19 := syA_int g q 19 rfl
  have h20 := syA_int g q 20 rfl
  have c := K3.boxc
  have f := K3.froz
  obtain ⟨x17, e17⟩ := K3.cell 17 (by rw [hsz.out]; decide)
  obtain ⟨x18, e18⟩ := K3.cell 18 (by rw [hsz.out]; decide)
  go_wp2_with fail
  refine (toValue_l (g 19) (g 20) _).mono ?_
  rintro e w4 ⟨rfl, hb⟩
  have K4 := ((K3.set h17).set h18).call hb
  clear K3 c f
  clear h17
  clear h18
  clear hb
  have h21 := syA_int g q 21 rfl
  have h22 := syA_int g q 22 rfl
  have c := K4.boxc
  have f := K4.froz
  obtain ⟨x19, e19⟩ := K4.cell 19 (by rw [hsz.out]; decide)
  obtain ⟨x20, e20⟩ := K4.cell 20 (by rw [hsz.out]; decide)
  go_wp2_with fail
  refine (toValue_l (g 21) (g 22) _).mono ?_
  rintro e w5 ⟨rfl, hb⟩
  have K5 := ((K4.set h19).set h20).call hb
  clear K4 c f
  clear h19
  clear h20
  clear hb
  have h23 := syA_int g q 23 rfl
  have h24 := syA_int g q 24 rfl
  have c := K5.boxc
  have f := K5.froz
  obtain ⟨x21, e21⟩ := K5.cell 21 (by rw [hsz.out]; decide)
  obtain ⟨x22, e22⟩ := K5.cell 22 (by rw [hsz.out]; decide)
  go_wp2_with fail
  refine (toValue_l (g 23) (g 24) _).mono ?_
  rintro e w6 ⟨rfl, hb⟩
  have K6 := ((K5.set h21).set h22).call hb
  clear K5 c f
  clear h21
  clear h22
  clear hb
  have h25 := syA_int g q 25 rfl
  have h26 := syA_int g q 26 rfl
  have h27 := syA_int g q 27 rfl
  have h28 := syA_int g q 28 rfl
  have h29 := syA_int g q 29 rfl
  have h30 := syA_int g q 30 rfl
  have h31 := syA_int g q 31 rfl
  have h32 := syA_int g q 32 rfl
  have h33 := syA_int g q 33 rfl
  have h34 := syA_int g q 34 rfl
  have h35 := syA_int g q 35 rfl
  have h36 := syA_int g q 36 rfl
  have h37 := syA_int g q 37 rfl
  have c := K6.boxc
  have f := K6.froz
  obtain ⟨x23, e23⟩ := K6.cell 23 (by rw [hsz.out]; decide)
  obtain ⟨x24, e24⟩ := K6.cell 24 (by rw [hsz.out]; decide)
  obtain ⟨x25, e25⟩ := K6.cell 25 (by rw [hsz.out]; decide)
  go_wp2_with fail
  refine (toSides_L (fun i => g (26 + i)) _).mono ?_
  rintro e w7 ⟨rfl, hb⟩
  have K7 := (((K6.set h23).set h24).set h25).call hb
  clear K6 c f
  clear h23
  clear h24
  clear h25
  clear hb
  have h38 := syA_int g q 38 rfl
  have h39 := syA_int g q 39 rfl
  have h40 := syA_int g q 40 rfl
  have h41 := syA_int g q 41 rfl
  have h42 := syA_int g q 42 rfl
  have h43 := syA_int g q 43 rfl
  have h44 := syA_int g q 44 rfl
  have h45 := syA_int g q 45 rfl
  have h46 := syA_int g q 46 rfl
  have h47 := syA_int g q 47 rfl
  have h48 := syA_int g q 48 rfl
  have h49 := syA_int g q 49 rfl
  have c := K7.boxc
  have f := K7.froz
  obtain ⟨x26, e26⟩ := K7.cell 26 (by rw [hsz.out]; decide)
  obtain ⟨x27, e27⟩ := K7.cell 27 (by rw [hsz.out]; decide)
  obtain ⟨x28, e28⟩ := K7.cell 28 (by rw [hsz.out]; decide)
  obtain ⟨x29, e29⟩ := K7.cell 29 (by rw [hsz.out]; decide)
  obtain ⟨x30, e30⟩ := K7.cell 30 (by rw [hsz.out]; decide)
  obtain ⟨x31, e31⟩ := K7.cell 31 (by rw [hsz.out]; decide)
  obtain ⟨x32, e32⟩ := K7.cell 32 (by rw [hsz.out]; decide)
  obtain ⟨x33, e33⟩ := K7.cell 33 (by rw [hsz.out]; decide)
  obtain ⟨x34, e34⟩ := K7.cell 34 (by rw [hsz.out]; decide)
  obtain ⟨x35, e35⟩ := K7.cell 35 (by rw [hsz.out]; decide)
  obtain ⟨x36, e36⟩ := K7.cell 36 (by rw [hsz.out]; decide)
  obtain ⟨x37, e37⟩ := K7.cell 37 (by rw [hsz.out]; decide)
  go_wp2_with fail
  refine (toSides_L (fun i => g (38 + i)) _).mono ?_
  rintro e w8 ⟨rfl, hb⟩
  have K8 := ((((((((((((K7.set h26).set h27).set h28).set h29).set h30).set h31).set h32).set h33).set h34).set h35).set h36).set h37).call hb
  clear K7 c f
  clear h26
  clear h27
  clear h28
  clear h29
  clear h30
  clear h31
  clear h32
  clear h33
  clear h34
  clear h35
  clear h36
  clear h37
  clear hb
  have h50 := syA_int g q 50 rfl
  have h51 := syA_int g q 51 rfl
  have h52 := syA_int g q 52 rfl
  have h53 := syA_int g q 53 rfl
  have c := K8.boxc
  have f := K8.froz
  obtain ⟨x38, e38⟩ := K8.cell 38 (by rw [hsz.out]; decide)
  obtain ⟨x39, e39⟩ := K8.cell 39 (by rw [hsz.out]; decide)
  obtain ⟨x40, e40⟩ := K8.cell 40 (by rw [hsz.out]; decide)
  obtain ⟨x41, e41⟩ := K8.cell 41 (by rw [hsz.out]; decide)
  obtain ⟨x42, e42⟩ := K8.cell 42 (by rw [hsz.out]; decide)
  obtain ⟨x43, e43⟩ := K8.cell 43 (by rw [hsz.out]; decide)
  obtain ⟨x44, e44⟩ := K8.cell 44 (by rw [hsz.out]; decide)
  obtain ⟨x45, e45⟩ := K8.cell 45 (by rw [hsz.out]; decide)
  obtain ⟨x46, e46⟩ := K8.cell 46 (by rw [hsz.out]; decide)
  obtain ⟨x47, e47⟩ := K8.cell 47 (by rw [hsz.out]; decide)
  obtain ⟨x48, e48⟩ := K8.cell 48 (by rw [hsz.out]; decide)
  obtain ⟨x49, e49⟩ := K8.cell 49 (by rw [hsz.out]; decide)
  go_wp2_with fail
  refine (toEdges_l (g 50) (g 51) (g 52) (g 53) _).mono ?_
  rintro e w9 ⟨rfl, hb⟩
  have K9 := ((((((((((((K8.set h38).set h39).set h40).set h41).set h42).set h43).set h44).set h45).set h46).set h47).set h48).set h49).call hb
  clear K8 c f
  clear h38
  clear h39
  clear h40
  clear h41
  clear h42
  clear h43
  clear h44
  clear h45
  clear h46
  clear h47
  clear h48
  clear h49
  clear hb
  have h54 := syA_int g q 54 rfl
  have h55 := syA_int g q 55 rfl
  have h56 := syA_int g q 56 rfl
  have h57 := syA_int g q 57 rfl
  have c := K9.boxc
  have f := K9.froz
  obtain ⟨x50, e50⟩ := K9.cell 50 (by rw [hsz.out]; decide)
  obtain ⟨x51, e51⟩ := K9.cell 51 (by rw [hsz.out]; decide)
  obtain ⟨x52, e52⟩ := K9.cell 52 (by rw [hsz.out]; decide)
  obtain ⟨x53, e53⟩ := K9.cell 53 (by rw [hsz.out]; decide)
  go_wp2_with fail
  refine (toEdges_l (g 54) (g 55) (g 56) (g 57) _).mono ?_
  rintro e w10 ⟨rfl, hb⟩
  have K10 := ((((K9.set h50).set h51).set h52).set h53).call hb
  clear K9 c f
  clear h50
  clear h51
  clear h52
  clear h53
  clear hb
  have h58 := syA_int g q 58 rfl
  have h59 := syA_int g q 59 rfl
  have c := K10.boxc
  have f := K10.froz
  obtain ⟨x54, e54⟩ := K10.cell 54 (by rw [hsz.out]; decide)
  obtain ⟨x55, e55⟩ := K10.cell 55 (by rw [hsz.out]; decide)
  obtain ⟨x56, e56⟩ := K10.cell 56 (by rw [hsz.out]; decide)
  obtain ⟨x57, e57⟩ := K10.cell 57 (by rw [hsz.out]; decide)
  obtain ⟨x58, e58⟩ := K10.cell 58 (by rw [hsz.out]; decide)
  obtain ⟨x59, e59⟩ := K10.cell 59 (by rw [hsz.out]; decide)
  have KF := Lib.hid ((((((K10.set h54).set h55).set h56).set h57).set h58).set h59)
  obtain ⟨TT, hfull⟩ := KF.out.full (by rw [hsz.out])
  have HF := Lib.hid hfull
  clear hfull
  go_upto_region 27 with (fail)
  go_wp2_with (first | (refine wpList_load_row rfl 36 _ rfl (w.heap.size + 1 + 1) rfl TT (syA g q) (0, 0) _ HF.out Try.underlying36 rfl hinfo ?_) | (refine wpList_store_mid rfl 36 _ _ rfl (w.heap.size + 1) 0 (syA g q) rfl rfl KF.out.there hinfo (syA_one g q) ?_))
  refine bodyPost_ret (v := .agg (syA g q)) (results_cell_mid Try.results16 _ _ (w.heap.size + 1) (syA g q).toList _ rfl KF.out.finish.1 Try.underlying36 rfl hinfl) rfl ⟨rfl, KF.out.finish.2⟩


end Go.Proofs.Ytkjipijbfblffaa
