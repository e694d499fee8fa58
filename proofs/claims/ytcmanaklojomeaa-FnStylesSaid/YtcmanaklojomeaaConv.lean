/- The conversions of the laws' structs into the program's: each returns the same cells and makes new memory only. Structs of many cells are kept under one name. No condition. -/
import Derived.Test.YtcmanaklojomeaaCore
import Derived.Deep.MidRow
import Derived.Deep.Cut
import Derived.Laws.Rows
import Derived.Laws.IdiomCopy
import Derived.Lib.SmallJoins
namespace Go.Proofs.Ytcmanaklojomeaa
open Go.RowKit
set_option linter.unusedVariables false

def ksSides : List Bool := [true, true, true, true, true, true, true, true, true, true, true, true]
def ksStyle : List Bool := [true, true, true, true, true, true, false, false, true, true, true, true, true, true, true, true, true, true, true, true, true, true, true, true, true, true, true, true, true, true, true, true, true, true, true, true, true, true, true, true, true, true, true, true, true, true, true, true, true, true, true, true, true, true, true, true, true, true, true, true]
/-- The twelve cells of a 'Sides', the sixty of a 'Style'. -/
def sdA (g : Nat → Int) (q : Nat → Bool) : Array Value := ⟨leafV g q ksSides 0⟩
def syA (g : Nat → Int) (q : Nat → Bool) : Array Value := ⟨leafV g q ksStyle 0⟩
theorem sdA_size (g : Nat → Int) (q : Nat → Bool) : (sdA g q).size = 12 := by simp [sdA, leafV_length, ksSides]
theorem syA_size (g : Nat → Int) (q : Nat → Bool) : (syA g q).size = 60 := by simp [syA, leafV_length, ksStyle]
theorem sdA_int (g : Nat → Int) (q : Nat → Bool) (i : Nat) (h : ksSides[i]? = some true) : (sdA g q)[i]? = some (.int .i64 (g i)) := by
  simpa [sdA] using leafV_get g q ksSides 0 i true h
theorem syA_int (g : Nat → Int) (q : Nat → Bool) (i : Nat) (h : ksStyle[i]? = some true) : (syA g q)[i]? = some (.int .i64 (g i)) := by
  simpa [syA] using leafV_get g q ksStyle 0 i true h
theorem syA_bool (g : Nat → Int) (q : Nat → Bool) (i : Nat) (h : ksStyle[i]? = some false) : (syA g q)[i]? = some (.bool (q i)) := by
  simpa [syA] using leafV_get g q ksStyle 0 i false h
theorem leafV_one (g : Nat → Int) (q : Nat → Bool) : ∀ (ks : List Bool) (i : Nat), ∀ v ∈ leafV g q ks i, v.oneCell' = true
  | [], _, v, h => by cases h
  | true :: ks, i, v, h => by
    rcases List.mem_cons.mp h with rfl | h
    · rfl
    · exact leafV_one g q ks (i + 1) v h
  | false :: ks, i, v, h => by
    rcases List.mem_cons.mp h with rfl | h
    · rfl
    · exact leafV_one g q ks (i + 1) v h
theorem sdA_one (g : Nat → Int) (q : Nat → Bool) : (sdA g q).all (·.oneCell') = true := all_oneCell_toArray (leafV_one g q _ _)
theorem syA_one (g : Nat → Int) (q : Nat → Bool) : (syA g q).all (·.oneCell') = true := all_oneCell_toArray (leafV_one g q _ _)

/-- In the midst of a conversion: the box holds C, the new struct's first k cells are C's. -/
structure Cv (C : Array Value) (w : World) (k : Nat) (W : World) : Prop where
  bel : Below w.heap.size w W
  size : w.heap.size + 3 ≤ W.heap.size
  box : ∃ T, W.heap[w.heap.size]? = some (.cells C T (0, 0))
  res : ∃ R T, W.heap[w.heap.size + 1]? = some (.cells R T (0, 0)) ∧ R.size = C.size
  cmp : ∃ A T, W.heap[w.heap.size + 1 + 1]? = some (.cells A T (0, 0)) ∧ A.size = C.size ∧ ∀ j, j < k → A[j]? = C[j]?

theorem Cv.mk0 {C Z A : Array Value} {T0 T1 T2 : TypeId} {k : Nat} (w : World) (hZ : Z.size = C.size) (hA : A.size = C.size) (hk : ∀ j, j < k → A[j]? = C[j]?) :
    Cv C w k (((w.alloc (.cells C T0)).alloc (.cells Z T1)).alloc (.cells A T2)) := by
  refine ⟨bel_alloc (bel_alloc (bel_alloc (Below.refl _ _) _) _) _, by simp, ⟨T0, ?_⟩, ⟨Z, T1, ?_, hZ⟩, ⟨A, T2, ?_, hA, hk⟩⟩
  · rw [Below.heap_alloc _ _ _ (by simp; omega), Below.heap_alloc _ _ _ (by simp)]
    exact heap_alloc_new _ _
  · rw [Below.heap_alloc _ _ _ (by simp)]
    have := heap_alloc_new (w.alloc (.cells C T0)) (.cells Z T1)
    simpa using this
  · have := heap_alloc_new ((w.alloc (.cells C T0)).alloc (.cells Z T1)) (.cells A T2)
    simpa using this
theorem Cv.call {C : Array Value} {w W W' : World} {k : Nat} (h : Cv C w k W) (hb : Below W.heap.size W W') : Cv C w k W' := by
  have hs := h.size
  refine ⟨bel_call h.bel hb, Nat.le_trans h.size hb.size, ?_, ?_, ?_⟩
  · obtain ⟨T, hT⟩ := h.box
    exact ⟨T, by rw [hb.block _ (by omega)]; exact hT⟩
  · obtain ⟨R, T, hT, hR⟩ := h.res
    exact ⟨R, T, by rw [hb.block _ (by omega)]; exact hT, hR⟩
  · obtain ⟨A, T, hT, hA, hk⟩ := h.cmp
    exact ⟨A, T, by rw [hb.block _ (by omega)]; exact hT, hA, hk⟩
theorem Cv.set {C : Array Value} {w W : World} {k : Nat} (h : Cv C w k W) {v : Value} (hv : C[k]? = some v) : Cv C w (k + 1) (W.setCell ⟨w.heap.size + 1 + 1, k, none⟩ v) := by
  have hs := h.size
  refine ⟨Below.setCell h.bel (by simp; omega) _, by simpa using h.size, ?_, ?_, ?_⟩
  · obtain ⟨T, hT⟩ := h.box
    exact ⟨T, by rw [heap_setCell_other _ _ _ _ (by simp; omega)]; exact hT⟩
  · obtain ⟨R, T, hT, hR⟩ := h.res
    exact ⟨R, T, by rw [heap_setCell_other _ _ _ _ (by simp)]; exact hT, hR⟩
  · obtain ⟨A, T, hT, hA, hk⟩ := h.cmp
    refine ⟨A.setIfInBounds k v, T, Joins.block_setCell hT v, by simpa using hA, ?_⟩
    intro j hj
    have hkC : k < C.size := (Array.getElem?_eq_some_iff.mp hv).1
    by_cases hjk : j = k
    · subst hjk
      rw [hv, Array.getElem?_setIfInBounds_self_of_lt (by omega)]
    · rw [Array.getElem?_setIfInBounds_ne (by omega)]
      exact hk j (by omega)
theorem Cv.boxc {C : Array Value} {w W : World} {k : Nat} (h : Cv C w k W) : ∀ o, W.cell? ⟨w.heap.size, o, none⟩ = C[o]? := by
  obtain ⟨T, hT⟩ := h.box
  exact fun o => Joins.cell_of_block hT o
theorem Cv.cell {C : Array Value} {w W : World} {k : Nat} (h : Cv C w k W) (j : Nat) (hj : j < C.size) : ∃ v, W.cell? ⟨w.heap.size + 1 + 1, j, none⟩ = some v := by
  obtain ⟨A, T, hT, hA, _⟩ := h.cmp
  exact ⟨A[j]'(by omega), by rw [Joins.cell_of_block hT]; simp [hA, hj]⟩
theorem Cv.froz {C : Array Value} {w W : World} {k : Nat} (h : Cv C w k W) : ∀ o, W.frozen? ⟨w.heap.size + 1 + 1, o, none⟩ = false := by
  obtain ⟨A, T, hT, _, _⟩ := h.cmp
  exact fun o => Joins.unfrozen_of_block hT o
theorem Cv.full {C : Array Value} {w W : World} {k : Nat} (h : Cv C w k W) (hk : k = C.size) : ∃ T, W.heap[w.heap.size + 1 + 1]? = some (.cells C T (0, 0)) := by
  obtain ⟨A, T, hT, hA, hj⟩ := h.cmp
  have : A = C := by
    apply Array.ext_getElem?
    intro i
    by_cases hi : i < C.size
    · exact hj i (by omega)
    · rw [Array.getElem?_eq_none (by omega), Array.getElem?_eq_none (by omega)]
  exact ⟨T, by rw [hT, this]⟩
theorem Cv.there {C : Array Value} {w W : World} {k : Nat} (h : Cv C w k W) : W.there (w.heap.size + 1) 0 C.size := by
  obtain ⟨R, T, hT, hR⟩ := h.res
  intro j hj
  refine ⟨?_, Joins.unfrozen_of_block hT _⟩
  rw [Joins.cell_of_block hT]
  simp [hR, hj]
theorem below_setCells' {B : Nat} {a : World} (b : Nat) (hb : B ≤ b) : ∀ (vs : List Value) (o : Nat) {w : World}, Below B a w → Below B a (w.setCells b o vs)
  | [], _, _, h => h
  | v :: r, o, _, h => below_setCells' b hb r (o + 1) (h.setCell (p := ⟨b, o, none⟩) hb v)
/-- A result that is a struct, out of its variable, read as a range. -/
theorem results_cell_mid {P : Program} {fn : Func} {p : Tmp} {ty : TypeId} (h : fn.results = #[.cell p ty]) (tmps : Array Value) (w : World) (g : Nat) (cs : List Value) (d : TypeDesc)
    (hp : tmps.getD p undef = .pointer (some ⟨g, 0, none⟩)) (hc : w.rangeAt g 0 cs)
    (hu : P.underlying ty = some d) (hd : d.isRow = true) (hi : (P.info? ty).map (·.size) = some cs.length) :
    (results fn tmps).run P w = .ok (.agg cs.toArray) w := by
  have hp' : tmps[p]?.getD undef = .pointer (some ⟨g, 0, none⟩) := by simpa using hp
  simp [results, h, hp', asAddr, run_loadVar_mid w g 0 ty cs d hc hu hd hi]
/-- The end of a conversion: the new struct is read whole and stored into the result. -/
theorem Cv.finish {C : Array Value} {w W : World} {k : Nat} (h : Cv C w k W) : (W.setCells (w.heap.size + 1) 0 C.toList).rangeAt (w.heap.size + 1) 0 C.toList ∧ Below w.heap.size w (W.setCells (w.heap.size + 1) 0 C.toList) :=
  ⟨World.rangeAt_setCells_same _ _ _ _ (by simpa using h.there), below_setCells' _ (by omega) _ _ h.bel⟩

def tsSides : List TypeId := [3, 3, 3, 3, 3, 3, 3, 3, 3, 3, 3, 3]
def tsStyle : List TypeId := [3, 3, 3, 3, 3, 3, 4, 4, 3, 3, 3, 3, 3, 3, 3, 3, 3, 3, 3, 3, 3, 3, 3, 3, 3, 3, 3, 3, 3, 3, 3, 3, 3, 3, 3, 3, 3, 3, 3, 3, 3, 3, 3, 3, 3, 3, 3, 3, 3, 3, 3, 3, 3, 3, 3, 3, 3, 3, 3, 3]
theorem size_lt_alloc (w : World) (o : Obj) : w.heap.size < (w.alloc o).heap.size := by simp
theorem size_lt_alloc' {n : Nat} {w : World} (h : n < w.heap.size) (o : Obj) : n < (w.alloc o).heap.size := by simp; omega
theorem hbox1 (w : World) (C : Array Value) (T : TypeId) : (w.alloc (.cells C T)).heap[w.heap.size]? = some (.cells C T (0, 0)) := heap_alloc_new _ _
theorem hbox2a (w : World) (C : Array Value) (T : TypeId) (o : Obj) : ((w.alloc (.cells C T)).alloc o).heap[w.heap.size]? = some (.cells C T (0, 0)) := by
  rw [Below.heap_alloc _ _ _ (by simp)]; exact heap_alloc_new _ _
theorem hbox2b (w : World) (C : Array Value) (T : TypeId) (o : Obj) : ((w.alloc o).alloc (.cells C T)).heap[w.heap.size + 1]? = some (.cells C T (0, 0)) := by
  have := heap_alloc_new (w.alloc o) (.cells C T)
  simpa using this
theorem sdA_info_v (g : Nat → Int) (q : Nat → Bool) : (Try.prog.info? 36).map (·.size) = some (sdA g q).size := by rw [sdA_size]; kernel_rfl
theorem syA_info_v (g : Nat → Int) (q : Nat → Bool) : (Try.prog.info? 40).map (·.size) = some (syA g q).size := by rw [syA_size]; kernel_rfl
/-- The load of a whole style out of its box, run whole: rules for the walk ('attribute [local go_sem ↓]'). -/
theorem exec_row {W : World} {b : Nat} {ev : Operand → Value} {x : Operand} {ty : TypeId} {ps : String} {dst : Option Tmp} {af : Array Edge} {gd : Option (Tmp × Bool)} {g : Nat → Int} {q : Nat → Bool}
    (hb : W.heap[b]? = some (.cells (syA g q) 40 (0, 0))) (hx : ev x = .pointer (some ⟨b, 0, none⟩)) :
    (execOp ev { dst := dst, op := .load 40 x, type := ty, pos := ps, after := af, guard := gd }).run Try.prog W = .ok (.value (.agg (syA g q))) W := by
  unfold execOp
  simp only [hx, Instr.loadAt, Instr.sureAddr, Sem.run_bind, Sem.run_pure, Result.andThen_ok, run_loadVar_row W b 40 40 (syA g q) (0, 0) _ hb Try.underlying40 rfl (syA_info_v g q)]
theorem exec_row1 {w : World} {ev : Operand → Value} {x : Operand} {ty : TypeId} {ps : String} {dst : Option Tmp} {af : Array Edge} {gd : Option (Tmp × Bool)} {g : Nat → Int} {q : Nat → Bool} (hx : ev x = .pointer (some ⟨w.heap.size, 0, none⟩)) :
    (execOp ev { dst := dst, op := .load 40 x, type := ty, pos := ps, after := af, guard := gd }).run Try.prog (w.alloc (.cells (syA g q) 40)) = .ok (.value (.agg (syA g q))) (w.alloc (.cells (syA g q) 40)) :=
  exec_row (hbox1 _ _ _) hx
theorem exec_row1d {w : World} {ev : Operand → Value} {x : Operand} {ty : TypeId} {ps : String} {dst : Option Tmp} {af : Array Edge} {gd : Option (Tmp × Bool)} {g : Nat → Int} {q : Nat → Bool} (hx : ev x = .pointer (some ⟨w.heap.size, 0, none⟩)) :
    (execOp ev { dst := dst, op := .load 40 x, type := ty, pos := ps, after := af, guard := gd }).run Try.prog (w.alloc (.cells (syA g q) 40)).drew = .ok (.value (.agg (syA g q))) (w.alloc (.cells (syA g q) 40)).drew :=
  exec_row (hbox1 _ _ _) hx
theorem exec_row2 {w : World} {o : Obj} {ev : Operand → Value} {x : Operand} {ty : TypeId} {ps : String} {dst : Option Tmp} {af : Array Edge} {gd : Option (Tmp × Bool)} {g : Nat → Int} {q : Nat → Bool} (hx : ev x = .pointer (some ⟨w.heap.size, 0, none⟩)) :
    (execOp ev { dst := dst, op := .load 40 x, type := ty, pos := ps, after := af, guard := gd }).run Try.prog ((w.alloc (.cells (syA g q) 40)).alloc o) = .ok (.value (.agg (syA g q))) ((w.alloc (.cells (syA g q) 40)).alloc o) :=
  exec_row (hbox2a _ _ _ _) hx
/-- A world of which it is known that block b holds C: a name that the rules can see. -/
def held (W : World) (b : Nat) (C : Array Value) : World := match b with | 0 => W | _ + 1 => W
theorem held_eq (W : World) (b : Nat) (C : Array Value) : held W b C = W := by unfold held; split <;> rfl
theorem exec_rowh {W : World} {b : Nat} {ev : Operand → Value} {x : Operand} {ty : TypeId} {ps : String} {dst : Option Tmp} {af : Array Edge} {gd : Option (Tmp × Bool)} {g : Nat → Int} {q : Nat → Bool}
    (hb : (held W b (syA g q)).heap[b]? = some (.cells (syA g q) 40 (0, 0))) (hx : ev x = .pointer (some ⟨b, 0, none⟩)) :
    (execOp ev { dst := dst, op := .load 40 x, type := ty, pos := ps, after := af, guard := gd }).run Try.prog (held W b (syA g q)) = .ok (.value (.agg (syA g q))) (held W b (syA g q)) := exec_row hb hx
theorem exec_rowhd {W : World} {b : Nat} {ev : Operand → Value} {x : Operand} {ty : TypeId} {ps : String} {dst : Option Tmp} {af : Array Edge} {gd : Option (Tmp × Bool)} {g : Nat → Int} {q : Nat → Bool}
    (hb : (held W b (syA g q)).heap[b]? = some (.cells (syA g q) 40 (0, 0))) (hx : ev x = .pointer (some ⟨b, 0, none⟩)) :
    (execOp ev { dst := dst, op := .load 40 x, type := ty, pos := ps, after := af, guard := gd }).run Try.prog (held W b (syA g q)).drew = .ok (.value (.agg (syA g q))) (held W b (syA g q)).drew := exec_row hb hx
theorem exec_1v {w : World} {ev : Operand → Value} {x : Operand} {ty : TypeId} {ps : String} {dst : Option Tmp} {af : Array Edge} {gd : Option (Tmp × Bool)} {g : Nat → Int} {q : Nat → Bool} (hx : ev x = .pointer (some ⟨w.heap.size, 0, none⟩)) :
    (execOp ev { dst := dst, op := .load 40 x, type := ty, pos := ps, after := af, guard := gd }).run Try.prog (w.alloc (.cells (syA g q) 40)) = .ok (.value (.agg (syA g q))) (w.alloc (.cells (syA g q) 40)) := exec_row (hbox1 _ _ _) hx
theorem exec_1vd {w : World} {ev : Operand → Value} {x : Operand} {ty : TypeId} {ps : String} {dst : Option Tmp} {af : Array Edge} {gd : Option (Tmp × Bool)} {g : Nat → Int} {q : Nat → Bool} (hx : ev x = .pointer (some ⟨w.heap.size, 0, none⟩)) :
    (execOp ev { dst := dst, op := .load 40 x, type := ty, pos := ps, after := af, guard := gd }).run Try.prog ((w.alloc (.cells (syA g q) 40)).drew) = .ok (.value (.agg (syA g q))) ((w.alloc (.cells (syA g q) 40)).drew) := exec_row (hbox1 _ _ _) hx
theorem exec_2av {w : World} {o : Obj} {ev : Operand → Value} {x : Operand} {ty : TypeId} {ps : String} {dst : Option Tmp} {af : Array Edge} {gd : Option (Tmp × Bool)} {g : Nat → Int} {q : Nat → Bool} (hx : ev x = .pointer (some ⟨w.heap.size, 0, none⟩)) :
    (execOp ev { dst := dst, op := .load 40 x, type := ty, pos := ps, after := af, guard := gd }).run Try.prog ((w.alloc (.cells (syA g q) 40)).alloc o) = .ok (.value (.agg (syA g q))) ((w.alloc (.cells (syA g q) 40)).alloc o) := exec_row (hbox2a _ _ _ _) hx
theorem exec_2avd {w : World} {o : Obj} {ev : Operand → Value} {x : Operand} {ty : TypeId} {ps : String} {dst : Option Tmp} {af : Array Edge} {gd : Option (Tmp × Bool)} {g : Nat → Int} {q : Nat → Bool} (hx : ev x = .pointer (some ⟨w.heap.size, 0, none⟩)) :
    (execOp ev { dst := dst, op := .load 40 x, type := ty, pos := ps, after := af, guard := gd }).run Try.prog (((w.alloc (.cells (syA g q) 40)).alloc o).drew) = .ok (.value (.agg (syA g q))) (((w.alloc (.cells (syA g q) 40)).alloc o).drew) := exec_row (hbox2a _ _ _ _) hx
theorem exec_2bv {w : World} {o : Obj} {ev : Operand → Value} {x : Operand} {ty : TypeId} {ps : String} {dst : Option Tmp} {af : Array Edge} {gd : Option (Tmp × Bool)} {g : Nat → Int} {q : Nat → Bool} (hx : ev x = .pointer (some ⟨w.heap.size + 1, 0, none⟩)) :
    (execOp ev { dst := dst, op := .load 40 x, type := ty, pos := ps, after := af, guard := gd }).run Try.prog ((w.alloc o).alloc (.cells (syA g q) 40)) = .ok (.value (.agg (syA g q))) ((w.alloc o).alloc (.cells (syA g q) 40)) := exec_row (hbox2b _ _ _ _) hx
theorem exec_2bvd {w : World} {o : Obj} {ev : Operand → Value} {x : Operand} {ty : TypeId} {ps : String} {dst : Option Tmp} {af : Array Edge} {gd : Option (Tmp × Bool)} {g : Nat → Int} {q : Nat → Bool} (hx : ev x = .pointer (some ⟨w.heap.size + 1, 0, none⟩)) :
    (execOp ev { dst := dst, op := .load 40 x, type := ty, pos := ps, after := af, guard := gd }).run Try.prog (((w.alloc o).alloc (.cells (syA g q) 40)).drew) = .ok (.value (.agg (syA g q))) (((w.alloc o).alloc (.cells (syA g q) 40)).drew) := exec_row (hbox2b _ _ _ _) hx
theorem exec_hv {W : World} {b : Nat} {ev : Operand → Value} {x : Operand} {ty : TypeId} {ps : String} {dst : Option Tmp} {af : Array Edge} {gd : Option (Tmp × Bool)} {g : Nat → Int} {q : Nat → Bool} (hb : (held W b (syA g q)).heap[b]? = some (.cells (syA g q) 40 (0, 0))) (hx : ev x = .pointer (some ⟨b, 0, none⟩)) :
    (execOp ev { dst := dst, op := .load 40 x, type := ty, pos := ps, after := af, guard := gd }).run Try.prog (held W b (syA g q)) = .ok (.value (.agg (syA g q))) (held W b (syA g q)) := exec_row hb hx
theorem exec_hvd {W : World} {b : Nat} {ev : Operand → Value} {x : Operand} {ty : TypeId} {ps : String} {dst : Option Tmp} {af : Array Edge} {gd : Option (Tmp × Bool)} {g : Nat → Int} {q : Nat → Bool} (hb : (held W b (syA g q)).heap[b]? = some (.cells (syA g q) 40 (0, 0))) (hx : ev x = .pointer (some ⟨b, 0, none⟩)) :
    (execOp ev { dst := dst, op := .load 40 x, type := ty, pos := ps, after := af, guard := gd }).run Try.prog ((held W b (syA g q)).drew) = .ok (.value (.agg (syA g q))) ((held W b (syA g q)).drew) := exec_row hb hx
theorem exec_iv {W : World} {b b' : Nat} {D : Array Value} {ev : Operand → Value} {x : Operand} {ty : TypeId} {ps : String} {dst : Option Tmp} {af : Array Edge} {gd : Option (Tmp × Bool)} {g : Nat → Int} {q : Nat → Bool} (hb : (held (held W b (syA g q)) b' D).heap[b]? = some (.cells (syA g q) 40 (0, 0))) (hx : ev x = .pointer (some ⟨b, 0, none⟩)) :
    (execOp ev { dst := dst, op := .load 40 x, type := ty, pos := ps, after := af, guard := gd }).run Try.prog (held (held W b (syA g q)) b' D) = .ok (.value (.agg (syA g q))) (held (held W b (syA g q)) b' D) := exec_row hb hx
theorem exec_ivd {W : World} {b b' : Nat} {D : Array Value} {ev : Operand → Value} {x : Operand} {ty : TypeId} {ps : String} {dst : Option Tmp} {af : Array Edge} {gd : Option (Tmp × Bool)} {g : Nat → Int} {q : Nat → Bool} (hb : (held (held W b (syA g q)) b' D).heap[b]? = some (.cells (syA g q) 40 (0, 0))) (hx : ev x = .pointer (some ⟨b, 0, none⟩)) :
    (execOp ev { dst := dst, op := .load 40 x, type := ty, pos := ps, after := af, guard := gd }).run Try.prog ((held (held W b (syA g q)) b' D).drew) = .ok (.value (.agg (syA g q))) ((held (held W b (syA g q)) b' D).drew) := exec_row hb hx



end Go.Proofs.Ytcmanaklojomeaa
