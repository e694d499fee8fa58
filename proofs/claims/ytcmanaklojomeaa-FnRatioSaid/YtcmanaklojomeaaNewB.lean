/- A whole struct stored into a variable that has just been made. No condition. -/
import Derived.Test.YtcmanaklojomeaaConv
namespace Go.Proofs.Ytcmanaklojomeaa
open Go.RowKit
set_option linter.unusedVariables false
theorem setCells_new (w : World) (T : TypeId) : ∀ (l : List Value) (o : Nat) (Z : Array Value), Z.size = o + l.length →
    (w.alloc (.cells Z T)).setCells w.heap.size o l = w.alloc (.cells ((Z.toList.take o ++ l).toArray) T)
  | [], o, Z, h => by
    have : Z.toList.take o = Z.toList := List.take_of_length_le (by simp at h ⊢; omega)
    simp [World.setCells, this]
  | v :: r, o, Z, h => by
    have hs : (Z.setIfInBounds o v).size = (o + 1) + r.length := by simp at h ⊢; omega
    have ih := setCells_new w T r (o + 1) (Z.setIfInBounds o v) hs
    have h1 : (w.alloc (.cells Z T)).setCell ⟨w.heap.size, o, none⟩ v = w.alloc (.cells (Z.setIfInBounds o v) T) := by
      rw [World.setCell_alloc_at _ _ _ _ _ rfl]
    show ((w.alloc (.cells Z T)).setCell ⟨w.heap.size, o, none⟩ v).setCells w.heap.size (o + 1) r = _
    rw [h1, ih]
    congr 2
    have ho : o < Z.toList.length := by simp at h ⊢; omega
    rw [Array.toList_setIfInBounds, List.take_succ_eq_append_getElem (by simpa using ho)]
    simp [List.take_set_of_le]
theorem wpList_store_new {P : Program} {ops : Array Oper} {rest : List Oper} {op : Oper} {a : Act} {w : World} {Q : Exit → Act → World → Prop} {Z : Array Value} {T : TypeId} (hgd : op.guard = none) (ty : TypeId) (x y : Operand) (ho : op.op = .store ty x y)
    (C : Array Value) (hx : a.eval x = .pointer (some ⟨w.heap.size, 0, none⟩)) (hy : a.eval y = .agg C) (hi : (P.info? ty).map (·.size) = some C.size) (h1 : C.all (·.oneCell') = true) (hs : Z.size = C.size)
    (h : wpList P ops Q rest (a.put op.dst undef) (w.alloc (.cells C T))) : wpList P ops Q (op :: rest) a (w.alloc (.cells Z T)) := by
  refine wpList_store_mid hgd ty x y ho w.heap.size 0 C hx hy ?_ hi h1 ?_
  · intro j hj
    refine ⟨?_, Joins.unfrozen_of_block (hbox1 _ _ _) _⟩
    rw [Joins.cell_of_block (hbox1 _ _ _)]
    simp [hs, hj]
  · rw [setCells_new w T C.toList 0 Z (by simp [hs])]
    simpa using h
end Go.Proofs.Ytcmanaklojomeaa
