/- Slices of integers that a call builds by append. No condition. -/
import Derived.Test.YtcmanaklojomeaaToInts
import Derived.OwnWalk
import Derived.Deep.AppendLies
namespace Go.Proofs.Ytcmanaklojomeaa
open Go.RowKit Go.Deep
set_option linter.unusedVariables false
theorem w64_in (x : Int) : In64 (wrap64 x) := in64_of_wf (wrap64_wf x)
/-- v is a slice of the call's own that holds l. -/
structure Ow (w W : World) (v : Value) (l : List Int) : Prop where
  bel : Below w.heap.size w W
  own : W.ownsRow w.heap.size 3 1 v l.length (l.map (Value.int .i64))
def Gives (l : List Int) (w : World) (e : Ending) (w' : World) : Prop := ∃ v, e = .returned v ∧ Ow w w' v l
theorem Ow.nil (w : World) : Ow w w (.slice none 0 0) [] := ⟨Below.refl _ _, World.ownsRow_nil _ _ _ _⟩
theorem Ow.nilB {w W : World} (h : Below w.heap.size w W) : Ow w W (.slice none 0 0) [] := ⟨h, World.ownsRow_nil _ _ _ _⟩
theorem Ow.made {w W : World} (h : Below w.heap.size w W) : Ow w (W.alloc (.cells #[] 3)) (.slice (some ⟨W.heap.size, 0, none⟩) 0 0) [] :=
  ⟨bel_alloc h _, World.ownsRow_made W #[] 0 h.size (by unfold maxLen; omega) rfl⟩
theorem Ow.drewN {w W : World} {v : Value} {l : List Int} (h : Ow w W v l) (n : Nat) : Ow w (W.drewN n) v l := ⟨bel_drewN h.bel n, h.own⟩
theorem Ow.rd {w W : World} {v : Value} {l : List Int} (h : Ow w W v l) : ∃ a cap, v = .slice a l.length cap ∧ Rd W a l := by
  rcases h.own.2 with ⟨hv, h0⟩ | ⟨g, cap, cur, hv, _, hg, _⟩
  · exact ⟨none, 0, by rw [hv, h0], Or.inr h0⟩
  · refine ⟨_, cap, hv, Or.inl ⟨g, 0, rfl, fun i hi => ?_⟩⟩
    have := h.own.cells (g := g) (by rw [hv]; rfl) i (.int .i64 (nth l i)) (by simp [hi, nth, List.getD_eq_getElem?_getD])
    rwa [Addr.add_lit] at this
theorem Ow.done {w W : World} {v : Value} {l : List Int} (h : Ow w W v l) : Gives l w (.returned v) W := ⟨v, rfl, h⟩
/-- What an append leaves. -/
theorem Ow.step {w W w1 : World} {v v' : Value} {l : List Int} {z : Int} {o : Obj} (h : Ow w W v l) (h1 : w1.ownsRow w.heap.size 3 1 v' (l.length + 1) (l.map (Value.int .i64) ++ [.int .i64 z])) (hg : (W.alloc o).grownBy w1 v.ownBlock) : Ow w w1 v' (l ++ [z]) :=
  ⟨(bel_alloc h.bel o).grown hg (by have := h.bel.size; simp; omega) (fun k hk => (h.own.lt k hk).1), by simpa using h1⟩
/-- append of one integer, at a plain region's list. -/
theorem wpList_app {w W : World} {v : Value} {l : List Int} (h : Ow w W v l) {ops : Array Oper} {rest : List Oper} {o : Oper} {a : Act} {Q : Exit → Act → World → Prop} (hgd : o.guard = none) (s x : Operand)
    (ho : o.op = .call { callee := .builtin .append, args := #[s, x], argTypes := #[24, 24] }) (z : Int) (hs : a.eval s = v) (hx : a.eval x = .slice (some ⟨W.heap.size, 0, none⟩) 1 1) (hl : l.length ≤ 1048576)
    (hK : ∀ v' w1, Ow w w1 v' (l ++ [z]) → wpList Try.prog ops Q rest (a.put o.dst v') w1) : wpList Try.prog ops Q (o :: rest) a (W.alloc (.cells #[.int .i64 z] 3)) := by
  obtain ⟨i0, hi, hz0, hz1, hz2⟩ := info_parts infoInt
  refine wpList_append_own _ hgd s x 24 ho w.heap.size 3 i0 (.int .i64 0) 1 8 Try.underlying24 hi hz0 hz1 hz2 rfl (by decide) v l.length _ hs (h.own.alloc _) ⟨W.heap.size, 0, none⟩ 1 1 [.int .i64 z] hx rfl (World.news_of_block (heap_alloc_new W _)) ?_ ?_ ?_ ?_ ?_
  · intro u hu; simp at hu; subst hu; rfl
  · unfold maxLen; omega
  · omega
  · have := h.bel.size; simp; omega
  · intro v' w1 hown hgrow _
    exact hK v' w1 (h.step hown hgrow)
/-- .. and at a step of a region that draws. -/
theorem step_app {w W : World} {v : Value} {l : List Int} (h : Ow w W v l) {ops : Array Oper} {o : Oper} {a : Act} {K : Act → World → Prop} {Q : Exit → Act → World → Prop} {E : Prop} (hgd : o.guard = none) (s x : Operand)
    (ho : o.op = .call { callee := .builtin .append, args := #[s, x], argTypes := #[24, 24] }) (z : Int) (hs : a.eval s = v) (hx : a.eval x = .slice (some ⟨W.heap.size, 0, none⟩) 1 1) (hl : l.length ≤ 1048576)
    (hK : ∀ v' w1, Ow w w1 v' (l ++ [z]) → K (a.put o.dst v') w1) : if Region.wanted o (yielded ops a.tmps) = true then Oper.wp Try.prog o a (W.alloc (.cells #[.int .i64 z] 3)) K Q else E := by
  obtain ⟨i0, hi, hz0, hz1, hz2⟩ := info_parts infoInt
  have hw : Region.wanted o (yielded ops a.tmps) = true := by simp [Region.wanted, hgd]
  rw [if_pos hw]
  refine wp_append_own _ s x 24 ho w.heap.size 3 i0 (.int .i64 0) 1 8 Try.underlying24 hi hz0 hz1 hz2 rfl (by decide) v l.length _ hs (h.own.alloc _) ⟨W.heap.size, 0, none⟩ 1 1 [.int .i64 z] hx rfl (World.news_of_block (heap_alloc_new W _)) ?_ ?_ ?_ ?_ ?_
  · intro u hu; simp at hu; subst hu; rfl
  · unfold maxLen; omega
  · omega
  · have := h.bel.size; simp; omega
  · intro v' w1 hown hgrow _
    exact hK v' w1 (h.step hown hgrow)
end Go.Proofs.Ytcmanaklojomeaa
