/- A law's own variables: what each holds, exactly. No condition. -/
import Derived.Test.YtcmanaklojomeaaRs
namespace Go.Proofs.Ytcmanaklojomeaa
open Go.RowKit Go.Deep
set_option linter.unusedVariables false
theorem one2 (a b : Int) : (#[Value.int .i64 a, Value.int .i64 b]).all (·.oneCell') = true := by simp [Value.oneCell']
theorem one4 (a b c d : Int) : (#[Value.int .i64 a, Value.int .i64 b, Value.int .i64 c, Value.int .i64 d]).all (·.oneCell') = true := by simp [Value.oneCell']
abbrev Exs := List (Nat × TypeId × Array Value)
structure Lw (w : World) (L : Exs) (W : World) : Prop where
  bel : Below w.heap.size w W
  nd : (L.map (·.1)).Nodup
  box : ∀ x ∈ L, w.heap.size ≤ x.1 ∧ W.heap[x.1]? = some (.cells x.2.2 x.2.1 (0, 0))
section
variable {w W W' : World} {L : Exs} {b : Nat} {T : TypeId} {C D : Array Value}
theorem Lw.start {w W : World} (h : Below w.heap.size w W) : Lw w [] W := ⟨h, List.nodup_nil, fun _ hx => by cases hx⟩
theorem Lw.called (h : Lw w L W) (hb : Below W.heap.size W W') : Lw w L W' :=
  ⟨bel_call h.bel hb, h.nd, fun x hx => ⟨(h.box x hx).1, (hb.block _ (Array.getElem?_eq_some_iff.1 (h.box x hx).2).1).trans (h.box x hx).2⟩⟩
theorem Lw.alloc (h : Lw w L W) (o : Obj) : Lw w L (W.alloc o) := h.called (bel_alloc (Below.refl _ _) _)
theorem Lw.drew (h : Lw w L W) : Lw w L W.drew := h.called ((Below.refl _ _).drew)
theorem Lw.drewN (h : Lw w L W) (n : Nat) : Lw w L (W.drewN n) := h.called (bel_drewN (Below.refl _ _) _)
theorem Lw.new (h : Lw w L W) : Lw w ((W.heap.size, T, C) :: L) (W.alloc (.cells C T)) := by
  refine ⟨bel_alloc h.bel _, ?_, fun x hx => ?_⟩
  · rw [List.map_cons, List.nodup_cons]
    refine ⟨fun hm => ?_, h.nd⟩
    obtain ⟨x, hx, e⟩ := List.mem_map.1 hm
    have := (Array.getElem?_eq_some_iff.1 (h.box x hx).2).1
    simp at e
    omega
  · rcases List.mem_cons.1 hx with rfl | hx
    · exact ⟨h.bel.size, heap_alloc_new _ _⟩
    · exact (h.alloc _).box x hx
theorem Lw.put (h : Lw w ((b, T, C) :: L) W) (hW : W.grownBy W' (some b)) (hb : W'.heap[b]? = some (.cells D T (0, 0))) : Lw w ((b, T, D) :: L) W' := by
  have h0 := (h.box (b, T, C) List.mem_cons_self).1
  refine ⟨?_, h.nd, fun x hx => ?_⟩
  · exact h.bel.grown hW h.bel.size (fun k hk => by injection hk with hk; rw [← hk]; exact h0)
  · rcases List.mem_cons.1 hx with rfl | hx
    · exact ⟨h0, hb⟩
    · obtain ⟨h1, h2⟩ := h.box x (List.mem_cons_of_mem _ hx)
      refine ⟨h1, (hW.block x.1 (Array.getElem?_eq_some_iff.1 h2).1 ?_).trans h2⟩
      have := h.nd
      rw [List.map_cons, List.nodup_cons] at this
      intro e
      injection e with e
      exact this.1 (List.mem_map.2 ⟨x, hx, e⟩)
theorem Lw.blk (h : Lw w L W) (hm : (b, T, C) ∈ L) : W.heap[b]? = some (.cells C T (0, 0)) := (h.box _ hm).2
theorem Lw.cell (h : Lw w L W) (hm : (b, T, C) ∈ L) (i : Nat) : W.cell? ⟨b, i, none⟩ = C[i]? := by
  rw [Joins.cell_of_block (h.blk hm)]
theorem Lw.there (h : Lw w L W) (hm : (b, T, C) ∈ L) (o n : Nat) (hn : o + n ≤ C.size) : W.there b o n := fun j hj => by
  refine ⟨?_, Joins.unfrozen_of_block (h.blk hm) _⟩
  rw [h.cell hm]
  have : o + j < C.size := by omega
  simp [this]
theorem Lw.swap {x y : Nat × TypeId × Array Value} (h : Lw w (x :: y :: L) W) : Lw w (y :: x :: L) W :=
  ⟨h.bel, by have := h.nd; simp only [List.map_cons, List.nodup_cons, List.mem_cons, not_or] at this ⊢; exact ⟨⟨Ne.symm this.1.1, this.2.1⟩, this.1.2, this.2.2⟩, fun z hz => h.box z (by simp only [List.mem_cons] at hz ⊢; rcases hz with h | h | h; exact Or.inr (Or.inl h); exact Or.inl h; exact Or.inr (Or.inr h))⟩
/-- What a struct reads as behind a store of a part. -/
theorem block_setCells {W : World} {b : Nat} {T : TypeId} : ∀ (l : List Value) (o : Nat) (C : Array Value), o + l.length ≤ C.size → W.heap[b]? = some (.cells C T (0, 0)) →
    (W.setCells b o l).heap[b]? = some (.cells (C.toList.take o ++ l ++ C.toList.drop (o + l.length)).toArray T (0, 0))
  | [], o, C, _, h => by simp [World.setCells, h]
  | v :: r, o, C, ho, h => by
    simp only [List.length_cons] at ho
    have hb : (W.setCell ⟨b, o, none⟩ v).heap[b]? = some (.cells (C.setIfInBounds o v) T (0, 0)) := Joins.block_setCell h _
    have := block_setCells (W := W.setCell ⟨b, o, none⟩ v) r (o + 1) (C.setIfInBounds o v) (by simp; omega) hb
    refine this.trans ?_
    have hl : o < C.toList.length := by simp; omega
    have e1 : (C.setIfInBounds o v).toList.take (o + 1) = C.toList.take o ++ [v] := by
      rw [Array.toList_setIfInBounds, List.take_succ_eq_append_getElem (by simpa using hl)]
      simp [List.take_set_of_le]
    have e2 : (C.setIfInBounds o v).toList.drop (o + 1 + r.length) = C.toList.drop (o + (r.length + 1)) := by
      rw [Array.toList_setIfInBounds, List.drop_set_of_lt (by omega), show o + 1 + r.length = o + (r.length + 1) by omega]
    rw [e1, e2]
    simp
variable {ops : Array Oper} {rest : List Oper} {o : Oper} {a : Act} {Q : Exit → Act → World → Prop}
theorem Lw.wp_alloc (h : Lw w L W) (hgd : o.guard = none) (ty : TypeId) (ho : o.op = .alloc ty) (z : Value) (hz : (Try.prog.info? ty).bind (·.zero) = some z)
    (hK : ∀ b W', Lw w ((b, ty, z.cells) :: L) W' → wpList Try.prog ops Q rest (a.put o.dst (.pointer (some ⟨b, 0, none⟩))) W') : wpList Try.prog ops Q (o :: rest) a W :=
  wpList_plain hgd fun _ hC => by
    unfold Oper.wp execOp
    simp only [ho, Sem.run_bind, run_alloc1 W ty z hz, Result.andThen_ok, Sem.run_pure]
    exact hC _ _ (hK _ _ h.new)
/-- A whole struct is stored into the variable laid last. -/
theorem Lw.wp_put (h : Lw w ((b, T, C) :: L) W) (hgd : o.guard = none) (ty : TypeId) (x y : Operand) (ho : o.op = .store ty x y) (D : Array Value) (hx : a.eval x = .pointer (some ⟨b, 0, none⟩)) (hy : a.eval y = .agg D)
    (hs : C.size = D.size) (h1 : D.all (·.oneCell') = true) (hi : (Try.prog.info? ty).map (·.size) = some D.size)
    (hK : ∀ W', Lw w ((b, T, D) :: L) W' → wpList Try.prog ops Q rest (a.put o.dst undef) W') : wpList Try.prog ops Q (o :: rest) a W :=
  wpList_plain hgd fun _ hC => by
    unfold Oper.wp execOp
    simp only [ho, hx, hy, Instr.storeAt, Instr.sureAddr, Sem.run_bind, Sem.run_pure, Result.andThen_ok, run_storeVar_mid W b 0 ty D (h.there List.mem_cons_self 0 D.size (by omega)) hi h1]
    refine hC _ _ (hK _ (h.put (grown_setCells _ _ (grown_refl _ _)) ?_))
    have := block_setCells D.toList 0 C (by simp; omega) (h.blk List.mem_cons_self)
    have e : C.toList.drop D.size = [] := List.drop_eq_nil_of_le (by simp; omega)
    simpa [e] using this
/-- A part is stored: what the struct reads as behind it is said by the caller. -/
theorem Lw.wp_part (h : Lw w ((b, T, C) :: L) W) (hgd : o.guard = none) (ty : TypeId) (x y : Operand) (ho : o.op = .store ty x y) (i : Nat) (D : Array Value) (hx : a.eval x = .pointer (some ⟨b, i, none⟩)) (hy : a.eval y = .agg D) (E : Array Value)
    (hE : (C.toList.take i ++ D.toList ++ C.toList.drop (i + D.size)).toArray = E)
    (hs : i + D.size ≤ C.size) (h1 : D.all (·.oneCell') = true) (hi : (Try.prog.info? ty).map (·.size) = some D.size)
    (hK : ∀ W', Lw w ((b, T, E) :: L) W' → wpList Try.prog ops Q rest (a.put o.dst undef) W') : wpList Try.prog ops Q (o :: rest) a W :=
  wpList_plain hgd fun _ hC => by
    unfold Oper.wp execOp
    simp only [ho, hx, hy, Instr.storeAt, Instr.sureAddr, Sem.run_bind, Sem.run_pure, Result.andThen_ok, run_storeVar_mid W b i ty D (h.there List.mem_cons_self i D.size hs) hi h1]
    refine hC _ _ (hK _ (h.put (grown_setCells _ _ (grown_refl _ _)) ?_))
    have := block_setCells D.toList i C (by simpa using hs) (h.blk List.mem_cons_self)
    rw [← hE]
    simpa using this
/-- An integer is stored. -/
theorem Lw.wp_one (h : Lw w ((b, T, C) :: L) W) (hgd : o.guard = none) (ty : TypeId) (x y : Operand) (ho : o.op = .store ty x y) (i : Nat) (n : Int) (hx : a.eval x = .pointer (some ⟨b, i, none⟩)) (hy : a.eval y = .int .i64 n) (E : Array Value)
    (hE : C.setIfInBounds i (.int .i64 n) = E) (hs : i < C.size) (hi : (Try.prog.info? ty).map (·.size) = some 1)
    (hK : ∀ W', Lw w ((b, T, E) :: L) W' → wpList Try.prog ops Q rest (a.put o.dst undef) W') : wpList Try.prog ops Q (o :: rest) a W :=
  wpList_plain hgd fun _ hC => by
    unfold Oper.wp execOp
    have ht := h.there List.mem_cons_self i 1 (by omega) 0 (by decide)
    simp only [ho, hx, hy, Instr.storeAt, Instr.sureAddr, Sem.run_bind, Sem.run_pure, Result.andThen_ok, run_store1 W b i ty (.int .i64 n) rfl ht hi]
    refine hC _ _ (hK _ (h.put (grown_set (grown_refl _ _) _ _) ?_))
    rw [← hE]
    exact Joins.block_setCell (h.blk List.mem_cons_self) _
/-- A whole variable is loaded. -/
theorem Lw.wp_load (h : Lw w L W) (hgd : o.guard = none) (ty : TypeId) (x : Operand) (ho : o.op = .load ty x) (b : Nat) (hx : a.eval x = .pointer (some ⟨b, 0, none⟩))
    (T : TypeId) (C : Array Value) (hm : (b, T, C) ∈ L) (d : TypeDesc) (hu : Try.prog.underlying ty = some d) (hd : d.isRow = true) (hi : (Try.prog.info? ty).map (·.size) = some C.size)
    (hK : wpList Try.prog ops Q rest (a.put o.dst (.agg C)) W) : wpList Try.prog ops Q (o :: rest) a W := by
  refine wpList_load_mid hgd ty x ho b 0 hx C.toList d ?_ hu hd (by rw [hi, Array.length_toList]) (by simpa using hK)
  intro j v hj
  rw [Nat.zero_add, h.cell hm]
  simpa using hj
end
end Go.Proofs.Ytcmanaklojomeaa
