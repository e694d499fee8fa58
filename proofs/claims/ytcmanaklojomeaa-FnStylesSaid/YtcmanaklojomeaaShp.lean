/- A struct in a variable of the call's own while it is drawn: its cells keep their kinds. No condition. -/
import Derived.Test.YtcmanaklojomeaaDraw
import Derived.Test.YtcmanaklojomeaaConv
namespace Go.Proofs.Ytcmanaklojomeaa
open Go.RowKit Go.Deep
set_option linter.unusedVariables false
/-- The cells of a struct of integers (true) and bools (false). -/
def Shp (ks : List Bool) (C : Array Value) : Prop := C.size = ks.length ∧ ∀ (i : Nat), i < ks.length → (ks[i]? = some true ∧ ∃ n, In64 n ∧ C[i]? = some (.int .i64 n)) ∨ (ks[i]? = some false ∧ ∃ x, C[i]? = some (.bool x))
theorem Shp.get {ks : List Bool} {C : Array Value} (h : Shp ks C) (i : Nat) (hk : ks[i]? = some true) : ∃ n, In64 n ∧ C[i]? = some (.int .i64 n) := by
  obtain ⟨hi, _⟩ := List.getElem?_eq_some_iff.1 hk
  rcases h.2 i hi with ⟨_, h⟩ | ⟨h, _⟩
  · exact h
  · rw [hk] at h; cases h
theorem Shp.getB {ks : List Bool} {C : Array Value} (h : Shp ks C) (i : Nat) (hk : ks[i]? = some false) : ∃ x, C[i]? = some (.bool x) := by
  obtain ⟨hi, _⟩ := List.getElem?_eq_some_iff.1 hk
  rcases h.2 i hi with ⟨h, _⟩ | ⟨_, h⟩
  · rw [hk] at h; cases h
  · exact h
theorem Shp.set {ks : List Bool} {C : Array Value} (h : Shp ks C) (i : Nat) (n : Int) (hn : In64 n) (hk : ks[i]? = some true) : Shp ks (C.setIfInBounds i (.int .i64 n)) := by
  refine ⟨by simpa using h.1, fun j hj => ?_⟩
  rw [Array.getElem?_setIfInBounds]
  by_cases e : i = j
  · subst e
    left
    rw [if_pos rfl, if_pos (by rw [h.1]; exact hj)]
    exact ⟨hk, n, hn, rfl⟩
  · rw [if_neg e]; exact h.2 j hj
theorem Shp.setB {ks : List Bool} {C : Array Value} (h : Shp ks C) (i : Nat) (x : Bool) (hk : ks[i]? = some false) : Shp ks (C.setIfInBounds i (.bool x)) := by
  refine ⟨by simpa using h.1, fun j hj => ?_⟩
  rw [Array.getElem?_setIfInBounds]
  by_cases e : i = j
  · subst e
    right
    rw [if_pos rfl, if_pos (by rw [h.1]; exact hj)]
    exact ⟨hk, x, rfl⟩
  · rw [if_neg e]; exact h.2 j hj
/-- A struct of a part's kinds is laid over a part. -/
theorem Shp.lay {ks : List Bool} : ∀ (l : List Value) (kl : List Bool) (C : Array Value) (o : Nat), Shp ks C → Shp kl l.toArray → (∀ j, j < kl.length → ks[o + j]? = kl[j]?) →
    ∃ D, Shp ks D ∧ ∀ (W : World) (b : Nat) (T : TypeId), W.heap[b]? = some (.cells C T (0, 0)) → (W.setCells b o l).heap[b]? = some (.cells D T (0, 0))
  | [], kl, C, o, h, _, _ => ⟨C, h, fun W b T hb => hb⟩
  | v :: r, kl, C, o, h, hl, hk => by
    have hlen : kl.length = r.length + 1 := by have := hl.1; simp at this; omega
    obtain ⟨k0, kr, rfl⟩ : ∃ k0 kr, kl = k0 :: kr := by
      cases kl with
      | nil => simp at hlen
      | cons a b => exact ⟨a, b, rfl⟩
    have hr : Shp kr r.toArray := by
      refine ⟨by simp at hlen ⊢; omega, fun i hi => ?_⟩
      have := hl.2 (i + 1) (by simp; omega)
      simpa using this
    have hk' : ∀ j, j < kr.length → ks[o + 1 + j]? = kr[j]? := fun j hj => by
      have := hk (j + 1) (by simp; omega)
      rw [show o + 1 + j = o + (j + 1) by omega, this]; simp
    have h0 := hk 0 (by simp)
    simp only [Nat.add_zero, List.getElem?_cons_zero] at h0
    have hC : Shp ks (C.setIfInBounds o v) := by
      rcases hl.2 0 (by simp) with ⟨e, n, hn, hv⟩ | ⟨e, x, hv⟩
      · simp at e hv; subst e hv; exact h.set o n hn h0
      · simp at e hv; subst e hv; exact h.setB o x h0
    obtain ⟨D, hD, hW⟩ := Shp.lay r kr (C.setIfInBounds o v) (o + 1) hC hr hk'
    exact ⟨D, hD, fun W b T hb => hW _ b T (Joins.block_setCell hb _)⟩
theorem Shp.open {ks : List Bool} {C : Array Value} (h : Shp ks C) : ∃ g q, C = ⟨leafV g q ks 0⟩ ∧ ∀ i, In64 (g i) := by
  refine ⟨fun i => match C[i]? with | some (Value.int _ n) => n | _ => 0, fun i => match C[i]? with | some (Value.bool b) => b | _ => false, ?_, ?_⟩
  · apply Array.ext_getElem?
    intro i
    by_cases hi : i < ks.length
    · rcases h.2 i hi with ⟨hk, n, hn, hc⟩ | ⟨hk, x, hc⟩
      · have := leafV_get (fun i => match C[i]? with | some (Value.int _ n) => n | _ => 0) (fun i => match C[i]? with | some (Value.bool b) => b | _ => false) ks 0 i true hk
        refine hc.trans (Eq.trans ?_ (List.getElem?_toArray ..).symm)
        rw [this]; simp [hc]
      · have := leafV_get (fun i => match C[i]? with | some (Value.int _ n) => n | _ => 0) (fun i => match C[i]? with | some (Value.bool b) => b | _ => false) ks 0 i false hk
        refine hc.trans (Eq.trans ?_ (List.getElem?_toArray ..).symm)
        rw [this]; simp [hc]
    · rw [Array.getElem?_eq_none (by rw [h.1]; omega)]
      exact (Array.getElem?_eq_none (by simp [leafV_length]; omega)).symm
  · intro i
    dsimp only
    by_cases hi : i < ks.length
    · rcases h.2 i hi with ⟨hk, n, hn, hc⟩ | ⟨hk, x, hc⟩
      · rw [hc]; exact hn
      · rw [hc]; exact ⟨by simp, by simp⟩
    · rw [Array.getElem?_eq_none (by rw [h.1]; omega)]; exact ⟨by decide, by decide⟩
theorem Shp.of {ks : List Bool} {g : Nat → Int} {q : Nat → Bool} (hg : ∀ i, In64 (g i)) : Shp ks ⟨leafV g q ks 0⟩ := by
  refine ⟨by simp [leafV_length], fun i hi => ?_⟩
  cases hb : ks[i]? with
  | none => rw [List.getElem?_eq_none_iff] at hb; omega
  | some b =>
    have := (List.getElem?_toArray (xs := leafV g q ks 0) (i := i)).trans (leafV_get g q ks 0 i b hb)
    cases b
    · right; exact ⟨rfl, q (0 + i), this⟩
    · left; exact ⟨rfl, g (0 + i), hg _, this⟩
theorem Shp.one {ks : List Bool} {C : Array Value} (h : Shp ks C) : C.all (·.oneCell') = true := by
  rw [Array.all_eq_true]
  intro i hi
  rcases h.2 i (by rw [← h.1]; exact hi) with ⟨_, n, _, hc⟩ | ⟨_, x, hc⟩
  · rw [Array.getElem?_eq_getElem hi] at hc; rw [Option.some.inj hc]; rfl
  · rw [Array.getElem?_eq_getElem hi] at hc; rw [Option.some.inj hc]; rfl
theorem Shp.same {ks kt : List Bool} {C : Array Value} (h : Shp ks C) (k : Shp kt C) : kt = ks := by
  have hl : kt.length = ks.length := k.1.symm.trans h.1
  apply List.ext_getElem? 
  intro i
  by_cases hi : i < ks.length
  · rcases h.2 i hi with ⟨e, n, _, hc⟩ | ⟨e, x, hc⟩
    · rcases k.2 i (by omega) with ⟨e', _⟩ | ⟨_, x, hc'⟩
      · rw [e, e']
      · rw [hc] at hc'; cases hc'
    · rcases k.2 i (by omega) with ⟨_, n, _, hc'⟩ | ⟨e', _⟩
      · rw [hc] at hc'; cases hc'
      · rw [e, e']
  · rw [List.getElem?_eq_none (by omega), List.getElem?_eq_none (by omega)]
/-- Integers in a row, and nothing else. -/
def allIn (C : Array Value) : Prop := ∀ i, i < C.size → ∃ n, In64 n ∧ C[i]? = some (.int .i64 n)
theorem grown_setCells {b : Nat} : ∀ (l : List Value) (o : Nat) {w W : World}, w.grownBy W (some b) → w.grownBy (W.setCells b o l) (some b)
  | [], _, _, _, h => h
  | v :: r, o, _, _, h => grown_setCells r (o + 1) (grown_set h o v)
abbrev Bxs := List (Nat × TypeId × List Bool)
/-- The cursor stands, and variables of the call's own beside it. -/
structure St (K : Cx) (W0 : World) (L : Bxs) (W : World) : Prop where
  grw : Grw K W0 W
  low : K.w.heap.size ≤ W0.heap.size
  box : ∀ x ∈ L, W0.heap.size ≤ x.1 ∧ x.2.1 ≠ 89 ∧ ∃ C, W.heap[x.1]? = some (.cells C x.2.1 (0, 0)) ∧ Shp x.2.2 C
section
variable {K : Cx} {W0 W W' : World} {L : Bxs} {b : Nat} {T : TypeId} {ks kl : List Bool}
theorem St.start (h : Drw K W) : St K W [] W := ⟨h.self, h.bel.size, fun _ hx => by cases hx⟩
theorem St.cur (h : St K W0 L W) : Drw K W := h.grw.cur
theorem St.next (h : St K W0 L W) (g : Grw K W W') : St K W0 L W' :=
  ⟨h.grw.trans g, h.low, fun x hx => by
    obtain ⟨h1, h2, C, hb, hs⟩ := h.box x hx
    exact ⟨h1, h2, C, grown_on g.grow hb (h.cur.ne hb h2), hs⟩⟩
theorem St.alloc (h : St K W0 L W) (o : Obj) : St K W0 L (W.alloc o) := h.next (Grw.alloc h.cur.self o)
theorem St.drew (h : St K W0 L W) : St K W0 L W.drew := h.next (Grw.drew h.cur.self)
theorem St.drewN (h : St K W0 L W) (n : Nat) : St K W0 L (W.drewN n) := h.next (Grw.drewN h.cur.self n)
theorem St.called (h : St K W0 L W) (hb : Below W.heap.size W W') : St K W0 L W' := h.next (Grw.below h.cur.self hb)
theorem St.new (h : St K W0 L W) (hne : T ≠ 89) {C : Array Value} (hC : Shp ks C) : St K W0 ((W.heap.size, T, ks) :: L) (W.alloc (.cells C T)) :=
  ⟨h.grw.alloc _, h.low, fun x hx => by
    rcases List.mem_cons.1 hx with rfl | hx
    · exact ⟨h.grw.grow.size, hne, C, heap_alloc_new _ _, hC⟩
    · exact (h.alloc _).box x hx⟩
theorem St.blk (h : St K W0 L W) (hm : (b, T, ks) ∈ L) : ∃ C, W.heap[b]? = some (.cells C T (0, 0)) ∧ Shp ks C := (h.box _ hm).2.2
theorem St.stored (h : St K W0 L W) (hm : (b, T, ks) ∈ L) (hW : W.grownBy W' (some b)) (hC : ∀ C, W.heap[b]? = some (.cells C T (0, 0)) → Shp ks C → ∃ D, W'.heap[b]? = some (.cells D T (0, 0)) ∧ Shp ks D) : St K W0 L W' := by
  obtain ⟨hge, hne, C, hb, hs⟩ := h.box _ hm
  have hcn : b ≠ K.c := h.cur.ne hb hne
  refine ⟨⟨h.cur.other hW (Nat.le_trans h.low hge) hcn, ?_⟩, h.low, fun x hx => ?_⟩
  · exact ⟨hW.os.trans h.grw.grow.os, hW.tape.trans h.grw.grow.tape, hW.output.trans h.grw.grow.output, Nat.le_trans h.grw.grow.size hW.size, fun i hi hr => (hW.block i (Nat.lt_of_lt_of_le hi h.grw.grow.size) (fun e => by injection e with e; simp at hge; omega)).trans (h.grw.grow.block i hi hr)⟩
  · obtain ⟨h1, h2, D, hD, hsD⟩ := h.box x hx
    by_cases e : x.1 = b
    · obtain ⟨E, hE, hsE⟩ := hC C hb hs
      have hCD := hD
      rw [e, show W.heap[b]? = some (.cells C T (0, 0)) from hb] at hCD
      injection hCD with hCD
      injection hCD with e1 e2 _
      subst e1
      exact ⟨h1, h2, E, by rw [e, ← e2]; exact hE, by rw [Shp.same hs hsD]; exact hsE⟩
    · exact ⟨h1, h2, D, (hW.block x.1 (Array.getElem?_eq_some_iff.1 hD).1 (by simpa using e)).trans hD, hsD⟩
theorem St.set (h : St K W0 L W) (hm : (b, T, ks) ∈ L) (i : Nat) (n : Int) (hn : In64 n) (hk : ks[i]? = some true) : St K W0 L (W.setCell ⟨b, i, none⟩ (.int .i64 n)) :=
  h.stored hm (grown_set (grown_refl _ _) _ _) fun C hb hs => ⟨_, Joins.block_setCell hb _, hs.set i n hn hk⟩
theorem St.setB (h : St K W0 L W) (hm : (b, T, ks) ∈ L) (i : Nat) (x : Bool) (hk : ks[i]? = some false) : St K W0 L (W.setCell ⟨b, i, none⟩ (.bool x)) :=
  h.stored hm (grown_set (grown_refl _ _) _ _) fun C hb hs => ⟨_, Joins.block_setCell hb _, hs.setB i x hk⟩
theorem St.lay (h : St K W0 L W) (hm : (b, T, ks) ∈ L) (o : Nat) {D : Array Value} (hD : Shp kl D) (hk : ∀ j, j < kl.length → ks[o + j]? = kl[j]?) : St K W0 L (W.setCells b o D.toList) :=
  h.stored hm (grown_setCells _ _ (grown_refl _ _)) fun C hb hs => by
    obtain ⟨E, hE, hW⟩ := Shp.lay D.toList kl C o hs (by simpa using hD) hk
    exact ⟨E, hW W b T hb, hE⟩
theorem St.at (h : St K W0 L W) (hm : (b, T, ks) ∈ L) (i : Nat) (hi : i < ks.length) : (W.cell? ⟨b, i, none⟩).isSome = true ∧ W.frozen? ⟨b, i, none⟩ = false := by
  obtain ⟨C, hb, hs⟩ := h.blk hm
  refine ⟨?_, Joins.unfrozen_of_block hb i⟩
  rw [Joins.cell_of_block hb]
  have : i < C.size := by rw [hs.1]; exact hi
  simp [this]
theorem St.there (h : St K W0 L W) (hm : (b, T, ks) ∈ L) (o n : Nat) (hn : o + n ≤ ks.length) : W.there b o n := fun j hj => h.at hm (o + j) (by omega)
theorem run_store1 {P : Program} (w : World) (b o : Nat) (ty : TypeId) (v : Value) (h1 : v.oneCell' = true) (hv : (w.cell? ⟨b, o, none⟩).isSome = true ∧ w.frozen? ⟨b, o, none⟩ = false) (hi : (P.info? ty).map (·.size) = some 1) : (storeVar ty ⟨b, o, none⟩ v).run P w = .ok () (w.setCell ⟨b, o, none⟩ v) := by
  have := run_storeCells_cells (P := P) b o [v] 0 w (fun j hj => by simp at hj; subst hj; exact hv.1) (fun j hj => by simp at hj; subst hj; exact hv.2) (fun x hx => by simp at hx; subst hx; exact h1)
  have hc : v.cells = #[v] := by cases v <;> first | rfl | cases h1
  cases hq : P.info? ty with
  | none => simp [hq] at hi
  | some i =>
    have hs : i.size = 1 := by simpa [hq] using hi
    simp only [Nat.add_zero] at this
    simp [storeVar, Go.sizeOf, typeInfo, hq, hc, hs, this, World.setCells]
theorem run_alloc1 {P : Program} (w : World) (t : TypeId) (z : Value) (hz : (P.info? t).bind (·.zero) = some z) : (Instr.alloc t true (.tuple #[])).run P w = .ok (.pointer (some ⟨w.heap.size, 0, none⟩)) (w.alloc (.cells z.cells t)) := by
  cases hq : P.info? t with
  | none => simp [hq] at hz
  | some i =>
    have hz' : i.zero = some z := by simpa [hq] using hz
    simp [Instr.alloc, zeroValue, typeInfo, hq, hz', newVar, newRow]
variable {ops : Array Oper} {rest : List Oper} {o : Oper} {a : Act} {Q : Exit → Act → World → Prop}
/-- A variable of the call's own is made. -/
theorem St.wp_alloc (h : St K W0 L W) (hgd : o.guard = none) (ty : TypeId) (ho : o.op = .alloc ty) (ks : List Bool) (z : Value) (hz : (Try.prog.info? ty).bind (·.zero) = some z) (hs : Shp ks z.cells) (hne : ty ≠ 89)
    (hK : ∀ b W', W0.heap.size ≤ b → St K W0 ((b, ty, ks) :: L) W' → wpList Try.prog ops Q rest (a.put o.dst (.pointer (some ⟨b, 0, none⟩))) W') : wpList Try.prog ops Q (o :: rest) a W :=
  wpList_plain hgd fun _ hC => by
    unfold Oper.wp execOp
    simp only [ho, Sem.run_bind, run_alloc1 W ty z hz, Result.andThen_ok, Sem.run_pure]
    exact hC _ _ (hK _ _ h.grw.grow.size (h.new hne hs))
/-- An integer is stored. -/
theorem St.wp_set (h : St K W0 L W) (hgd : o.guard = none) (ty : TypeId) (x y : Operand) (ho : o.op = .store ty x y) (b i : Nat) (n : Int) (hx : a.eval x = .pointer (some ⟨b, i, none⟩)) (hy : a.eval y = .int .i64 n)
    (T : TypeId) (ks : List Bool) (hm : (b, T, ks) ∈ L) (hk : ks[i]? = some true) (hi : (Try.prog.info? ty).map (·.size) = some 1) (hn : In64 n)
    (hK : ∀ W', St K W0 L W' → wpList Try.prog ops Q rest (a.put o.dst undef) W') : wpList Try.prog ops Q (o :: rest) a W :=
  wpList_plain hgd fun _ hC => by
    unfold Oper.wp execOp
    simp only [ho, hx, hy, Instr.storeAt, Instr.sureAddr, Sem.run_bind, Sem.run_pure, Result.andThen_ok, run_store1 W b i ty (.int .i64 n) rfl (h.at hm i (List.getElem?_eq_some_iff.1 hk).1) hi]
    exact hC _ _ (hK _ (h.set hm i n hn hk))
/-- A bool is stored. -/
theorem St.wp_setB (h : St K W0 L W) (hgd : o.guard = none) (ty : TypeId) (x y : Operand) (ho : o.op = .store ty x y) (b i : Nat) (n : Bool) (hx : a.eval x = .pointer (some ⟨b, i, none⟩)) (hy : a.eval y = .bool n)
    (T : TypeId) (ks : List Bool) (hm : (b, T, ks) ∈ L) (hk : ks[i]? = some false) (hi : (Try.prog.info? ty).map (·.size) = some 1)
    (hK : ∀ W', St K W0 L W' → wpList Try.prog ops Q rest (a.put o.dst undef) W') : wpList Try.prog ops Q (o :: rest) a W :=
  wpList_plain hgd fun _ hC => by
    unfold Oper.wp execOp
    simp only [ho, hx, hy, Instr.storeAt, Instr.sureAddr, Sem.run_bind, Sem.run_pure, Result.andThen_ok, run_store1 W b i ty (.bool n) rfl (h.at hm i (List.getElem?_eq_some_iff.1 hk).1) hi]
    exact hC _ _ (hK _ (h.setB hm i n hk))
/-- A struct is stored. -/
theorem St.wp_lay (h : St K W0 L W) (hgd : o.guard = none) (ty : TypeId) (x y : Operand) (ho : o.op = .store ty x y) (b i : Nat) (D : Array Value) (hx : a.eval x = .pointer (some ⟨b, i, none⟩)) (hy : a.eval y = .agg D)
    (T : TypeId) (ks : List Bool) (hm : (b, T, ks) ∈ L) (kl : List Bool) (hD : Shp kl D) (hk : ∀ j, j < kl.length → ks[i + j]? = kl[j]?) (hk2 : i + kl.length ≤ ks.length) (hi : (Try.prog.info? ty).map (·.size) = some kl.length)
    (hK : ∀ W', St K W0 L W' → wpList Try.prog ops Q rest (a.put o.dst undef) W') : wpList Try.prog ops Q (o :: rest) a W :=
  wpList_plain hgd fun _ hC => by
    unfold Oper.wp execOp
    simp only [ho, hx, hy, Instr.storeAt, Instr.sureAddr, Sem.run_bind, Sem.run_pure, Result.andThen_ok, run_storeVar_mid W b i ty D (h.there hm i D.size (by rw [hD.1]; exact hk2)) (by rw [hD.1]; exact hi) hD.one]
    exact hC _ _ (hK _ (h.lay hm i hD hk))
/-- A whole variable is loaded. -/
theorem St.wp_load (h : St K W0 L W) (hgd : o.guard = none) (ty : TypeId) (x : Operand) (ho : o.op = .load ty x) (b : Nat) (hx : a.eval x = .pointer (some ⟨b, 0, none⟩))
    (T : TypeId) (ks : List Bool) (hm : (b, T, ks) ∈ L) (d : TypeDesc) (hu : Try.prog.underlying ty = some d) (hd : d.isRow = true) (hi : (Try.prog.info? ty).map (·.size) = some ks.length)
    (hK : ∀ D, Shp ks D → wpList Try.prog ops Q rest (a.put o.dst (.agg D)) W) : wpList Try.prog ops Q (o :: rest) a W := by
  obtain ⟨C, hb, hs⟩ := h.blk hm
  refine wpList_load_mid hgd ty x ho b 0 hx C.toList d ?_ hu hd (by rw [hi, ← hs.1, Array.length_toList]) (by simpa using hK C hs)
  intro j v hj
  rw [Joins.cell_of_block hb]
  simpa using hj
/-- A result that is a struct. -/
theorem St.result (h : St K W0 L W) (hm : (b, T, ks) ∈ L) {fn : Func} {p : Tmp} {d : TypeDesc} (hr : fn.results = #[.cell p T]) (tmps : Array Value) (hp : tmps.getD p undef = .pointer (some ⟨b, 0, none⟩)) (hu : Try.prog.underlying T = some d) (hd : d.isRow = true) (hi : (Try.prog.info? T).map (·.size) = some ks.length) :
    ∃ D, Shp ks D ∧ (results fn tmps).run Try.prog W = .ok (.agg D) W := by
  obtain ⟨C, hb, hs⟩ := h.blk hm
  refine ⟨C, hs, ?_⟩
  have := results_cell_mid hr tmps W b C.toList d hp (fun j v hj => by rw [Joins.cell_of_block hb]; simpa using hj) hu hd (by rw [hi, ← hs.1, Array.length_toList])
  simpa using this
end
/-- A struct is drawn. -/
def DrawsS (ks : List Bool) (K : Cx) (W : World) (e : Ending) (W' : World) : Prop := ∃ D, Shp ks D ∧ e = .returned (.agg D) ∧ Grw K W W'
end Go.Proofs.Ytcmanaklojomeaa
