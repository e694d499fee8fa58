/- Structs in variables of the call's own, no cursor; results of several parts. No condition. -/
import Derived.Test.YtcmanaklojomeaaDrawS
namespace Go.Proofs.Ytcmanaklojomeaa
open Go.RowKit Go.Deep
set_option linter.unusedVariables false
/-- Variables of the call's own. -/
structure Rs (w : World) (L : Bxs) (W : World) : Prop where
  bel : Below w.heap.size w W
  box : ∀ x ∈ L, w.heap.size ≤ x.1 ∧ ∃ C, W.heap[x.1]? = some (.cells C x.2.1 (0, 0)) ∧ Shp x.2.2 C
section
variable {w W W' : World} {L : Bxs} {b : Nat} {T : TypeId} {ks kl : List Bool}
theorem Rs.start (w : World) : Rs w [] w := ⟨Below.refl _ _, fun _ hx => by cases hx⟩
theorem Rs.called (h : Rs w L W) (hb : Below W.heap.size W W') : Rs w L W' :=
  ⟨bel_call h.bel hb, fun x hx => by
    obtain ⟨h1, C, hC, hs⟩ := h.box x hx
    exact ⟨h1, C, (hb.block _ (Array.getElem?_eq_some_iff.1 hC).1).trans hC, hs⟩⟩
theorem Rs.alloc (h : Rs w L W) (o : Obj) : Rs w L (W.alloc o) := h.called (bel_alloc (Below.refl _ _) _)
theorem Rs.drew (h : Rs w L W) : Rs w L W.drew := h.called ((Below.refl _ _).drew)
theorem Rs.drewN (h : Rs w L W) (n : Nat) : Rs w L (W.drewN n) := h.called (bel_drewN (Below.refl _ _) _)
theorem Rs.new (h : Rs w L W) {C : Array Value} (hC : Shp ks C) : Rs w ((W.heap.size, T, ks) :: L) (W.alloc (.cells C T)) :=
  ⟨bel_alloc h.bel _, fun x hx => by
    rcases List.mem_cons.1 hx with rfl | hx
    · exact ⟨h.bel.size, C, heap_alloc_new _ _, hC⟩
    · exact (h.alloc _).box x hx⟩
theorem Rs.lay (h : Rs w L W) (hm : (b, T, ks) ∈ L) (o : Nat) {D : Array Value} (hD : Shp kl D) (hk : ∀ j, j < kl.length → ks[o + j]? = kl[j]?) : Rs w L (W.setCells b o D.toList) := by
  obtain ⟨hge, C, hb, hs⟩ := h.box _ hm
  obtain ⟨E, hE, hW⟩ := Shp.lay D.toList kl C o hs (by simpa using hD) hk
  refine ⟨below_setCells' _ hge _ _ h.bel, fun x hx => ?_⟩
  obtain ⟨h1, F, hF, hsF⟩ := h.box x hx
  by_cases e : x.1 = b
  · have hCF := hF
    rw [e, show W.heap[b]? = some (.cells C T (0, 0)) from hb] at hCF
    injection hCF with hCF
    injection hCF with e1 e2 _
    subst e1
    exact ⟨h1, E, by rw [e, ← e2]; exact hW W b T hb, by rw [Shp.same hs hsF]; exact hE⟩
  · exact ⟨h1, F, ((grown_setCells D.toList o (grown_refl W (some b))).block x.1 (Array.getElem?_eq_some_iff.1 hF).1 (by simpa using e)).trans hF, hsF⟩
theorem Rs.at (h : Rs w L W) (hm : (b, T, ks) ∈ L) (i : Nat) (hi : i < ks.length) : (W.cell? ⟨b, i, none⟩).isSome = true ∧ W.frozen? ⟨b, i, none⟩ = false := by
  obtain ⟨_, C, hb, hs⟩ := h.box _ hm
  refine ⟨?_, Joins.unfrozen_of_block hb i⟩
  rw [Joins.cell_of_block hb]
  have : i < C.size := by rw [hs.1]; exact hi
  simp [this]
theorem Rs.there (h : Rs w L W) (hm : (b, T, ks) ∈ L) (o n : Nat) (hn : o + n ≤ ks.length) : W.there b o n := fun j hj => h.at hm (o + j) (by omega)
theorem Rs.var (h : Rs w L W) (hm : (b, T, ks) ∈ L) {d : TypeDesc} (hu : Try.prog.underlying T = some d) (hd : d.isRow = true) (hi : (Try.prog.info? T).map (·.size) = some ks.length) :
    ∃ g q, (∀ i, In64 (g i)) ∧ (loadVar T ⟨b, 0, none⟩).run Try.prog W = .ok (.agg ⟨leafV g q ks 0⟩) W := by
  obtain ⟨_, C, hb, hs⟩ := h.box _ hm
  obtain ⟨g, q, hC, hg⟩ := hs.open
  refine ⟨g, q, hg, ?_⟩
  rw [← hC]
  have := run_loadVar_mid (P := Try.prog) W b 0 T C.toList d (fun j v hj => by rw [Joins.cell_of_block hb]; simpa using hj) hu hd (by rw [hi, ← hs.1, Array.length_toList])
  simpa using this
variable {ops : Array Oper} {rest : List Oper} {o : Oper} {a : Act} {Q : Exit → Act → World → Prop}
theorem Rs.wp_alloc (h : Rs w L W) (hgd : o.guard = none) (ty : TypeId) (ho : o.op = .alloc ty) (ks : List Bool) (z : Value) (hz : (Try.prog.info? ty).bind (·.zero) = some z) (hs : Shp ks z.cells)
    (hK : ∀ b W', Rs w ((b, ty, ks) :: L) W' → wpList Try.prog ops Q rest (a.put o.dst (.pointer (some ⟨b, 0, none⟩))) W') : wpList Try.prog ops Q (o :: rest) a W :=
  wpList_plain hgd fun _ hC => by
    unfold Oper.wp execOp
    simp only [ho, Sem.run_bind, run_alloc1 W ty z hz, Result.andThen_ok, Sem.run_pure]
    exact hC _ _ (hK _ _ (h.new hs))
theorem Rs.wp_lay (h : Rs w L W) (hgd : o.guard = none) (ty : TypeId) (x y : Operand) (ho : o.op = .store ty x y) (b i : Nat) (D : Array Value) (hx : a.eval x = .pointer (some ⟨b, i, none⟩)) (hy : a.eval y = .agg D)
    (T : TypeId) (ks : List Bool) (hm : (b, T, ks) ∈ L) (kl : List Bool) (hD : Shp kl D) (hk : ∀ j, j < kl.length → ks[i + j]? = kl[j]?) (hk2 : i + kl.length ≤ ks.length) (hi : (Try.prog.info? ty).map (·.size) = some kl.length)
    (hK : ∀ W', Rs w L W' → wpList Try.prog ops Q rest (a.put o.dst undef) W') : wpList Try.prog ops Q (o :: rest) a W :=
  wpList_plain hgd fun _ hC => by
    unfold Oper.wp execOp
    simp only [ho, hx, hy, Instr.storeAt, Instr.sureAddr, Sem.run_bind, Sem.run_pure, Result.andThen_ok, run_storeVar_mid W b i ty D (h.there hm i D.size (by rw [hD.1]; exact hk2)) (by rw [hD.1]; exact hi) hD.one]
    exact hC _ _ (hK _ (h.lay hm i hD hk))
theorem Rs.alloc_V (h : Rs w L W) (hgd : o.guard = none) (ho : o.op = .alloc 34) (hK : ∀ b W', Rs w ((b, 34, kV) :: L) W' → wpList Try.prog ops Q rest (a.put o.dst (.pointer (some ⟨b, 0, none⟩))) W') : wpList Try.prog ops Q (o :: rest) a W :=
  h.wp_alloc hgd _ ho kV (.agg ⟨leafV (fun _ => 0) (fun _ => false) kV 0⟩) (by kernel_rfl) (shpZ _) hK
theorem Rs.alloc_E (h : Rs w L W) (hgd : o.guard = none) (ho : o.op = .alloc 38) (hK : ∀ b W', Rs w ((b, 38, kE) :: L) W' → wpList Try.prog ops Q rest (a.put o.dst (.pointer (some ⟨b, 0, none⟩))) W') : wpList Try.prog ops Q (o :: rest) a W :=
  h.wp_alloc hgd _ ho kE (.agg ⟨leafV (fun _ => 0) (fun _ => false) kE 0⟩) (by kernel_rfl) (shpZ _) hK
theorem Rs.alloc_S (h : Rs w L W) (hgd : o.guard = none) (ho : o.op = .alloc 36) (hK : ∀ b W', Rs w ((b, 36, ksSides) :: L) W' → wpList Try.prog ops Q rest (a.put o.dst (.pointer (some ⟨b, 0, none⟩))) W') : wpList Try.prog ops Q (o :: rest) a W :=
  h.wp_alloc hgd _ ho ksSides (.agg ⟨leafV (fun _ => 0) (fun _ => false) ksSides 0⟩) (by kernel_rfl) (shpZ _) hK
theorem Rs.alloc_Y (h : Rs w L W) (hgd : o.guard = none) (ho : o.op = .alloc 40) (hK : ∀ b W', Rs w ((b, 40, ksStyle) :: L) W' → wpList Try.prog ops Q rest (a.put o.dst (.pointer (some ⟨b, 0, none⟩))) W') : wpList Try.prog ops Q (o :: rest) a W :=
  h.wp_alloc hgd _ ho ksStyle (.agg ⟨leafV (fun _ => 0) (fun _ => false) ksStyle 0⟩) (by kernel_rfl) (shpZ _) hK
end
section
variable {fn : Func} {p r t u v : Tmp} {T S : TypeId} {tmps : Array Value} {W : World} {b c : Nat} {X Y : Value}
theorem res_c (h : fn.results = #[.cell p T]) (hp : tmps.getD p undef = .pointer (some ⟨b, 0, none⟩)) (hl : (loadVar T ⟨b, 0, none⟩).run Try.prog W = .ok X W) : (results fn tmps).run Try.prog W = .ok X W := by
  have hp' : tmps[p]?.getD undef = .pointer (some ⟨b, 0, none⟩) := by simpa using hp
  simp [results, h, hp', asAddr, hl]
theorem res_ct (h : fn.results = #[.cell p T, .tmp t]) (hp : tmps.getD p undef = .pointer (some ⟨b, 0, none⟩)) (hl : (loadVar T ⟨b, 0, none⟩).run Try.prog W = .ok X W) : (results fn tmps).run Try.prog W = .ok (.tuple #[X, tmps.getD t undef]) W := by
  have hp' : tmps[p]?.getD undef = .pointer (some ⟨b, 0, none⟩) := by simpa using hp
  simp [results, h, hp', asAddr, hl]
theorem res_ctt (h : fn.results = #[.cell p T, .tmp t, .tmp u]) (hp : tmps.getD p undef = .pointer (some ⟨b, 0, none⟩)) (hl : (loadVar T ⟨b, 0, none⟩).run Try.prog W = .ok X W) : (results fn tmps).run Try.prog W = .ok (.tuple #[X, tmps.getD t undef, tmps.getD u undef]) W := by
  have hp' : tmps[p]?.getD undef = .pointer (some ⟨b, 0, none⟩) := by simpa using hp
  simp [results, h, hp', asAddr, hl]
theorem res_cttt (h : fn.results = #[.cell p T, .tmp t, .tmp u, .tmp v]) (hp : tmps.getD p undef = .pointer (some ⟨b, 0, none⟩)) (hl : (loadVar T ⟨b, 0, none⟩).run Try.prog W = .ok X W) : (results fn tmps).run Try.prog W = .ok (.tuple #[X, tmps.getD t undef, tmps.getD u undef, tmps.getD v undef]) W := by
  have hp' : tmps[p]?.getD undef = .pointer (some ⟨b, 0, none⟩) := by simpa using hp
  simp [results, h, hp', asAddr, hl]
theorem res_cc (h : fn.results = #[.cell p T, .cell r S]) (hp : tmps.getD p undef = .pointer (some ⟨b, 0, none⟩)) (hr : tmps.getD r undef = .pointer (some ⟨c, 0, none⟩)) (hl : (loadVar T ⟨b, 0, none⟩).run Try.prog W = .ok X W) (hk : (loadVar S ⟨c, 0, none⟩).run Try.prog W = .ok Y W) : (results fn tmps).run Try.prog W = .ok (.tuple #[X, Y]) W := by
  have hp' : tmps[p]?.getD undef = .pointer (some ⟨b, 0, none⟩) := by simpa using hp
  have hr' : tmps[r]?.getD undef = .pointer (some ⟨c, 0, none⟩) := by simpa using hr
  simp [results, h, hp', hr', asAddr, hl, hk]
end
/-- What a law's draw hands back. -/
def DValI (w : World) (e : Ending) (w' : World) : Prop := ∃ (g : Nat → Int) (x : Int), (∀ i, In64 (g i)) ∧ In64 x ∧ e = .returned (.tuple #[.agg #[.int .i64 (g 0), .int .i64 (g 1)], .int .i64 x]) ∧ Below w.heap.size w w'
def DEdg (w : World) (e : Ending) (w' : World) : Prop := ∃ (g : Nat → Int), (∀ i, In64 (g i)) ∧ e = .returned (.agg #[.int .i64 (g 0), .int .i64 (g 1), .int .i64 (g 2), .int .i64 (g 3)]) ∧ Below w.heap.size w w'
def DSidIB (w : World) (e : Ending) (w' : World) : Prop := ∃ (g : Nat → Int) (q : Nat → Bool) (x : Int) (y : Bool), (∀ i, In64 (g i)) ∧ In64 x ∧ e = .returned (.tuple #[.agg (sdA g q), .int .i64 x, .bool y]) ∧ Below w.heap.size w w'
def DSidIBI (w : World) (e : Ending) (w' : World) : Prop := ∃ (g : Nat → Int) (q : Nat → Bool) (x : Int) (y : Bool) (z : Int), (∀ i, In64 (g i)) ∧ In64 x ∧ In64 z ∧ e = .returned (.tuple #[.agg (sdA g q), .int .i64 x, .bool y, .int .i64 z]) ∧ Below w.heap.size w w'
def DSty (w : World) (e : Ending) (w' : World) : Prop := ∃ (g : Nat → Int) (q : Nat → Bool), (∀ i, In64 (g i)) ∧ e = .returned (.agg (syA g q)) ∧ Below w.heap.size w w'
def DStyB (w : World) (e : Ending) (w' : World) : Prop := ∃ (g : Nat → Int) (q : Nat → Bool) (y : Bool), (∀ i, In64 (g i)) ∧ e = .returned (.tuple #[.agg (syA g q), .bool y]) ∧ Below w.heap.size w w'
def DStyBI (w : World) (e : Ending) (w' : World) : Prop := ∃ (g : Nat → Int) (q : Nat → Bool) (y : Bool) (z : Int), (∀ i, In64 (g i)) ∧ In64 z ∧ e = .returned (.tuple #[.agg (syA g q), .bool y, .int .i64 z]) ∧ Below w.heap.size w w'
def DStyS (w : World) (e : Ending) (w' : World) : Prop := ∃ (g : Nat → Int) (q : Nat → Bool) (k : Nat → Int) (r : Nat → Bool), (∀ i, In64 (g i)) ∧ (∀ i, In64 (k i)) ∧ e = .returned (.tuple #[.agg (syA g q), .agg (syA k r)]) ∧ Below w.heap.size w w'
end Go.Proofs.Ytcmanaklojomeaa
