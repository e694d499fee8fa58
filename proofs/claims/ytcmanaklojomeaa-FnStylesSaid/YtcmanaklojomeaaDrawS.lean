/- What is drawn of values, sides, edges and styles: some struct of its kinds. No condition. -/
import Derived.Test.YtcmanaklojomeaaShp
import Derived.Deep.DeepCutAuto
namespace Go.Proofs.Ytcmanaklojomeaa
open Go.RowKit Go.Deep
set_option linter.unusedVariables false
def kV : List Bool := [true, true]
def kE : List Bool := [true, true, true, true]
theorem shp_lit {ks : List Bool} {C : Array Value} (h : C.size = ks.length) (hc : ∀ i, i < ks.length → (ks[i]? = some true ∧ ∃ n, In64 n ∧ C[i]? = some (.int .i64 n)) ∨ (ks[i]? = some false ∧ ∃ x, C[i]? = some (.bool x))) : Shp ks C := ⟨h, hc⟩
theorem shp2 {a b : Int} (ha : In64 a) (hb : In64 b) : Shp kV #[.int .i64 a, .int .i64 b] := ⟨rfl, fun i hi => by
  have hc : i = 0 ∨ i = 1 := by simp [kV] at hi; omega
  rcases hc with rfl | rfl
  · exact Or.inl ⟨rfl, a, ha, rfl⟩
  · exact Or.inl ⟨rfl, b, hb, rfl⟩⟩
theorem shp4 {a b c d : Int} (ha : In64 a) (hb : In64 b) (hc : In64 c) (hd : In64 d) : Shp kE #[.int .i64 a, .int .i64 b, .int .i64 c, .int .i64 d] := ⟨rfl, fun i hi => by
  have hc : i = 0 ∨ i = 1 ∨ i = 2 ∨ i = 3 := by simp [kE] at hi; omega
  rcases hc with rfl | rfl | rfl | rfl
  · exact Or.inl ⟨rfl, a, ha, rfl⟩
  · exact Or.inl ⟨rfl, b, hb, rfl⟩
  · exact Or.inl ⟨rfl, c, ‹In64 c›, rfl⟩
  · exact Or.inl ⟨rfl, d, hd, rfl⟩⟩
theorem zero_in : In64 0 := ⟨by decide, by decide⟩
theorem wrap_in64 (n : Int) : In64 (IntKind.i64.wrap n) := by
  rw [IntKind.wrap_i64]
  exact ⟨by omega, by omega⟩
theorem shpZ (ks : List Bool) : Shp ks ⟨leafV (fun _ => 0) (fun _ => false) ks 0⟩ := Shp.of fun _ => zero_in
section
variable {K : Cx} {W0 W : World} {L : Bxs} {ops : Array Oper} {rest : List Oper} {o : Oper} {a : Act} {Q : Exit → Act → World → Prop}
theorem St.alloc_V (h : St K W0 L W) (hgd : o.guard = none) (ho : o.op = .alloc 34) (hK : ∀ b W', W0.heap.size ≤ b → St K W0 ((b, 34, kV) :: L) W' → wpList Try.prog ops Q rest (a.put o.dst (.pointer (some ⟨b, 0, none⟩))) W') : wpList Try.prog ops Q (o :: rest) a W :=
  h.wp_alloc hgd _ ho kV (.agg ⟨leafV (fun _ => 0) (fun _ => false) kV 0⟩) (by kernel_rfl) (shpZ _) (by decide) hK
theorem St.alloc_E (h : St K W0 L W) (hgd : o.guard = none) (ho : o.op = .alloc 38) (hK : ∀ b W', W0.heap.size ≤ b → St K W0 ((b, 38, kE) :: L) W' → wpList Try.prog ops Q rest (a.put o.dst (.pointer (some ⟨b, 0, none⟩))) W') : wpList Try.prog ops Q (o :: rest) a W :=
  h.wp_alloc hgd _ ho kE (.agg ⟨leafV (fun _ => 0) (fun _ => false) kE 0⟩) (by kernel_rfl) (shpZ _) (by decide) hK
theorem St.alloc_S (h : St K W0 L W) (hgd : o.guard = none) (ho : o.op = .alloc 36) (hK : ∀ b W', W0.heap.size ≤ b → St K W0 ((b, 36, ksSides) :: L) W' → wpList Try.prog ops Q rest (a.put o.dst (.pointer (some ⟨b, 0, none⟩))) W') : wpList Try.prog ops Q (o :: rest) a W :=
  h.wp_alloc hgd _ ho ksSides (.agg ⟨leafV (fun _ => 0) (fun _ => false) ksSides 0⟩) (by kernel_rfl) (shpZ _) (by decide) hK
theorem St.alloc_Y (h : St K W0 L W) (hgd : o.guard = none) (ho : o.op = .alloc 40) (hK : ∀ b W', W0.heap.size ≤ b → St K W0 ((b, 40, ksStyle) :: L) W' → wpList Try.prog ops Q rest (a.put o.dst (.pointer (some ⟨b, 0, none⟩))) W') : wpList Try.prog ops Q (o :: rest) a W :=
  h.wp_alloc hgd _ ho ksStyle (.agg ⟨leafV (fun _ => 0) (fun _ => false) ksStyle 0⟩) (by kernel_rfl) (shpZ _) (by decide) hK
theorem St.load_V (h : St K W0 L W) (hgd : o.guard = none) (x : Operand) (ho : o.op = .load 34 x) (b : Nat) (hx : a.eval x = .pointer (some ⟨b, 0, none⟩)) (hm : (b, 34, kV) ∈ L)
    (hK : ∀ D, Shp kV D → wpList Try.prog ops Q rest (a.put o.dst (.agg D)) W) : wpList Try.prog ops Q (o :: rest) a W := h.wp_load hgd _ x ho b hx _ _ hm _ Try.underlying34 rfl (by kernel_rfl) hK
theorem St.load_E (h : St K W0 L W) (hgd : o.guard = none) (x : Operand) (ho : o.op = .load 38 x) (b : Nat) (hx : a.eval x = .pointer (some ⟨b, 0, none⟩)) (hm : (b, 38, kE) ∈ L)
    (hK : ∀ D, Shp kE D → wpList Try.prog ops Q rest (a.put o.dst (.agg D)) W) : wpList Try.prog ops Q (o :: rest) a W := h.wp_load hgd _ x ho b hx _ _ hm _ Try.underlying38 rfl (by kernel_rfl) hK
theorem St.load_S (h : St K W0 L W) (hgd : o.guard = none) (x : Operand) (ho : o.op = .load 36 x) (b : Nat) (hx : a.eval x = .pointer (some ⟨b, 0, none⟩)) (hm : (b, 36, ksSides) ∈ L)
    (hK : ∀ D, Shp ksSides D → wpList Try.prog ops Q rest (a.put o.dst (.agg D)) W) : wpList Try.prog ops Q (o :: rest) a W := h.wp_load hgd _ x ho b hx _ _ hm _ Try.underlying36 rfl (by kernel_rfl) hK
theorem St.load_Y (h : St K W0 L W) (hgd : o.guard = none) (x : Operand) (ho : o.op = .load 40 x) (b : Nat) (hx : a.eval x = .pointer (some ⟨b, 0, none⟩)) (hm : (b, 40, ksStyle) ∈ L)
    (hK : ∀ D, Shp ksStyle D → wpList Try.prog ops Q rest (a.put o.dst (.agg D)) W) : wpList Try.prog ops Q (o :: rest) a W := h.wp_load hgd _ x ho b hx _ _ hm _ Try.underlying40 rfl (by kernel_rfl) hK
theorem St.drop {x : Nat × TypeId × List Bool} (h : St K W0 (x :: L) W) : St K W0 L W := ⟨h.grw, h.low, fun y hy => h.box y (List.mem_cons_of_mem _ hy)⟩
theorem St.retS {b : Nat} {T : TypeId} {ks : List Bool} (h : St K W0 L W) {fn : Func} {p : Tmp} {d : TypeDesc} (hr : fn.results = #[.cell p T]) (hp : a.tmps.getD p undef = .pointer (some ⟨b, 0, none⟩)) (hm : (b, T, ks) ∈ L)
    (hu : Try.prog.underlying T = some d) (hd : d.isRow = true) (hi : (Try.prog.info? T).map (·.size) = some ks.length) (hdef : a.defers = []) : bodyPost Try.prog fn (DrawsS ks K W0) .ret a W := by
  obtain ⟨D, hD, hrun⟩ := h.result hm hr a.tmps hp hu hd hi
  exact bodyPost_ret hrun hdef ⟨D, hD, rfl, h.grw⟩
end
theorem below_c (K : Cx) (n : Int) (hn : 1 ≤ n ∧ n ≤ 1000000000) (W : World) (h : Drw K W) : Calls Try.prog 72 #[.pointer (some ⟨K.c, 0, none⟩), .int .i64 n] W (Draws 0 (n - 1) K W) :=
  l01Below_s K n (n - 1) (by omega) (by omega) hn.2 W h
theorem once_c (K : Cx) (n : Int) (hn : 1 ≤ n ∧ n ≤ 1000000000) (W : World) (h : Drw K W) : Calls Try.prog 82 #[.pointer (some ⟨K.c, 0, none⟩), .int .i64 n] W (DrawsB K W) :=
  l01Once_s K n (by omega) hn.2 W h
def allL : List Value → Prop
  | [] => True
  | v :: r => (∃ n, v = .int .i64 n ∧ In64 n) ∧ allL r
theorem allL_ints : ∀ {l : List Value}, allL l → ∃ z : List Int, l = z.map (Value.int .i64) ∧ ∀ x ∈ z, In64 x
  | [], _ => ⟨[], rfl, fun _ h => by cases h⟩
  | v :: r, ⟨⟨n, hv, hn⟩, h⟩ => by
    obtain ⟨z, hz, hx⟩ := allL_ints h
    refine ⟨n :: z, by rw [hv, hz]; rfl, fun x hm => ?_⟩
    rcases List.mem_cons.1 hm with rfl | hm
    · exact hn
    · exact hx x hm
theorem pick_c (K : Cx) (C : Array Value) (n : Nat) (hn : C.size = n) (h0 : 0 < n ∧ n ≤ 1000) (hC : allL C.toList) (b : Nat) (W : World) (h : Drw K W) (hb : W.heap[b]? = some (.cells C 3 (0, 0))) :
    Calls Try.prog 87 #[.pointer (some ⟨K.c, 0, none⟩), .slice (some ⟨b, 0, none⟩) n n] W (DrawsI K W) := by
  obtain ⟨z, hz, hx⟩ := allL_ints hC
  have hl : z.length = n := by rw [← hn, ← Array.length_toList, hz, List.length_map]
  have e : C = arr z := by
    apply Array.toList_inj.mp
    rw [hz]
    rfl
  rw [e] at hb
  rw [← hl]
  exact l01PickInt_s K z (by omega) (by omega) (num_mem hx) b W h hb
theorem allL_of {l : List Value} (h : (l.all fun v => match v with | .int .i64 n => decide (-9223372036854775808 ≤ n) && decide (n ≤ 9223372036854775807) | _ => false) = true) : allL l := by
  induction l with
  | nil => trivial
  | cons v r ih =>
    rw [List.all_cons, Bool.and_eq_true] at h
    refine ⟨?_, ih h.2⟩
    have h1 := h.1
    split at h1
    · rename_i n
      simp at h1
      exact ⟨n, rfl, h1⟩
    · cases h1
set_option maxRecDepth 20000 in
set_option maxHeartbeats 1600000 in
theorem l04Value_s (K : Cx) (W : World) (h : Drw K W) : Calls Try.prog 105 #[.pointer (some ⟨K.c, 0, none⟩)] W (DrawsS kV K W) := by
  have HS : Hid (St K W [] W) := Lib.hid (St.start h)
  clear h
  go_enter Try.func105, Try.ntmps105
  go_wp2_with ((first | (refine St.alloc_V HS.out rfl rfl ?_; intro b W' hlt hS; replace HS := Lib.hid hS; clear hS) | (refine St.alloc_E HS.out rfl rfl ?_; intro b W' hlt hS; replace HS := Lib.hid hS; clear hS) | (refine St.alloc_S HS.out rfl rfl ?_; intro b W' hlt hS; replace HS := Lib.hid hS; clear hS) | (refine St.alloc_Y HS.out rfl rfl ?_; intro b W' hlt hS; replace HS := Lib.hid hS; clear hS) | (refine St.load_V HS.out rfl _ rfl _ rfl (by (first | exact List.mem_cons_self | exact List.mem_cons_of_mem _ List.mem_cons_self | exact List.mem_cons_of_mem _ (List.mem_cons_of_mem _ List.mem_cons_self))) ?_; intro D hv; have HV := Lib.hid hv; clear hv) | (refine St.load_E HS.out rfl _ rfl _ rfl (by (first | exact List.mem_cons_self | exact List.mem_cons_of_mem _ List.mem_cons_self | exact List.mem_cons_of_mem _ (List.mem_cons_of_mem _ List.mem_cons_self))) ?_; intro D hv; have HV := Lib.hid hv; clear hv) | (refine St.load_S HS.out rfl _ rfl _ rfl (by (first | exact List.mem_cons_self | exact List.mem_cons_of_mem _ List.mem_cons_self | exact List.mem_cons_of_mem _ (List.mem_cons_of_mem _ List.mem_cons_self))) ?_; intro D hv; have HV := Lib.hid hv; clear hv) | (refine St.load_Y HS.out rfl _ rfl _ rfl (by (first | exact List.mem_cons_self | exact List.mem_cons_of_mem _ List.mem_cons_self | exact List.mem_cons_of_mem _ (List.mem_cons_of_mem _ List.mem_cons_self))) ?_; intro D hv; have HV := Lib.hid hv; clear hv) | (refine St.wp_set HS.out rfl _ _ _ rfl _ _ _ rfl rfl _ _ (by (first | exact List.mem_cons_self | exact List.mem_cons_of_mem _ List.mem_cons_self | exact List.mem_cons_of_mem _ (List.mem_cons_of_mem _ List.mem_cons_self))) (by rfl) (by kernel_rfl) (by (first | assumption | exact wrap_in64 _ | exact ⟨by omega, by omega⟩)) ?_; intro W' hS; replace HS := Lib.hid hS; clear hS) | (refine St.wp_setB HS.out rfl _ _ _ rfl _ _ _ rfl rfl _ _ (by (first | exact List.mem_cons_self | exact List.mem_cons_of_mem _ List.mem_cons_self | exact List.mem_cons_of_mem _ (List.mem_cons_of_mem _ List.mem_cons_self))) (by rfl) (by kernel_rfl) ?_; intro W' hS; replace HS := Lib.hid hS; clear hS) | (refine St.wp_lay HS.out rfl _ _ _ rfl _ _ _ rfl rfl _ _ (by (first | exact List.mem_cons_self | exact List.mem_cons_of_mem _ List.mem_cons_self | exact List.mem_cons_of_mem _ (List.mem_cons_of_mem _ List.mem_cons_self))) _ (by first | exact HV.out | exact shpZ ksSides | exact shp2 (by (first | assumption | exact wrap_in64 _ | exact ⟨by omega, by omega⟩)) (by (first | assumption | exact wrap_in64 _ | exact ⟨by omega, by omega⟩)) | exact shp4 (by (first | assumption | exact wrap_in64 _ | exact ⟨by omega, by omega⟩)) (by (first | assumption | exact wrap_in64 _ | exact ⟨by omega, by omega⟩)) (by (first | assumption | exact wrap_in64 _ | exact ⟨by omega, by omega⟩)) (by (first | assumption | exact wrap_in64 _ | exact ⟨by omega, by omega⟩))) (by decide) (by decide) (by kernel_rfl) ?_; intro W' hS; replace HS := Lib.hid hS; clear hS) | (go_at_call 72; refine (below_c K _ (by decide) _ (by first | exact HS.out.cur | exact (HS.out.alloc _).cur)).mono ?_; rintro e wS ⟨x, hx0, hx1, rfl, hg⟩; replace HS := Lib.hid (by first | exact HS.out.next hg | exact (HS.out.alloc _).next hg); clear hg) | (go_at_call 87; refine (pick_c K _ _ (by rfl) (by decide) (by simp [allL, In64]; try omega) _ _ (by first | exact HS.out.cur | exact (HS.out.alloc _).cur) (heap_alloc_new _ _)).mono ?_; rintro e wS ⟨x, hx, rfl, hg⟩; replace HS := Lib.hid (by first | exact HS.out.next hg | exact (HS.out.alloc _).next hg); clear hg)))
  all_goals exact HS.out.retS Try.results105 rfl (by (first | exact List.mem_cons_self | exact List.mem_cons_of_mem _ List.mem_cons_self | exact List.mem_cons_of_mem _ (List.mem_cons_of_mem _ List.mem_cons_self))) Try.underlying34 rfl (by kernel_rfl) rfl
end Go.Proofs.Ytcmanaklojomeaa
