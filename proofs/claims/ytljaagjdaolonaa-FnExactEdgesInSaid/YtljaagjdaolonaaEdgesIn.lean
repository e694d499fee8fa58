/- The law FnExactEdgesIn returns true for every input: EdgesIn of the program and of the reference return the same. Conditions: none. -/
import Derived.Test.YtljaagjdaolonaaCore2
import Derived.Test.YtljaagjdaolonaaConv
import Derived.Deep.DeepCutAuto
namespace Go.Proofs.Ytljaagjdaolonaa
open Go.ChangeShapes Go.WideShapes Go.ChangeAt Go.RowKit
set_option linter.unusedVariables false
/-- A variable that holds four integers, made behind a world B. -/
def Four (B : World) (a b c d : Int) (p : Value) (W : World) : Prop :=
  ∃ k, p = .pointer (some ⟨k, 0, none⟩) ∧ k < W.heap.size ∧ W.cell? ⟨k, 0, none⟩ = some (.int .i64 a) ∧ W.cell? ⟨k, 1, none⟩ = some (.int .i64 b) ∧ W.cell? ⟨k, 2, none⟩ = some (.int .i64 c) ∧ W.cell? ⟨k, 3, none⟩ = some (.int .i64 d) ∧ Below B.heap.size B W
set_option maxHeartbeats 3000000 in
theorem law_FnExactEdgesIn (g0 : Nat → Int) (w0 : ∀ i, In64 (g0 i)) (g1 : Nat → Int) (w1 : ∀ i, In64 (g1 i)) (w : World) :
    Calls Try.prog 5 #[.agg #[.int .i64 (g0 0), .int .i64 (g0 1), .int .i64 (g0 2), .int .i64 (g0 3)], .agg #[.int .i64 (g1 0), .int .i64 (g1 1), .int .i64 (g1 2), .int .i64 (g1 3)]] w fun e w' => e = .returned (.bool true) ∧ Below w.heap.size w w' := by
  obtain ⟨B, hB⟩ : ∃ B, B = (w.alloc (.cells (#[.int .i64 (g0 0), .int .i64 (g0 1), .int .i64 (g0 2), .int .i64 (g0 3)]) 23)).alloc (.cells (#[.int .i64 (g1 0), .int .i64 (g1 1), .int .i64 (g1 2), .int .i64 (g1 3)]) 23) := ⟨_, rfl⟩
  have HB := Lib.hid hB
  have e0 : B.cell? ⟨w.heap.size, 0, none⟩ = some (.int .i64 (g0 0)) := by subst hB; simp [go_sem]
  have e1 : B.cell? ⟨w.heap.size, 1, none⟩ = some (.int .i64 (g0 1)) := by subst hB; simp [go_sem]
  have e2 : B.cell? ⟨w.heap.size, 2, none⟩ = some (.int .i64 (g0 2)) := by subst hB; simp [go_sem]
  have e3 : B.cell? ⟨w.heap.size, 3, none⟩ = some (.int .i64 (g0 3)) := by subst hB; simp [go_sem]
  have e4 : B.cell? ⟨w.heap.size + 1, 0, none⟩ = some (.int .i64 (g1 0)) := by subst hB; simp [go_sem]
  have e5 : B.cell? ⟨w.heap.size + 1, 1, none⟩ = some (.int .i64 (g1 1)) := by subst hB; simp [go_sem]
  have e6 : B.cell? ⟨w.heap.size + 1, 2, none⟩ = some (.int .i64 (g1 2)) := by subst hB; simp [go_sem]
  have e7 : B.cell? ⟨w.heap.size + 1, 3, none⟩ = some (.int .i64 (g1 3)) := by subst hB; simp [go_sem]
  have hw : Below w.heap.size w B := by subst hB; (repeat (first | exact Below.refl _ _ | assumption | (refine bel_call ?_ (by assumption)) | (refine bel_alloc ?_ _) | (refine Below.drew ?_) | (refine bel_drewN ?_ _) | (refine Below.setCell ?_ (by first | exact Nat.le_refl _ | assumption | (simp; done) | (simp; omega)) _)))
  have hs : B.heap.size = w.heap.size + 2 := by subst hB; simp
  have HS := Lib.hid hs
  have HW := Lib.hid hw
  clear hw hs
  have rule : ∀ (b : Nat), b < w.heap.size + 2 → ∀ (W : World), Below B.heap.size B W → ∀ o, W.cell? ⟨b, o, none⟩ = B.cell? ⟨b, o, none⟩ := fun b hb W h o => h.cell (p := ⟨b, o, none⟩) (by rw [HS.out]; exact hb)
  have r0 := rule w.heap.size (by omega)
  have r1 := rule (w.heap.size + 1) (by omega)
  clear rule
  go_enter Try.func5, Try.ntmps5
  go_upto_region 1 with fail
  rw [← hB]
  clear hB
  go_cut [5] (fun p wx => Four B (addEdges (g0 0) (g1 0)) (addEdges (g0 1) (g1 1)) (addEdges (g0 2) (g1 2)) (addEdges (g0 3) (g1 3)) p wx)
  case first =>
    go_region_held3 (fun w' => Below B.heap.size B w') (((repeat (first | exact Below.refl _ _ | assumption | (refine bel_call ?_ (by assumption)) | (refine bel_alloc ?_ _) | (refine Below.drew ?_) | (refine bel_drewN ?_ _) | (refine Below.setCell ?_ (by first | exact Nat.le_refl _ | assumption | (simp; done) | (simp; omega)) _))))) (first | (go_at_call 16; refine (toEdges_l _ _ _ _ _).mono ?_; rintro e w' ⟨rfl, hb⟩; obtain ⟨hc, hf⟩ := bcell hb; (try (have hge := Nat.le_trans (show B.heap.size ≤ _ from (by first | exact Nat.le_refl _ | assumption | exact Below.size (by assumption) | (simp; omega))) hb.size)); (try (have hq := Nat.lt_of_lt_of_le (by first | assumption | exact size_lt_alloc _ _) hb.size))) | (go_at_call 20; refine (edgesIn_s _ _ _ _ _ _ _ _ _).mono ?_; rintro e w' ⟨rfl, hb⟩; obtain ⟨hc, hf⟩ := bcell hb; (try (have hge := Nat.le_trans (show B.heap.size ≤ _ from (by first | exact Nat.le_refl _ | assumption | exact Below.size (by assumption) | (simp; omega))) hb.size)); (try (have hq := Nat.lt_of_lt_of_le (by first | assumption | exact size_lt_alloc _ _) hb.size))))
    all_goals (go_wp2_with fail; go_meet)
    all_goals (refine ⟨_, rfl, ?_, ?_, ?_, ?_, ?_, by assumption⟩ <;> first | (simp; done) | (simp; omega) | (simp [go_sem, *]; done) | (simp [go_sem]; omega))
  case rest =>
    obtain ⟨k, rfl, hk, c0, c1, c2, c3, hbel⟩ := hcut
    have hsz := hbel.size
    rw [HS.out] at hsz
    have q0 : ∀ (W : World), Below wc.heap.size wc W → ∀ o, W.cell? ⟨w.heap.size, o, none⟩ = B.cell? ⟨w.heap.size, o, none⟩ := fun W h o => (h.cell (p := ⟨w.heap.size, o, none⟩) (by simp; omega)).trans (r0 wc hbel o)
    have q1 : ∀ (W : World), Below wc.heap.size wc W → ∀ o, W.cell? ⟨w.heap.size + 1, o, none⟩ = B.cell? ⟨w.heap.size + 1, o, none⟩ := fun W h o => (h.cell (p := ⟨w.heap.size + 1, o, none⟩) (by simp; omega)).trans (r1 wc hbel o)
    have p0 := q0 wc (Below.refl _ _)
    have p1 := q1 wc (Below.refl _ _)
    have HBW := Lib.hid (bel_call HW.out hbel)
    clear r0 r1 hbel
    go_upto_region 2 with fail
    go_cut [6] (fun p wx => Four wc (addEdges (g0 0) (g1 0)) (addEdges (g0 1) (g1 1)) (addEdges (g0 2) (g1 2)) (addEdges (g0 3) (g1 3)) p wx)
    case first =>
      go_region_held3 (fun w' => Below wc.heap.size wc w') (((repeat (first | exact Below.refl _ _ | assumption | (refine bel_call ?_ (by assumption)) | (refine bel_alloc ?_ _) | (refine Below.drew ?_) | (refine bel_drewN ?_ _) | (refine Below.setCell ?_ (by first | exact Nat.le_refl _ | assumption | (simp; done) | (simp; omega)) _))))) (first | (go_at_call 16; refine (toEdges_l _ _ _ _ _).mono ?_; rintro e w' ⟨rfl, hb⟩; obtain ⟨hc, hf⟩ := bcell hb; (try (have hge := Nat.le_trans (show wc.heap.size ≤ _ from (by first | exact Nat.le_refl _ | assumption | exact Below.size (by assumption) | (simp; omega))) hb.size)); (try (have hq := Nat.lt_of_lt_of_le (by first | assumption | exact size_lt_alloc _ _) hb.size))) | (go_at_call 21; refine (edgesIn_i _ _ _ _ _ _ _ _ _).mono ?_; rintro e w' ⟨rfl, hb⟩; obtain ⟨hc, hf⟩ := bcell hb; (try (have hge := Nat.le_trans (show wc.heap.size ≤ _ from (by first | exact Nat.le_refl _ | assumption | exact Below.size (by assumption) | (simp; omega))) hb.size)); (try (have hq := Nat.lt_of_lt_of_le (by first | assumption | exact size_lt_alloc _ _) hb.size))))
      all_goals (go_wp2_with fail; go_meet)
      all_goals (refine ⟨_, rfl, ?_, ?_, ?_, ?_, ?_, by assumption⟩ <;> first | (simp; done) | (simp; omega) | (simp [go_sem, *]; done) | (simp [go_sem]; omega))
    case rest =>
      obtain ⟨k', rfl, hk', d0, d1, d2, d3, hbel'⟩ := hcut
      have x0 := (hbel'.cell (p := ⟨k, 0, none⟩) hk).trans c0
      have x1 := (hbel'.cell (p := ⟨k, 1, none⟩) hk).trans c1
      have x2 := (hbel'.cell (p := ⟨k, 2, none⟩) hk).trans c2
      have x3 := (hbel'.cell (p := ⟨k, 3, none⟩) hk).trans c3
      have HB2 := Lib.hid (bel_call HBW.out hbel')
      clear q0 q1 p0 p1 c0 c1 c2 c3 hbel'
      go_wp2_with (go_at_call 22; refine (eqEdges_l _ _ _ _ _).mono ?_; rintro e w' ⟨rfl, hb⟩)
      go_ret
      exact ⟨rfl, bel_call HB2.out hb⟩
set_option maxRecDepth 100000 in
theorem FnExactEdgesIn_lifted (os : Os) (started : os.Started) (H : Type) (enc : TypeId × Value → H) :
    ReturnsInHanded {} Try.checked os 5 .any (Rows.fnExactEdgesInSpec.pre6 enc Try.prog Try.f5 Rows.fnExactEdgesInRow.domain false) (Rows.fnExactEdgesInSpec.post enc Try.prog Try.f5 false true false false) := by
  refine returnsInHanded_of_change (C := Try.checked) own started (by kernel_rfl) Try.func5
    (ChangeSpec.witness6 (enc := enc) (C := Try.checked) false ⟨#[], #[.agg #[.int .i64 0, .int .i64 0, .int .i64 0, .int .i64 0], .agg #[.int .i64 0, .int .i64 0, .int .i64 0, .int .i64 0]], []⟩ 8 (by kernel_rfl) (by kernel_rfl) (by kernel_rfl) (by kernel_rfl)) ?_
  intro W base args ds gs before hval0 hW hcnd _
  have hval : ∀ (j : Nat) t v, Try.f5.params[j]? = some t → args[j]? = some v → Value.okWide Try.prog W .any base t v := hval0
  have hW' := hW
  obtain ⟨p, q, hA0, hV, rfl, hfz, hnd⟩ := hW
  have hA : DataW.TrodAll enc Try.prog W 0 (fun _ => true) true Try.f5.params.toList args.toList ds p := hA0
  rw [Try.params5] at hA hval
  obtain ⟨v0, vs0, d0, ds0, p0, q0, hargs, rfl, rfl, h0, r0⟩ := trodAll_cons hA
  obtain ⟨v1, vs1, d1, ds1, p1, q1, rfl, rfl, rfl, h1, r1⟩ := trodAll_cons r0
  obtain ⟨rfl, rfl, rfl⟩ := trodAll_nil r1
  obtain rfl : args = #[v0, v1] := by cases args; simp_all
  obtain ⟨rfl, rfl⟩ := trodVars_none hV
  have k0 := h0
  have lt0 : ∀ x ∈ p0, x.block < W.heap.size := by obtain ⟨m, hm⟩ := k0; exact DataW.trod_lt m _ _ _ hm
  have k1 := h1
  have lt1 : ∀ x ∈ p1, x.block < W.heap.size := by obtain ⟨m, hm⟩ := k1; exact DataW.trod_lt m _ _ _ hm
  obtain ⟨g0, q0, rfl, w0⟩ := open_leaves (ts := tsEdges) [true, true, true, true] Try.underlying23 (by kernel_rfl) (by kernel_rfl) (by kernel_rfl) (hval 0 23 v0 rfl rfl)
  obtain ⟨g1, q1, rfl, w1⟩ := open_leaves (ts := tsEdges) [true, true, true, true] Try.underlying23 (by kernel_rfl) (by kernel_rfl) (by kernel_rfl) (hval 1 23 v1 rfl rfl)
  clear hA0 hval0
  refine (law_FnExactEdgesIn g0 w0 g1 w1 W).mono fun e W' ⟨he, bel⟩ => ?_
  subst he
  exact ⟨_, rfl, _, _, _, [], _, [], hW', trodAll_mk1 (shut_bool Try.underlying4 _), (trodAll_cons_mk (Below.trod laidOut (by kernel_rfl) (of_decide_eq_true (by kernel_rfl)) k0 bel lt0) (trodAll_cons_mk (Below.trod laidOut (by kernel_rfl) (of_decide_eq_true (by kernel_rfl)) k1 bel lt1) trodAll_mk0)), rfl, bel.frame _, fun h => by cases h⟩

/-- The law 'FnExactEdgesIn' returns true for every input, and each argument reads afterwards as it read before. -/
theorem FnExactEdgesIn_holds : Rows.FnExactEdgesInSaid :=
  OpenClaim.holds_of_wide 5 Try.f5 rfl rfl rfl rfl rfl rfl rfl ⟨rfl, rfl, rfl, rfl, rfl⟩ rfl rfl rfl rfl rfl (by kernel_rfl) Try.func5 (by kernel_rfl)
    (of_decide_eq_true (by kernel_rfl)) (by unfold Func.isWrapper; first | (rw [if_pos (by decide +kernel)]; kernel_rfl) | (rw [if_neg (by decide +kernel)]; exact ⟨rfl, rfl⟩))
    (fun os started H enc _ => FnExactEdgesIn_lifted os started H enc)
#print axioms FnExactEdgesIn_holds

end Go.Proofs.Ytljaagjdaolonaa
