/- The law FnAxes returns true for every input: the other way of reading turns a row about, and never a column; what is mirrored twice is where it was. Conditions: none. -/
import Derived.Test.YtcmanaklojomeaaDrawTop2
import Derived.Test.YtcmanaklojomeaaLw
import Derived.Test.YtcmanaklojomeaaLawM
import Derived.Test.YtcmanaklojomeaaStyAx
import Derived.Test.YtcmanaklojomeaaStyAl
import Derived.Test.YtcmanaklojomeaaStyCb
import Derived.Deep.RegionHeld3
namespace Go.Proofs.Ytcmanaklojomeaa
open Go.ChangeShapes Go.WideShapes Go.ChangeAt Go.RowKit Go.Deep
set_option linter.unusedVariables false
set_option maxRecDepth 20000
theorem zsz (g : Nat → Int) (q : Nat → Bool) : (Value.agg (syA (fun _ => 0) (fun _ => false))).cells.size = (syA g q).size := by
  rw [syA_size]
  exact syA_size _ _
theorem ne_bne {a b : Int} (h : a ≠ b) : (a != b) = true := by simpa using h
set_option maxHeartbeats 6400000 in
theorem law_FnAxes (a : Option Addr) (len cap : Nat) (zs : List Int) (w : World) (h : IsRow .u8 w a len cap zs) :
    Calls Try.prog 5 #[.slice a len cap] w fun e w' => e = .returned (.bool true) ∧ Below w.heap.size w w' := by
  obtain ⟨l, rfl, hr⟩ := RdB.of_row h
  clear h
  by_cases hle : l.length ≤ 1048576
  · have HR := Lib.hid hr
    have hbig : ¬ (1048576 : Int) < ↑l.length := by omega
    clear hr
    go_enter Try.func5, Try.ntmps5
    go_wp2_with ((go_at_call 8; refine (big_l _ _ _ _).mono ?_; rintro e w' ⟨rfl, rfl⟩))
    refine (drawMainSides_s w a cap l hle HR.out).mono ?_
    rintro e w1 ⟨g, q, t, hg, rfl, hb⟩
    have HL := Lib.hid (Lw.start hb)
    clear hb hg
    obtain ⟨A, hA⟩ : ∃ A, A = firstSide (isRowB (g 0)) (mainBackB (g 0) t) := ⟨_, rfl⟩
    obtain ⟨B, hB⟩ : ∃ B, B = lastSide (isRowB (g 0)) (mainBackB (g 0) t) := ⟨_, rfl⟩
    obtain ⟨C, hC⟩ : ∃ C, C = firstSide (isRowB (g 0)) (mainBackB (g 0) (!t)) := ⟨_, rfl⟩
    obtain ⟨D, hD⟩ : ∃ D, D = lastSide (isRowB (g 0)) (mainBackB (g 0) (!t)) := ⟨_, rfl⟩
    obtain ⟨X, hX⟩ : ∃ X, X = firstSide (!isRowB (g 0)) (crossBackB (g 0) (g 1) t) := ⟨_, rfl⟩
    obtain ⟨Y, hY⟩ : ∃ Y, Y = lastSide (!isRowB (g 0)) (crossBackB (g 0) (g 1) t) := ⟨_, rfl⟩
    obtain ⟨r, hr⟩ : ∃ r, r = isRowB (g 0) := ⟨_, rfl⟩
    have HX : Hid ((r = true ∧ A = D ∧ B = C) ∨ (r = false ∧ A = C ∧ B = D)) := Lib.hid (by rw [hr, hA, hB, hC, hD]; exact axes_turn (g 0) t)
    have N1 : Hid (A ≠ B) := Lib.hid (by rw [hA, hB]; exact sides_ne _ _)
    have N2 : Hid (X ≠ Y) := Lib.hid (by rw [hX, hY]; exact sides_ne _ _)
    have HA := Lib.hid hA
    have HB := Lib.hid hB
    have HC := Lib.hid hC
    have HD := Lib.hid hD
    have HXX := Lib.hid hX
    have HYY := Lib.hid hY
    have HRw := Lib.hid hr
    clear hA hB hC hD hX hY hr
    go_upto_region 4 with (first | (refine Lw.wp_alloc HL.out rfl 40 rfl (.agg (syA (fun _ => 0) (fun _ => false))) (by kernel_rfl) ?_; intro b W' hL; replace HL := Lib.hid hL; clear hL) | (refine Lw.wp_put HL.out rfl 40 _ _ rfl _ rfl rfl (by rfl) (by first | exact one2 _ _ | exact one4 _ _ _ _ | exact syA_one _ _ | exact sdA_one _ _) (by kernel_rfl) ?_; intro W' hL; replace HL := Lib.hid hL; clear hL) | (refine Lw.wp_put HL.out.swap rfl 40 _ _ rfl _ rfl rfl (by rfl) (by first | exact one2 _ _ | exact one4 _ _ _ _ | exact syA_one _ _ | exact sdA_one _ _) (by kernel_rfl) ?_; intro W' hL; replace HL := Lib.hid hL; clear hL) | (refine Lw.wp_load HL.out rfl 40 _ rfl _ rfl _ _ (by (first | exact List.mem_cons_self | exact List.mem_cons_of_mem _ List.mem_cons_self | exact List.mem_cons_of_mem _ (List.mem_cons_of_mem _ List.mem_cons_self))) _ Try.underlying40 rfl (by kernel_rfl) ?_))
    obtain ⟨bs, hbs⟩ : ∃ x, x = b := ⟨_, rfl⟩
    subst hbs
    go_wp2_with (refine Lw.wp_load HL.out rfl 40 _ rfl _ rfl _ _ (by (first | exact List.mem_cons_self | exact List.mem_cons_of_mem _ List.mem_cons_self | exact List.mem_cons_of_mem _ (List.mem_cons_of_mem _ List.mem_cons_self))) _ Try.underlying40 rfl (by kernel_rfl) ?_)
    refine (mainSides_i g q t _).mono ?_
    rintro e w' ⟨rfl, hb⟩
    replace HL := Lib.hid (HL.out.called hb)
    clear hb
    rw [← HA.out, ← HB.out]
    go_wp2_with (refine Lw.wp_load HL.out rfl 40 _ rfl _ rfl _ _ (by (first | exact List.mem_cons_self | exact List.mem_cons_of_mem _ List.mem_cons_self | exact List.mem_cons_of_mem _ (List.mem_cons_of_mem _ List.mem_cons_self))) _ Try.underlying40 rfl (by kernel_rfl) ?_)
    refine (mainSides_i g q (!t) _).mono ?_
    rintro e w' ⟨rfl, hb⟩
    replace HL := Lib.hid (HL.out.called hb)
    clear hb
    rw [← HC.out, ← HD.out]
    go_wp2_with (refine Lw.wp_load HL.out rfl 40 _ rfl _ rfl _ _ (by (first | exact List.mem_cons_self | exact List.mem_cons_of_mem _ List.mem_cons_self | exact List.mem_cons_of_mem _ (List.mem_cons_of_mem _ List.mem_cons_self))) _ Try.underlying40 rfl (by kernel_rfl) ?_)
    refine (crossSides_i g q t _).mono ?_
    rintro e w' ⟨rfl, hb⟩
    replace HL := Lib.hid (HL.out.called hb)
    clear hb
    rw [← HXX.out, ← HYY.out]
    go_wp2_with (refine Lw.wp_load HL.out rfl 40 _ rfl _ rfl _ _ (by (first | exact List.mem_cons_self | exact List.mem_cons_of_mem _ List.mem_cons_self | exact List.mem_cons_of_mem _ (List.mem_cons_of_mem _ List.mem_cons_self))) _ Try.underlying40 rfl (by kernel_rfl) ?_)
    refine (crossSides_s g q t _).mono ?_
    rintro e w' ⟨rfl, hb⟩
    replace HL := Lib.hid (HL.out.called hb)
    clear hb
    rw [← HXX.out, ← HYY.out]
    go_wp2_with (refine Lw.wp_load HL.out rfl 40 _ rfl _ rfl _ _ (by (first | exact List.mem_cons_self | exact List.mem_cons_of_mem _ List.mem_cons_self | exact List.mem_cons_of_mem _ (List.mem_cons_of_mem _ List.mem_cons_self))) _ Try.underlying40 rfl (by kernel_rfl) ?_)
    refine (isRow_i g q _).mono ?_
    rintro e w' ⟨rfl, hb⟩
    replace HL := Lib.hid (HL.out.called hb)
    clear hb
    rw [← HRw.out]
    go_wp2_with fail
    refine (drawMirrored_s _ a cap l hle (HR.out.below HL.out.bel)).mono ?_
    rintro e w2 ⟨inner, pos, size, back, x0, x1, y0, y1, z0, z1, rfl, hb⟩
    replace HL := Lib.hid (HL.out.called hb)
    have HM0 := Lib.hid (mirrored_in x0 x1 y0 y1 z0 z1 back)
    clear hb x0 x1 y0 y1 z0 z1
    go_wp2_with fail
    refine (mirrored_i inner pos size back _).mono ?_
    rintro e _ ⟨rfl, rfl⟩
    obtain ⟨M, hM⟩ : ∃ M, M = mirrored inner pos size back := ⟨_, rfl⟩
    have HM : Hid (mirrored inner M size back = pos) := Lib.hid (by rw [hM]; exact HM0.out)
    have HM2 : Hid (mirrored 100 10 20 true = 70) := Lib.hid (by simp [mirrored, wrap64])
    rw [← hM]
    clear hM HM0
    go_wp2_with fail
    refine (drawAlignOf_s _ a cap l hle (HR.out.below HL.out.bel)).mono ?_
    rintro e w3 ⟨g1, q1, g2, q2, hg1, hg2, rfl, hb⟩
    replace HL := Lib.hid (HL.out.called hb)
    clear hb hg1 hg2
    go_upto_region 12 with (first | ((fail_if_success (have hh := bu)); refine Lw.wp_alloc HL.out rfl 40 rfl (.agg (syA (fun _ => 0) (fun _ => false))) (by kernel_rfl) ?_; intro bu W' hL; replace HL := Lib.hid hL; clear hL) | (refine Lw.wp_alloc HL.out rfl 40 rfl (.agg (syA (fun _ => 0) (fun _ => false))) (by kernel_rfl) ?_; intro b W' hL; replace HL := Lib.hid hL; clear hL) | (refine Lw.wp_put HL.out.swap rfl 40 _ _ rfl (syA g1 q1) rfl rfl (zsz _ _) (syA_one _ _) (syA_info_v _ _) ?_; intro W' hL; replace HL := Lib.hid hL; clear hL) | (refine Lw.wp_put HL.out.swap rfl 40 _ _ rfl (syA g2 q2) rfl rfl (zsz _ _) (syA_one _ _) (syA_info_v _ _) ?_; intro W' hL; replace HL := Lib.hid hL; clear hL))
    have HY : Hid (∀ W, Below W'.heap.size W' W → W.rangeAt bs 0 (syA g q).toList) := Lib.hid (fun W h j v hj => by
      rw [Nat.zero_add, (HL.out.called h).cell (List.mem_cons_of_mem _ (List.mem_cons_of_mem _ List.mem_cons_self))]
      simpa using hj)
    have HY1 : Hid (∀ W, Below W'.heap.size W' W → W.rangeAt bu 0 (syA g1 q1).toList) := Lib.hid (fun W h j v hj => by
      rw [Nat.zero_add, (HL.out.called h).cell (List.mem_cons_of_mem _ List.mem_cons_self)]
      simpa using hj)
    have HY2 : Hid (∀ W, Below W'.heap.size W' W → W.rangeAt b 0 (syA g2 q2).toList) := Lib.hid (fun W h j v hj => by
      rw [Nat.zero_add, (HL.out.called h).cell (List.mem_cons_self)]
      simpa using hj)
    refine wp_region_held_drew (S := (fun w' => Below W'.heap.size W' w')) (by kernel_rfl) ?_ (fun hHeld => ?_)
    · (repeat (first | exact Below.refl _ _ | assumption | (refine bel_call ?_ (by assumption)) | (refine bel_alloc ?_ _) | (refine Below.drew ?_) | (refine bel_drewN ?_ _)))
    refine' wpAnyH_take (i := 0) (oi := ?oi1) (v := ?v1) ?hi1 ?hs1 ?hf1 ?hr1 ?hQ1 ?hy1 ?hS1 ?rest1
    case hi1 => (simp only [List.getElem?_toArray, List.getElem?_cons_zero]; rfl)
    case hs1 => kernel_rfl
    case hf1 => kernel_rfl
    case hr1 => kernel_rfl
    case hQ1 => exact fun _ _ _ h => h
    case hS1 => assumption
    case hy1 => (refine Or.inl ⟨by rfl, ?_⟩; intro w hSw; (try dsimp only at hSw); go_simp; all_goals with_reducible rfl)
    (try simp only [Act.put, List.setIfInBounds_toArray, List.set_cons_zero, List.set_cons_succ])
    refine' wpAnyH_take (i := 1) (oi := ?oi2) (v := ?v2) ?hi2 ?hs2 ?hf2 ?hr2 ?hQ2 ?hy2 ?hS2 ?rest2
    case hi2 => (simp only [List.getElem?_toArray, List.getElem?_cons_succ, List.getElem?_cons_zero]; rfl)
    case hs2 => kernel_rfl
    case hf2 => kernel_rfl
    case hr2 => kernel_rfl
    case hQ2 => exact fun _ _ _ h => h
    case hS2 => assumption
    case hy2 => (refine Or.inl ⟨by rfl, ?_⟩; intro w hSw; (try dsimp only at hSw); go_simp; all_goals with_reducible rfl)
    (try simp only [Act.put, List.setIfInBounds_toArray, List.set_cons_zero, List.set_cons_succ])
    refine' wpAnyH_take (i := 2) (oi := ?oi3) (v := ?v3) ?hi3 ?hs3 ?hf3 ?hr3 ?hQ3 ?hy3 ?hS3 ?rest3
    case hi3 => (simp only [List.getElem?_toArray, List.getElem?_cons_succ, List.getElem?_cons_zero]; rfl)
    case hs3 => kernel_rfl
    case hf3 => kernel_rfl
    case hr3 => kernel_rfl
    case hQ3 => exact fun _ _ _ h => h
    case hS3 => assumption
    case hy3 => (refine Or.inl ⟨by rfl, ?_⟩; intro w hSw; (try dsimp only at hSw); go_simp; all_goals with_reducible rfl)
    (try simp only [Act.put, List.setIfInBounds_toArray, List.set_cons_zero, List.set_cons_succ])
    refine' wpAnyH_take (i := 3) (oi := ?oi4) (v := ?v4) ?hi4 ?hs4 ?hf4 ?hr4 ?hQ4 ?hy4 ?hS4 ?rest4
    case hi4 => (simp only [List.getElem?_toArray, List.getElem?_cons_succ, List.getElem?_cons_zero]; rfl)
    case hs4 => kernel_rfl
    case hf4 => kernel_rfl
    case hr4 => kernel_rfl
    case hQ4 => exact fun _ _ _ h => h
    case hS4 => assumption
    case hy4 => (refine Or.inl ⟨by rfl, ?_⟩; intro w hSw; (try dsimp only at hSw); go_simp; all_goals with_reducible rfl)
    (try simp only [Act.put, List.setIfInBounds_toArray, List.set_cons_zero, List.set_cons_succ])
    refine' wpAnyH_take (i := 4) (oi := ?oi5) (v := ?v5) ?hi5 ?hs5 ?hf5 ?hr5 ?hQ5 ?hy5 ?hS5 ?rest5
    case hi5 => (simp only [List.getElem?_toArray, List.getElem?_cons_succ, List.getElem?_cons_zero]; rfl)
    case hs5 => kernel_rfl
    case hf5 => kernel_rfl
    case hr5 => kernel_rfl
    case hQ5 => exact fun _ _ _ h => h
    case hS5 => assumption
    case hy5 => (refine Or.inl ⟨by rfl, ?_⟩; intro w hSw; (try dsimp only at hSw); go_simp; all_goals with_reducible rfl)
    (try simp only [Act.put, List.setIfInBounds_toArray, List.set_cons_zero, List.set_cons_succ])
    refine' wpAnyH_take (i := 5) (oi := ?oi6) (v := ?v6) ?hi6 ?hs6 ?hf6 ?hr6 ?hQ6 ?hy6 ?hS6 ?rest6
    case hi6 => (simp only [List.getElem?_toArray, List.getElem?_cons_succ, List.getElem?_cons_zero]; rfl)
    case hs6 => kernel_rfl
    case hf6 => kernel_rfl
    case hr6 => kernel_rfl
    case hQ6 => exact fun _ _ _ h => h
    case hS6 => assumption
    case hy6 => (refine Or.inl ⟨by rfl, ?_⟩; intro w hSw; (try dsimp only at hSw); go_simp; all_goals with_reducible rfl)
    (try simp only [Act.put, List.setIfInBounds_toArray, List.set_cons_zero, List.set_cons_succ])
    refine' wpAnyH_take (i := 6) (oi := ?oi7) (v := ?v7) ?hi7 ?hs7 ?hf7 ?hr7 ?hQ7 ?hy7 ?hS7 ?rest7
    case hi7 => (simp only [List.getElem?_toArray, List.getElem?_cons_succ, List.getElem?_cons_zero]; rfl)
    case hs7 => kernel_rfl
    case hf7 => kernel_rfl
    case hr7 => kernel_rfl
    case hQ7 => exact fun _ _ _ h => h
    case hS7 => assumption
    case hy7 => (refine Or.inl ⟨by rfl, ?_⟩; intro w hSw; (try dsimp only at hSw); go_simp; all_goals with_reducible rfl)
    (try simp only [Act.put, List.setIfInBounds_toArray, List.set_cons_zero, List.set_cons_succ])
    refine' wpAnyH_take (i := 7) (oi := ?oi8) (v := ?v8) ?hi8 ?hs8 ?hf8 ?hr8 ?hQ8 ?hy8 ?hS8 ?rest8
    case hi8 => (simp only [List.getElem?_toArray, List.getElem?_cons_succ, List.getElem?_cons_zero]; rfl)
    case hs8 => kernel_rfl
    case hf8 => kernel_rfl
    case hr8 => kernel_rfl
    case hQ8 => exact fun _ _ _ h => h
    case hS8 => assumption
    case hy8 => (refine Or.inl ⟨by rfl, ?_⟩; intro w hSw; (try dsimp only at hSw); go_simp; all_goals with_reducible rfl)
    (try simp only [Act.put, List.setIfInBounds_toArray, List.set_cons_zero, List.set_cons_succ])
    refine' wpAnyH_take (i := 8) (oi := ?oi9) (v := ?v9) ?hi9 ?hs9 ?hf9 ?hr9 ?hQ9 ?hy9 ?hS9 ?rest9
    case hi9 => (simp only [List.getElem?_toArray, List.getElem?_cons_succ, List.getElem?_cons_zero]; rfl)
    case hs9 => kernel_rfl
    case hf9 => kernel_rfl
    case hr9 => kernel_rfl
    case hQ9 => exact fun _ _ _ h => h
    case hS9 => assumption
    case hy9 => (refine Or.inl ⟨by rfl, ?_⟩; intro w hSw; (try dsimp only at hSw); go_simp; all_goals with_reducible rfl)
    (try simp only [Act.put, List.setIfInBounds_toArray, List.set_cons_zero, List.set_cons_succ])
    refine' wpAnyH_take (i := 9) (oi := ?oi10) (v := ?v10) ?hi10 ?hs10 ?hf10 ?hr10 ?hQ10 ?hy10 ?hS10 ?rest10
    case hi10 => (simp only [List.getElem?_toArray, List.getElem?_cons_succ, List.getElem?_cons_zero]; rfl)
    case hs10 => kernel_rfl
    case hf10 => kernel_rfl
    case hr10 => kernel_rfl
    case hQ10 => exact fun _ _ _ h => h
    case hS10 => assumption
    case hy10 => (refine Or.inl ⟨by rfl, ?_⟩; intro w hSw; (try dsimp only at hSw); go_simp; all_goals with_reducible rfl)
    (try simp only [Act.put, List.setIfInBounds_toArray, List.set_cons_zero, List.set_cons_succ])
    refine' wpAnyH_take (i := 10) (oi := ?oi11) (v := .agg (syA g q)) ?hi11 ?hs11 ?hf11 ?hr11 ?hQ11 ?hy11 ?hS11 ?rest11
    case hi11 => (simp only [List.getElem?_toArray, List.getElem?_cons_succ, List.getElem?_cons_zero]; rfl)
    case hs11 => kernel_rfl
    case hf11 => kernel_rfl
    case hr11 => kernel_rfl
    case hQ11 => exact fun _ _ _ h => h
    case hS11 => assumption
    case hy11 => exact yieldsIf_load_mid (by rfl) _ _ rfl _ 0 rfl ((syA g q)).toList _ (fun w hSw => HY.out w hSw) Try.underlying40 rfl (by rw [Array.length_toList]; exact syA_info_v _ _)
    (try simp only [Act.put, List.setIfInBounds_toArray, List.set_cons_zero, List.set_cons_succ])
    refine wpAnyH_ready (rs := [11]) (by kernel_rfl) (by simp) ?_
    refine' AllReadyH.cons (o := ?oi12) ?hi12 (fun K hK => ?step12) AllReadyH.nil
    case hi12 => (simp only [List.getElem?_toArray, List.getElem?_cons_succ, List.getElem?_cons_zero]; rfl)
    rw [if_pos (by rfl)]
    go_simp
    (go_at_call 33; refine (isRow_s g q _).mono ?_; rintro e w' ⟨rfl, hb⟩; rw [← HRw.out])
    all_goals (try go_wp2_with fail)
    refine hK.out _ _ ?_ (fun hHeld => ?_)
    · (repeat (first | exact Below.refl _ _ | assumption | (refine bel_call ?_ (by assumption)) | (refine bel_alloc ?_ _) | (refine Below.drew ?_) | (refine bel_drewN ?_ _)))
    clear hK K
    (try simp only [Act.put, List.setIfInBounds_toArray, List.set_cons_zero, List.set_cons_succ])
    refine' wpAnyH_take (i := 12) (oi := ?oi13) (v := ?v13) ?hi13 ?hs13 ?hf13 ?hr13 ?hQ13 ?hy13 ?hS13 ?rest13
    case hi13 => (simp only [List.getElem?_toArray, List.getElem?_cons_succ, List.getElem?_cons_zero]; rfl)
    case hs13 => kernel_rfl
    case hf13 => kernel_rfl
    case hr13 => kernel_rfl
    case hQ13 => exact fun _ _ _ h => h
    case hS13 => assumption
    case hy13 => (refine Or.inl ⟨by rfl, ?_⟩; intro w hSw; (try dsimp only at hSw); go_simp; all_goals with_reducible rfl)
    (try simp only [Act.put, List.setIfInBounds_toArray, List.set_cons_zero, List.set_cons_succ])
    refine' wpAnyH_take (i := 13) (oi := ?oi14) (v := ?v14) ?hi14 ?hs14 ?hf14 ?hr14 ?hQ14 ?hy14 ?hS14 ?rest14
    case hi14 => (simp only [List.getElem?_toArray, List.getElem?_cons_succ, List.getElem?_cons_zero]; rfl)
    case hs14 => kernel_rfl
    case hf14 => kernel_rfl
    case hr14 => kernel_rfl
    case hQ14 => exact fun _ _ _ h => h
    case hS14 => assumption
    case hy14 => (refine Or.inl ⟨by rfl, ?_⟩; intro w hSw; (try dsimp only at hSw); go_simp; all_goals with_reducible rfl)
    (try simp only [Act.put, List.setIfInBounds_toArray, List.set_cons_zero, List.set_cons_succ])
    refine' wpAnyH_take (i := 14) (oi := ?oi15) (v := ?v15) ?hi15 ?hs15 ?hf15 ?hr15 ?hQ15 ?hy15 ?hS15 ?rest15
    case hi15 => (simp only [List.getElem?_toArray, List.getElem?_cons_succ, List.getElem?_cons_zero]; rfl)
    case hs15 => kernel_rfl
    case hf15 => kernel_rfl
    case hr15 => kernel_rfl
    case hQ15 => exact fun _ _ _ h => h
    case hS15 => assumption
    case hy15 => (refine Or.inl ⟨by rfl, ?_⟩; intro w hSw; (try dsimp only at hSw); go_simp; all_goals with_reducible rfl)
    (try simp only [Act.put, List.setIfInBounds_toArray, List.set_cons_zero, List.set_cons_succ])
    refine' wpAnyH_take (i := 15) (oi := ?oi16) (v := .agg (syA g q)) ?hi16 ?hs16 ?hf16 ?hr16 ?hQ16 ?hy16 ?hS16 ?rest16
    case hi16 => (simp only [List.getElem?_toArray, List.getElem?_cons_succ, List.getElem?_cons_zero]; rfl)
    case hs16 => kernel_rfl
    case hf16 => kernel_rfl
    case hr16 => kernel_rfl
    case hQ16 => exact fun _ _ _ h => h
    case hS16 => assumption
    case hy16 => exact yieldsIf_load_mid (by rfl) _ _ rfl _ 0 rfl ((syA g q)).toList _ (fun w hSw => HY.out w hSw) Try.underlying40 rfl (by rw [Array.length_toList]; exact syA_info_v _ _)
    (try simp only [Act.put, List.setIfInBounds_toArray, List.set_cons_zero, List.set_cons_succ])
    refine' wpAnyH_take (i := 16) (oi := ?oi17) (v := ?v17) ?hi17 ?hs17 ?hf17 ?hr17 ?hQ17 ?hy17 ?hS17 ?rest17
    case hi17 => (simp only [List.getElem?_toArray, List.getElem?_cons_succ, List.getElem?_cons_zero]; rfl)
    case hs17 => kernel_rfl
    case hf17 => kernel_rfl
    case hr17 => kernel_rfl
    case hQ17 => exact fun _ _ _ h => h
    case hS17 => assumption
    case hy17 => (refine Or.inl ⟨by rfl, ?_⟩; intro w hSw; (try dsimp only at hSw); go_simp; all_goals with_reducible rfl)
    (try simp only [Act.put, List.setIfInBounds_toArray, List.set_cons_zero, List.set_cons_succ])
    refine' wpAnyH_take (i := 18) (oi := ?oi18) (v := .agg (syA g q)) ?hi18 ?hs18 ?hf18 ?hr18 ?hQ18 ?hy18 ?hS18 ?rest18
    case hi18 => (simp only [List.getElem?_toArray, List.getElem?_cons_succ, List.getElem?_cons_zero]; rfl)
    case hs18 => kernel_rfl
    case hf18 => kernel_rfl
    case hr18 => kernel_rfl
    case hQ18 => exact fun _ _ _ h => h
    case hS18 => assumption
    case hy18 => exact yieldsIf_load_mid (by rfl) _ _ rfl _ 0 rfl ((syA g q)).toList _ (fun w hSw => HY.out w hSw) Try.underlying40 rfl (by rw [Array.length_toList]; exact syA_info_v _ _)
    (try simp only [Act.put, List.setIfInBounds_toArray, List.set_cons_zero, List.set_cons_succ])
    refine' wpAnyH_take (i := 19) (oi := ?oi19) (v := ?v19) ?hi19 ?hs19 ?hf19 ?hr19 ?hQ19 ?hy19 ?hS19 ?rest19
    case hi19 => (simp only [List.getElem?_toArray, List.getElem?_cons_succ, List.getElem?_cons_zero]; rfl)
    case hs19 => kernel_rfl
    case hf19 => kernel_rfl
    case hr19 => kernel_rfl
    case hQ19 => exact fun _ _ _ h => h
    case hS19 => assumption
    case hy19 => (refine Or.inl ⟨by rfl, ?_⟩; intro w hSw; (try dsimp only at hSw); go_simp; all_goals with_reducible rfl)
    (try simp only [Act.put, List.setIfInBounds_toArray, List.set_cons_zero, List.set_cons_succ])
    refine wpAnyH_ready (rs := [17]) (by kernel_rfl) (by simp) ?_
    refine' AllReadyH.cons (o := ?oi20) ?hi20 (fun K hK => ?step20) AllReadyH.nil
    case hi20 => (simp only [List.getElem?_toArray, List.getElem?_cons_succ, List.getElem?_cons_zero]; rfl)
    rw [if_pos (by rfl)]
    go_simp
    (go_at_call 34; refine (mainBack_i g q t _).mono ?_; rintro e w' ⟨rfl, hb⟩)
    all_goals (try go_wp2_with fail)
    refine hK.out _ _ ?_ (fun hHeld => ?_)
    · (repeat (first | exact Below.refl _ _ | assumption | (refine bel_call ?_ (by assumption)) | (refine bel_alloc ?_ _) | (refine Below.drew ?_) | (refine bel_drewN ?_ _)))
    clear hK K
    (try simp only [Act.put, List.setIfInBounds_toArray, List.set_cons_zero, List.set_cons_succ])
    refine wpAnyH_ready (rs := [20]) (by kernel_rfl) (by simp) ?_
    refine' AllReadyH.cons (o := ?oi21) ?hi21 (fun K hK => ?step21) AllReadyH.nil
    case hi21 => (simp only [List.getElem?_toArray, List.getElem?_cons_succ, List.getElem?_cons_zero]; rfl)
    rw [if_pos (by rfl)]
    go_simp
    (go_at_call 35; refine (mainBack_s g q t _).mono ?_; rintro e w' ⟨rfl, hb⟩)
    all_goals (try go_wp2_with fail)
    refine hK.out _ _ ?_ (fun hHeld => ?_)
    · (repeat (first | exact Below.refl _ _ | assumption | (refine bel_call ?_ (by assumption)) | (refine bel_alloc ?_ _) | (refine Below.drew ?_) | (refine bel_drewN ?_ _)))
    clear hK K
    (try simp only [Act.put, List.setIfInBounds_toArray, List.set_cons_zero, List.set_cons_succ])
    refine' wpAnyH_take (i := 21) (oi := ?oi22) (v := ?v22) ?hi22 ?hs22 ?hf22 ?hr22 ?hQ22 ?hy22 ?hS22 ?rest22
    case hi22 => (simp only [List.getElem?_toArray, List.getElem?_cons_succ, List.getElem?_cons_zero]; rfl)
    case hs22 => kernel_rfl
    case hf22 => kernel_rfl
    case hr22 => kernel_rfl
    case hQ22 => exact fun _ _ _ h => h
    case hS22 => assumption
    case hy22 => (refine Or.inl ⟨by rfl, ?_⟩; intro w hSw; (try dsimp only at hSw); go_simp; all_goals with_reducible rfl)
    (try simp only [Act.put, List.setIfInBounds_toArray, List.set_cons_zero, List.set_cons_succ])
    refine' wpAnyH_take (i := 22) (oi := ?oi23) (v := ?v23) ?hi23 ?hs23 ?hf23 ?hr23 ?hQ23 ?hy23 ?hS23 ?rest23
    case hi23 => (simp only [List.getElem?_toArray, List.getElem?_cons_succ, List.getElem?_cons_zero]; rfl)
    case hs23 => kernel_rfl
    case hf23 => kernel_rfl
    case hr23 => kernel_rfl
    case hQ23 => exact fun _ _ _ h => h
    case hS23 => assumption
    case hy23 => (refine Or.inl ⟨by rfl, ?_⟩; intro w hSw; (try dsimp only at hSw); go_simp; all_goals with_reducible rfl)
    (try simp only [Act.put, List.setIfInBounds_toArray, List.set_cons_zero, List.set_cons_succ])
    refine' wpAnyH_take (i := 23) (oi := ?oi24) (v := ?v24) ?hi24 ?hs24 ?hf24 ?hr24 ?hQ24 ?hy24 ?hS24 ?rest24
    case hi24 => (simp only [List.getElem?_toArray, List.getElem?_cons_succ, List.getElem?_cons_zero]; rfl)
    case hs24 => kernel_rfl
    case hf24 => kernel_rfl
    case hr24 => kernel_rfl
    case hQ24 => exact fun _ _ _ h => h
    case hS24 => assumption
    case hy24 => (refine Or.inl ⟨by rfl, ?_⟩; intro w hSw; (try dsimp only at hSw); go_simp; all_goals with_reducible rfl)
    (try simp only [Act.put, List.setIfInBounds_toArray, List.set_cons_zero, List.set_cons_succ])
    refine' wpAnyH_take (i := 24) (oi := ?oi25) (v := .agg (syA g q)) ?hi25 ?hs25 ?hf25 ?hr25 ?hQ25 ?hy25 ?hS25 ?rest25
    case hi25 => (simp only [List.getElem?_toArray, List.getElem?_cons_succ, List.getElem?_cons_zero]; rfl)
    case hs25 => kernel_rfl
    case hf25 => kernel_rfl
    case hr25 => kernel_rfl
    case hQ25 => exact fun _ _ _ h => h
    case hS25 => assumption
    case hy25 => exact yieldsIf_load_mid (by rfl) _ _ rfl _ 0 rfl ((syA g q)).toList _ (fun w hSw => HY.out w hSw) Try.underlying40 rfl (by rw [Array.length_toList]; exact syA_info_v _ _)
    (try simp only [Act.put, List.setIfInBounds_toArray, List.set_cons_zero, List.set_cons_succ])
    refine' wpAnyH_take (i := 25) (oi := ?oi26) (v := ?v26) ?hi26 ?hs26 ?hf26 ?hr26 ?hQ26 ?hy26 ?hS26 ?rest26
    case hi26 => (simp only [List.getElem?_toArray, List.getElem?_cons_succ, List.getElem?_cons_zero]; rfl)
    case hs26 => kernel_rfl
    case hf26 => kernel_rfl
    case hr26 => kernel_rfl
    case hQ26 => exact fun _ _ _ h => h
    case hS26 => assumption
    case hy26 => (refine Or.inl ⟨by rfl, ?_⟩; intro w hSw; (try dsimp only at hSw); go_simp; all_goals with_reducible rfl)
    (try simp only [Act.put, List.setIfInBounds_toArray, List.set_cons_zero, List.set_cons_succ])
    refine' wpAnyH_take (i := 27) (oi := ?oi27) (v := .agg (syA g q)) ?hi27 ?hs27 ?hf27 ?hr27 ?hQ27 ?hy27 ?hS27 ?rest27
    case hi27 => (simp only [List.getElem?_toArray, List.getElem?_cons_succ, List.getElem?_cons_zero]; rfl)
    case hs27 => kernel_rfl
    case hf27 => kernel_rfl
    case hr27 => kernel_rfl
    case hQ27 => exact fun _ _ _ h => h
    case hS27 => assumption
    case hy27 => exact yieldsIf_load_mid (by rfl) _ _ rfl _ 0 rfl ((syA g q)).toList _ (fun w hSw => HY.out w hSw) Try.underlying40 rfl (by rw [Array.length_toList]; exact syA_info_v _ _)
    (try simp only [Act.put, List.setIfInBounds_toArray, List.set_cons_zero, List.set_cons_succ])
    refine' wpAnyH_take (i := 28) (oi := ?oi28) (v := ?v28) ?hi28 ?hs28 ?hf28 ?hr28 ?hQ28 ?hy28 ?hS28 ?rest28
    case hi28 => (simp only [List.getElem?_toArray, List.getElem?_cons_succ, List.getElem?_cons_zero]; rfl)
    case hs28 => kernel_rfl
    case hf28 => kernel_rfl
    case hr28 => kernel_rfl
    case hQ28 => exact fun _ _ _ h => h
    case hS28 => assumption
    case hy28 => (refine Or.inl ⟨by rfl, ?_⟩; intro w hSw; (try dsimp only at hSw); go_simp; all_goals with_reducible rfl)
    (try simp only [Act.put, List.setIfInBounds_toArray, List.set_cons_zero, List.set_cons_succ])
    refine wpAnyH_ready (rs := [26]) (by kernel_rfl) (by simp) ?_
    refine' AllReadyH.cons (o := ?oi29) ?hi29 (fun K hK => ?step29) AllReadyH.nil
    case hi29 => (simp only [List.getElem?_toArray, List.getElem?_cons_succ, List.getElem?_cons_zero]; rfl)
    rw [if_pos (by rfl)]
    go_simp
    (go_at_call 36; refine (crossBack_i g q t _).mono ?_; rintro e w' ⟨rfl, hb⟩)
    all_goals (try go_wp2_with fail)
    refine hK.out _ _ ?_ (fun hHeld => ?_)
    · (repeat (first | exact Below.refl _ _ | assumption | (refine bel_call ?_ (by assumption)) | (refine bel_alloc ?_ _) | (refine Below.drew ?_) | (refine bel_drewN ?_ _)))
    clear hK K
    (try simp only [Act.put, List.setIfInBounds_toArray, List.set_cons_zero, List.set_cons_succ])
    refine wpAnyH_ready (rs := [29]) (by kernel_rfl) (by simp) ?_
    refine' AllReadyH.cons (o := ?oi30) ?hi30 (fun K hK => ?step30) AllReadyH.nil
    case hi30 => (simp only [List.getElem?_toArray, List.getElem?_cons_succ, List.getElem?_cons_zero]; rfl)
    rw [if_pos (by rfl)]
    go_simp
    (go_at_call 37; refine (crossBack_s g q t _).mono ?_; rintro e w' ⟨rfl, hb⟩)
    all_goals (try go_wp2_with fail)
    refine hK.out _ _ ?_ (fun hHeld => ?_)
    · (repeat (first | exact Below.refl _ _ | assumption | (refine bel_call ?_ (by assumption)) | (refine bel_alloc ?_ _) | (refine Below.drew ?_) | (refine bel_drewN ?_ _)))
    clear hK K
    (try simp only [Act.put, List.setIfInBounds_toArray, List.set_cons_zero, List.set_cons_succ])
    refine' wpAnyH_take (i := 30) (oi := ?oi31) (v := ?v31) ?hi31 ?hs31 ?hf31 ?hr31 ?hQ31 ?hy31 ?hS31 ?rest31
    case hi31 => (simp only [List.getElem?_toArray, List.getElem?_cons_succ, List.getElem?_cons_zero]; rfl)
    case hs31 => kernel_rfl
    case hf31 => kernel_rfl
    case hr31 => kernel_rfl
    case hQ31 => exact fun _ _ _ h => h
    case hS31 => assumption
    case hy31 => (refine Or.inl ⟨by rfl, ?_⟩; intro w hSw; (try dsimp only at hSw); go_simp; all_goals with_reducible rfl)
    (try simp only [Act.put, List.setIfInBounds_toArray, List.set_cons_zero, List.set_cons_succ])
    refine' wpAnyH_take (i := 31) (oi := ?oi32) (v := ?v32) ?hi32 ?hs32 ?hf32 ?hr32 ?hQ32 ?hy32 ?hS32 ?rest32
    case hi32 => (simp only [List.getElem?_toArray, List.getElem?_cons_succ, List.getElem?_cons_zero]; rfl)
    case hs32 => kernel_rfl
    case hf32 => kernel_rfl
    case hr32 => kernel_rfl
    case hQ32 => exact fun _ _ _ h => h
    case hS32 => assumption
    case hy32 => (refine Or.inl ⟨by rfl, ?_⟩; intro w hSw; (try dsimp only at hSw); go_simp; all_goals with_reducible rfl)
    (try simp only [Act.put, List.setIfInBounds_toArray, List.set_cons_zero, List.set_cons_succ])
    refine' wpAnyH_take (i := 32) (oi := ?oi33) (v := ?v33) ?hi33 ?hs33 ?hf33 ?hr33 ?hQ33 ?hy33 ?hS33 ?rest33
    case hi33 => (simp only [List.getElem?_toArray, List.getElem?_cons_succ, List.getElem?_cons_zero]; rfl)
    case hs33 => kernel_rfl
    case hf33 => kernel_rfl
    case hr33 => kernel_rfl
    case hQ33 => exact fun _ _ _ h => h
    case hS33 => assumption
    case hy33 => (refine Or.inl ⟨by rfl, ?_⟩; intro w hSw; (try dsimp only at hSw); go_simp; all_goals with_reducible rfl)
    (try simp only [Act.put, List.setIfInBounds_toArray, List.set_cons_zero, List.set_cons_succ])
    refine' wpAnyH_take (i := 33) (oi := ?oi34) (v := .agg (syA g1 q1)) ?hi34 ?hs34 ?hf34 ?hr34 ?hQ34 ?hy34 ?hS34 ?rest34
    case hi34 => (simp only [List.getElem?_toArray, List.getElem?_cons_succ, List.getElem?_cons_zero]; rfl)
    case hs34 => kernel_rfl
    case hf34 => kernel_rfl
    case hr34 => kernel_rfl
    case hQ34 => exact fun _ _ _ h => h
    case hS34 => assumption
    case hy34 => exact yieldsIf_load_mid (by rfl) _ _ rfl _ 0 rfl ((syA g1 q1)).toList _ (fun w hSw => HY1.out w hSw) Try.underlying40 rfl (by rw [Array.length_toList]; exact syA_info_v _ _)
    (try simp only [Act.put, List.setIfInBounds_toArray, List.set_cons_zero, List.set_cons_succ])
    refine' wpAnyH_take (i := 34) (oi := ?oi35) (v := .agg (syA g2 q2)) ?hi35 ?hs35 ?hf35 ?hr35 ?hQ35 ?hy35 ?hS35 ?rest35
    case hi35 => (simp only [List.getElem?_toArray, List.getElem?_cons_succ, List.getElem?_cons_zero]; rfl)
    case hs35 => kernel_rfl
    case hf35 => kernel_rfl
    case hr35 => kernel_rfl
    case hQ35 => exact fun _ _ _ h => h
    case hS35 => assumption
    case hy35 => exact yieldsIf_load_mid (by rfl) _ _ rfl _ 0 rfl ((syA g2 q2)).toList _ (fun w hSw => HY2.out w hSw) Try.underlying40 rfl (by rw [Array.length_toList]; exact syA_info_v _ _)
    (try simp only [Act.put, List.setIfInBounds_toArray, List.set_cons_zero, List.set_cons_succ])
    refine' wpAnyH_take (i := 36) (oi := ?oi36) (v := .agg (syA g1 q1)) ?hi36 ?hs36 ?hf36 ?hr36 ?hQ36 ?hy36 ?hS36 ?rest36
    case hi36 => (simp only [List.getElem?_toArray, List.getElem?_cons_succ, List.getElem?_cons_zero]; rfl)
    case hs36 => kernel_rfl
    case hf36 => kernel_rfl
    case hr36 => kernel_rfl
    case hQ36 => exact fun _ _ _ h => h
    case hS36 => assumption
    case hy36 => exact yieldsIf_load_mid (by rfl) _ _ rfl _ 0 rfl ((syA g1 q1)).toList _ (fun w hSw => HY1.out w hSw) Try.underlying40 rfl (by rw [Array.length_toList]; exact syA_info_v _ _)
    (try simp only [Act.put, List.setIfInBounds_toArray, List.set_cons_zero, List.set_cons_succ])
    refine' wpAnyH_take (i := 37) (oi := ?oi37) (v := .agg (syA g2 q2)) ?hi37 ?hs37 ?hf37 ?hr37 ?hQ37 ?hy37 ?hS37 ?rest37
    case hi37 => (simp only [List.getElem?_toArray, List.getElem?_cons_succ, List.getElem?_cons_zero]; rfl)
    case hs37 => kernel_rfl
    case hf37 => kernel_rfl
    case hr37 => kernel_rfl
    case hQ37 => exact fun _ _ _ h => h
    case hS37 => assumption
    case hy37 => exact yieldsIf_load_mid (by rfl) _ _ rfl _ 0 rfl ((syA g2 q2)).toList _ (fun w hSw => HY2.out w hSw) Try.underlying40 rfl (by rw [Array.length_toList]; exact syA_info_v _ _)
    (try simp only [Act.put, List.setIfInBounds_toArray, List.set_cons_zero, List.set_cons_succ])
    refine wpAnyH_ready (rs := [35]) (by kernel_rfl) (by simp) ?_
    refine' AllReadyH.cons (o := ?oi38) ?hi38 (fun K hK => ?step38) AllReadyH.nil
    case hi38 => (simp only [List.getElem?_toArray, List.getElem?_cons_succ, List.getElem?_cons_zero]; rfl)
    rw [if_pos (by rfl)]
    go_simp
    (go_at_call 38; refine (alignOf_i g1 q1 g2 q2 _).mono ?_; rintro e w' ⟨rfl, hb⟩)
    all_goals (try go_wp2_with fail)
    refine hK.out _ _ ?_ (fun hHeld => ?_)
    · (repeat (first | exact Below.refl _ _ | assumption | (refine bel_call ?_ (by assumption)) | (refine bel_alloc ?_ _) | (refine Below.drew ?_) | (refine bel_drewN ?_ _)))
    clear hK K
    (try simp only [Act.put, List.setIfInBounds_toArray, List.set_cons_zero, List.set_cons_succ])
    refine wpAnyH_ready (rs := [38]) (by kernel_rfl) (by simp) ?_
    refine' AllReadyH.cons (o := ?oi39) ?hi39 (fun K hK => ?step39) AllReadyH.nil
    case hi39 => (simp only [List.getElem?_toArray, List.getElem?_cons_succ, List.getElem?_cons_zero]; rfl)
    rw [if_pos (by rfl)]
    go_simp
    (go_at_call 39; refine (alignOf_s g1 q1 g2 q2 _).mono ?_; rintro e w' ⟨rfl, hb⟩)
    all_goals (try go_wp2_with fail)
    refine hK.out _ _ ?_ (fun hHeld => ?_)
    · (repeat (first | exact Below.refl _ _ | assumption | (refine bel_call ?_ (by assumption)) | (refine bel_alloc ?_ _) | (refine Below.drew ?_) | (refine bel_drewN ?_ _)))
    clear hK K
    (try simp only [Act.put, List.setIfInBounds_toArray, List.set_cons_zero, List.set_cons_succ])
    refine' wpAnyH_take (i := 39) (oi := ?oi40) (v := ?v40) ?hi40 ?hs40 ?hf40 ?hr40 ?hQ40 ?hy40 ?hS40 ?rest40
    case hi40 => (simp only [List.getElem?_toArray, List.getElem?_cons_succ, List.getElem?_cons_zero]; rfl)
    case hs40 => kernel_rfl
    case hf40 => kernel_rfl
    case hr40 => kernel_rfl
    case hQ40 => exact fun _ _ _ h => h
    case hS40 => assumption
    case hy40 => (refine Or.inl ⟨by rfl, ?_⟩; intro w hSw; (try dsimp only at hSw); go_simp; all_goals with_reducible rfl)
    (try simp only [Act.put, List.setIfInBounds_toArray, List.set_cons_zero, List.set_cons_succ])
    refine' wpAnyH_take (i := 40) (oi := ?oi41) (v := ?v41) ?hi41 ?hs41 ?hf41 ?hr41 ?hQ41 ?hy41 ?hS41 ?rest41
    case hi41 => (simp only [List.getElem?_toArray, List.getElem?_cons_succ, List.getElem?_cons_zero]; rfl)
    case hs41 => kernel_rfl
    case hf41 => kernel_rfl
    case hr41 => kernel_rfl
    case hQ41 => exact fun _ _ _ h => h
    case hS41 => assumption
    case hy41 => (refine Or.inl ⟨by rfl, ?_⟩; intro w hSw; (try dsimp only at hSw); go_simp; all_goals with_reducible rfl)
    (try simp only [Act.put, List.setIfInBounds_toArray, List.set_cons_zero, List.set_cons_succ])
    refine wpAnyH_done (by kernel_rfl) ?_ _
    go_upto_region 14 with fail
    have hHeldB := hHeld
    have n1 := ne_bne N1.out
    have n2 := ne_bne N2.out
    rcases HX.out with ⟨hr, hAD, hBC⟩ | ⟨hr, hAC, hBD⟩
    · subst hr hAD hBC
      have m1 := HM.out
      have m2 := HM2.out
      go_wp2_with ((go_at_call 31; refine (mirrored_i _ _ _ _ _).mono ?_; rintro e w' ⟨rfl, rfl⟩))
      go_ret
      exact ⟨rfl, bel_call HL.out.bel hHeld⟩
    · subst hr hAC hBD
      have m1 := HM.out
      have m2 := HM2.out
      go_wp2_with ((go_at_call 31; refine (mirrored_i _ _ _ _ _).mono ?_; rintro e w' ⟨rfl, rfl⟩))
      go_ret
      exact ⟨rfl, bel_call HL.out.bel hHeld⟩
  · have hbig : (1048576 : Int) < ↑l.length := by omega
    go_enter Try.func5, Try.ntmps5
    go_wp2_with ((go_at_call 8; refine (big_l _ _ _ _).mono ?_; rintro e w' ⟨rfl, rfl⟩))
    go_ret
    exact ⟨rfl, Below.refl _ _⟩
set_option maxRecDepth 100000 in
theorem FnAxes_lifted (os : Os) (started : os.Started) (H : Type) (enc : TypeId × Value → H) :
    ReturnsInHanded {} Try.checked os 5 .any (Rows.fnAxesSpec.pre6 enc Try.prog Try.f5 Rows.fnAxesRow.domain false) (Rows.fnAxesSpec.post enc Try.prog Try.f5 false true false false) := by
  refine returnsInHanded_of_change (C := Try.checked) own started (by kernel_rfl) Try.func5
    (ChangeSpec.witness6 (enc := enc) (C := Try.checked) false ⟨#[], #[.slice none 0 0], []⟩ 8 (by kernel_rfl) (by kernel_rfl) (by kernel_rfl) (by kernel_rfl)) ?_
  intro W base args ds gs before hval0 hW hcnd _
  have hval : ∀ (j : Nat) t v, Try.f5.params[j]? = some t → args[j]? = some v → Value.okWide Try.prog W .any base t v := hval0
  have hW' := hW
  obtain ⟨p, q, hA0, hV, rfl, hfz, hnd⟩ := hW
  have hA : DataW.TrodAll enc Try.prog W 0 (fun _ => true) true Try.f5.params.toList args.toList ds p := hA0
  rw [Try.params5] at hA hval
  obtain ⟨v0, vs0, d0, ds0, p0, q0, hargs, rfl, rfl, h0, r0⟩ := trodAll_cons hA
  obtain ⟨rfl, rfl, rfl⟩ := trodAll_nil r0
  obtain rfl : args = #[v0] := by cases args; simp_all
  obtain ⟨rfl, rfl⟩ := trodVars_none hV
  have k0 := h0
  have lt0 : ∀ x ∈ p0, x.block < W.heap.size := by obtain ⟨m, hm⟩ := k0; exact DataW.trod_lt m _ _ _ hm
  obtain ⟨b0, len0, cap0, rfl⟩ := okWide_slice Try.underlying22 (hval 0 22 v0 rfl rfl)
  obtain ⟨z0, w0⟩ : ∃ zs, IsRow .u8 W b0 len0 cap0 zs := by
    obtain ⟨fuel, hf⟩ := h0
    rcases open_ints Try.underlying22 Try.underlying5 (by kernel_rfl) hf with ⟨hcs, _⟩ | ⟨x, l, c, zs, hcs, _, hl, hm, hz, _, hcell, hwz⟩
    · simp [Value.cells] at hcs
      obtain ⟨rfl, rfl, rfl⟩ := hcs
      exact ⟨[], .inl ⟨rfl, rfl, rfl, rfl⟩⟩
    · simp [Value.cells] at hcs
      obtain ⟨rfl, rfl, rfl⟩ := hcs
      exact ⟨zs, .inr ⟨_, rfl, hl, hm, by simpa using hz, hcell, hwz⟩⟩
  clear hA0 hval0
  refine (law_FnAxes b0 len0 cap0 z0 W w0).mono fun e W' ⟨he, bel⟩ => ?_
  subst he
  exact ⟨_, rfl, _, _, _, [], _, [], hW', trodAll_mk1 (shut_bool Try.underlying4 _), (trodAll_cons_mk (Below.trod laidOut (by kernel_rfl) (of_decide_eq_true (by kernel_rfl)) k0 bel lt0) trodAll_mk0), rfl, bel.frame _, fun h => by cases h⟩

/-- The law 'FnAxes' returns true for every input, and each argument reads afterwards as it read before. -/
theorem FnAxes_holds : Rows.FnAxesSaid :=
  OpenClaim.holds_of_wide 5 Try.f5 rfl rfl rfl rfl rfl rfl rfl ⟨rfl, rfl, rfl, rfl, rfl⟩ rfl rfl rfl rfl rfl (by kernel_rfl) Try.func5 (by kernel_rfl)
    (of_decide_eq_true (by kernel_rfl)) (by unfold Func.isWrapper; first | (rw [if_pos (by decide +kernel)]; kernel_rfl) | (rw [if_neg (by decide +kernel)]; exact ⟨rfl, rfl⟩))
    (fun os started H enc _ => FnAxes_lifted os started H enc)
#print axioms FnAxes_holds

end Go.Proofs.Ytcmanaklojomeaa
