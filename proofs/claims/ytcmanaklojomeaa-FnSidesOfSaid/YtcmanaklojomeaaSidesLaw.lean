/- The law FnSidesOf returns true for every input: where it begins and ends is left and right, and the other way round with the other way of reading. Conditions: none. -/
import Derived.Test.YtcmanaklojomeaaDrawTop2
import Derived.Test.YtcmanaklojomeaaLw
import Derived.Test.YtcmanaklojomeaaLawM
import Derived.Test.YtcmanaklojomeaaSides2
import Derived.Test.YtcmanaklojomeaaEq
import Derived.Deep.RegionHeld3
namespace Go.Proofs.Ytcmanaklojomeaa
open Go.ChangeShapes Go.WideShapes Go.ChangeAt Go.RowKit Go.Deep
set_option linter.unusedVariables false
set_option maxRecDepth 20000
def turn1 (g : Nat → Int) : Nat → Int := fun i => if i = 8 then g 10 else if i = 9 then g 11 else g i
theorem turn_a (g : Nat → Int) (q : Nat → Bool) : ((sdA g q).toList.take 8 ++ (#[Value.int .i64 (g 10), Value.int .i64 (g 11)]).toList ++ (sdA g q).toList.drop (8 + (#[Value.int .i64 (g 10), Value.int .i64 (g 11)]).size)).toArray = sdA (turn1 g) q := by kernel_rfl
theorem turn_b (g : Nat → Int) (q : Nat → Bool) : ((sdA (turn1 g) q).toList.take 10 ++ (#[Value.int .i64 (g 8), Value.int .i64 (g 9)]).toList ++ (sdA (turn1 g) q).toList.drop (10 + (#[Value.int .i64 (g 8), Value.int .i64 (g 9)]).size)).toArray = sdA (turnG g) q := by kernel_rfl
set_option maxHeartbeats 6400000 in
theorem law_FnSidesOf (a : Option Addr) (len cap : Nat) (zs : List Int) (w : World) (h : IsRow .u8 w a len cap zs) :
    Calls Try.prog 6 #[.slice a len cap] w fun e w' => e = .returned (.bool true) ∧ Below w.heap.size w w' := by
  obtain ⟨l, rfl, hr⟩ := RdB.of_row h
  clear h
  by_cases hle : l.length ≤ 1048576
  · have HR := Lib.hid hr
    have hbig : ¬ (1048576 : Int) < ↑l.length := by omega
    clear hr
    go_enter Try.func6, Try.ntmps6
    go_wp2_with ((go_at_call 8; refine (big_l _ _ _ _).mono ?_; rintro e w' ⟨rfl, rfl⟩))
    refine (drawSideOf_s w a cap l hle HR.out).mono ?_
    rintro e w1 ⟨g, q, sd, t, hg, hsd, rfl, hb⟩
    have HL := Lib.hid (Lw.start hb)
    clear hb hg hsd
    obtain ⟨K, hK⟩ : ∃ K, K = sideK g sd t := ⟨_, rfl⟩
    obtain ⟨N, hN⟩ : ∃ N, N = sideN g sd t := ⟨_, rfl⟩
    have HK := Lib.hid hK
    have HN := Lib.hid hN
    have TK : Hid (sideK (turnG g) sd (!t) = K) := Lib.hid (by rw [hK]; exact (side_turn g sd t).1)
    have TN : Hid (sideN (turnG g) sd (!t) = N) := Lib.hid (by rw [hN]; exact (side_turn g sd t).2)
    have H5 : Hid (addEdges 2 3 = 5) := Lib.hid (by decide)
    clear hK hN
    go_upto_region 4 with (first | (refine Lw.wp_alloc HL.out rfl 34 rfl (.agg #[.int .i64 0, .int .i64 0]) (by kernel_rfl) ?_; intro b W' hL; replace HL := Lib.hid hL; clear hL) | (refine Lw.wp_put HL.out rfl 34 _ _ rfl _ rfl rfl (by rfl) (by first | exact one2 _ _ | exact one4 _ _ _ _ | exact syA_one _ _ | exact sdA_one _ _) (by kernel_rfl) ?_; intro W' hL; replace HL := Lib.hid hL; clear hL) | (refine Lw.wp_put HL.out.swap rfl 34 _ _ rfl _ rfl rfl (by rfl) (by first | exact one2 _ _ | exact one4 _ _ _ _ | exact syA_one _ _ | exact sdA_one _ _) (by kernel_rfl) ?_; intro W' hL; replace HL := Lib.hid hL; clear hL) | (refine Lw.wp_load HL.out rfl 34 _ rfl _ rfl _ _ (by (first | exact List.mem_cons_self | exact List.mem_cons_of_mem _ List.mem_cons_self | exact List.mem_cons_of_mem _ (List.mem_cons_of_mem _ List.mem_cons_self))) _ Try.underlying34 rfl (by kernel_rfl) ?_) | (refine Lw.wp_alloc HL.out rfl 36 rfl (.agg (sdA (fun _ => 0) (fun _ => false))) (by kernel_rfl) ?_; intro b W' hL; replace HL := Lib.hid hL; clear hL) | (refine Lw.wp_put HL.out rfl 36 _ _ rfl _ rfl rfl (by rfl) (by first | exact one2 _ _ | exact one4 _ _ _ _ | exact syA_one _ _ | exact sdA_one _ _) (by kernel_rfl) ?_; intro W' hL; replace HL := Lib.hid hL; clear hL) | (refine Lw.wp_put HL.out.swap rfl 36 _ _ rfl _ rfl rfl (by rfl) (by first | exact one2 _ _ | exact one4 _ _ _ _ | exact syA_one _ _ | exact sdA_one _ _) (by kernel_rfl) ?_; intro W' hL; replace HL := Lib.hid hL; clear hL) | (refine Lw.wp_load HL.out rfl 36 _ rfl _ rfl _ _ (by (first | exact List.mem_cons_self | exact List.mem_cons_of_mem _ List.mem_cons_self | exact List.mem_cons_of_mem _ (List.mem_cons_of_mem _ List.mem_cons_self))) _ Try.underlying36 rfl (by kernel_rfl) ?_) | (refine Lw.wp_alloc HL.out rfl 38 rfl (.agg #[.int .i64 0, .int .i64 0, .int .i64 0, .int .i64 0]) (by kernel_rfl) ?_; intro b W' hL; replace HL := Lib.hid hL; clear hL) | (refine Lw.wp_put HL.out rfl 38 _ _ rfl _ rfl rfl (by rfl) (by first | exact one2 _ _ | exact one4 _ _ _ _ | exact syA_one _ _ | exact sdA_one _ _) (by kernel_rfl) ?_; intro W' hL; replace HL := Lib.hid hL; clear hL) | (refine Lw.wp_put HL.out.swap rfl 38 _ _ rfl _ rfl rfl (by rfl) (by first | exact one2 _ _ | exact one4 _ _ _ _ | exact syA_one _ _ | exact sdA_one _ _) (by kernel_rfl) ?_; intro W' hL; replace HL := Lib.hid hL; clear hL) | (refine Lw.wp_load HL.out rfl 38 _ rfl _ rfl _ _ (by (first | exact List.mem_cons_self | exact List.mem_cons_of_mem _ List.mem_cons_self | exact List.mem_cons_of_mem _ (List.mem_cons_of_mem _ List.mem_cons_self))) _ Try.underlying38 rfl (by kernel_rfl) ?_))
    obtain ⟨bs, hbs⟩ : ∃ x, x = b := ⟨_, rfl⟩
    subst hbs
    go_upto_region 5 with (first | (go_at_call 41; refine (sideOf_i g q sd t _).mono ?_; rintro e w' ⟨rfl, hb⟩; rw [← HK.out, ← HN.out]; replace HL := Lib.hid (HL.out.called hb); clear hb) | (first | (refine Lw.wp_alloc HL.out rfl 34 rfl (.agg #[.int .i64 0, .int .i64 0]) (by kernel_rfl) ?_; intro b W' hL; replace HL := Lib.hid hL; clear hL) | (refine Lw.wp_put HL.out rfl 34 _ _ rfl _ rfl rfl (by rfl) (by first | exact one2 _ _ | exact one4 _ _ _ _ | exact syA_one _ _ | exact sdA_one _ _) (by kernel_rfl) ?_; intro W' hL; replace HL := Lib.hid hL; clear hL) | (refine Lw.wp_put HL.out.swap rfl 34 _ _ rfl _ rfl rfl (by rfl) (by first | exact one2 _ _ | exact one4 _ _ _ _ | exact syA_one _ _ | exact sdA_one _ _) (by kernel_rfl) ?_; intro W' hL; replace HL := Lib.hid hL; clear hL) | (refine Lw.wp_load HL.out rfl 34 _ rfl _ rfl _ _ (by (first | exact List.mem_cons_self | exact List.mem_cons_of_mem _ List.mem_cons_self | exact List.mem_cons_of_mem _ (List.mem_cons_of_mem _ List.mem_cons_self))) _ Try.underlying34 rfl (by kernel_rfl) ?_) | (refine Lw.wp_alloc HL.out rfl 36 rfl (.agg (sdA (fun _ => 0) (fun _ => false))) (by kernel_rfl) ?_; intro b W' hL; replace HL := Lib.hid hL; clear hL) | (refine Lw.wp_put HL.out rfl 36 _ _ rfl _ rfl rfl (by rfl) (by first | exact one2 _ _ | exact one4 _ _ _ _ | exact syA_one _ _ | exact sdA_one _ _) (by kernel_rfl) ?_; intro W' hL; replace HL := Lib.hid hL; clear hL) | (refine Lw.wp_put HL.out.swap rfl 36 _ _ rfl _ rfl rfl (by rfl) (by first | exact one2 _ _ | exact one4 _ _ _ _ | exact syA_one _ _ | exact sdA_one _ _) (by kernel_rfl) ?_; intro W' hL; replace HL := Lib.hid hL; clear hL) | (refine Lw.wp_load HL.out rfl 36 _ rfl _ rfl _ _ (by (first | exact List.mem_cons_self | exact List.mem_cons_of_mem _ List.mem_cons_self | exact List.mem_cons_of_mem _ (List.mem_cons_of_mem _ List.mem_cons_self))) _ Try.underlying36 rfl (by kernel_rfl) ?_) | (refine Lw.wp_alloc HL.out rfl 38 rfl (.agg #[.int .i64 0, .int .i64 0, .int .i64 0, .int .i64 0]) (by kernel_rfl) ?_; intro b W' hL; replace HL := Lib.hid hL; clear hL) | (refine Lw.wp_put HL.out rfl 38 _ _ rfl _ rfl rfl (by rfl) (by first | exact one2 _ _ | exact one4 _ _ _ _ | exact syA_one _ _ | exact sdA_one _ _) (by kernel_rfl) ?_; intro W' hL; replace HL := Lib.hid hL; clear hL) | (refine Lw.wp_put HL.out.swap rfl 38 _ _ rfl _ rfl rfl (by rfl) (by first | exact one2 _ _ | exact one4 _ _ _ _ | exact syA_one _ _ | exact sdA_one _ _) (by kernel_rfl) ?_; intro W' hL; replace HL := Lib.hid hL; clear hL) | (refine Lw.wp_load HL.out rfl 38 _ rfl _ rfl _ _ (by (first | exact List.mem_cons_self | exact List.mem_cons_of_mem _ List.mem_cons_self | exact List.mem_cons_of_mem _ (List.mem_cons_of_mem _ List.mem_cons_self))) _ Try.underlying38 rfl (by kernel_rfl) ?_)))
    obtain ⟨bv, hbs⟩ : ∃ x, x = b := ⟨_, rfl⟩
    subst hbs
    have HY : Hid (∀ W, Below W'.heap.size W' W → W.rangeAt bs 0 (sdA g q).toList) := Lib.hid (fun W h j v hj => by
      rw [Nat.zero_add, (HL.out.called h).cell (List.mem_cons_of_mem _ (List.mem_cons_self))]
      simpa using hj)
    have HV : Hid (∀ W, Below W'.heap.size W' W → W.rangeAt bv 0 (#[Value.int .i64 K, Value.int .i64 N]).toList) := Lib.hid (fun W h j v hj => by
      rw [Nat.zero_add, (HL.out.called h).cell (List.mem_cons_self)]
      simpa using hj)
    refine wp_region_held_drew (S := (fun w' => Below W'.heap.size W' w')) (by kernel_rfl) ?_ (fun hHeld => ?_)
    · (repeat (first | exact Below.refl _ _ | assumption | (refine bel_call ?_ (by assumption)) | (refine bel_alloc ?_ _) | (refine Below.drew ?_) | (refine bel_drewN ?_ _)))
    refine' wpAnyH_take (i := 0) (oi := ?oi1) (v := .agg (#[Value.int .i64 K, Value.int .i64 N])) ?hi1 ?hs1 ?hf1 ?hr1 ?hQ1 ?hy1 ?hS1 ?rest1
    case hi1 => (simp only [List.getElem?_toArray, List.getElem?_cons_zero]; rfl)
    case hs1 => kernel_rfl
    case hf1 => kernel_rfl
    case hr1 => kernel_rfl
    case hQ1 => exact fun _ _ _ h => h
    case hS1 => assumption
    case hy1 => exact yieldsIf_load_mid (by rfl) _ _ rfl _ 0 rfl ((#[Value.int .i64 K, Value.int .i64 N])).toList _ (fun w hSw => HV.out w hSw) Try.underlying34 rfl (by kernel_rfl)
    (try simp only [Act.put, List.setIfInBounds_toArray, List.set_cons_zero, List.set_cons_succ])
    refine' wpAnyH_take (i := 1) (oi := ?oi2) (v := .agg (sdA g q)) ?hi2 ?hs2 ?hf2 ?hr2 ?hQ2 ?hy2 ?hS2 ?rest2
    case hi2 => (simp only [List.getElem?_toArray, List.getElem?_cons_succ, List.getElem?_cons_zero]; rfl)
    case hs2 => kernel_rfl
    case hf2 => kernel_rfl
    case hr2 => kernel_rfl
    case hQ2 => exact fun _ _ _ h => h
    case hS2 => assumption
    case hy2 => exact yieldsIf_load_mid (by rfl) _ _ rfl _ 0 rfl ((sdA g q)).toList _ (fun w hSw => HY.out w hSw) Try.underlying36 rfl (by rw [Array.length_toList]; exact sdA_info_v _ _)
    (try simp only [Act.put, List.setIfInBounds_toArray, List.set_cons_zero, List.set_cons_succ])
    refine' wpAnyH_take (i := 2) (oi := ?oi3) (v := ?v3) ?hi3 ?hs3 ?hf3 ?hr3 ?hQ3 ?hy3 ?hS3 ?rest3
    case hi3 => (simp only [List.getElem?_toArray, List.getElem?_cons_succ, List.getElem?_cons_zero]; rfl)
    case hs3 => kernel_rfl
    case hf3 => kernel_rfl
    case hr3 => kernel_rfl
    case hQ3 => exact fun _ _ _ h => h
    case hS3 => assumption
    case hy3 => (refine Or.inl ⟨by rfl, ?_⟩; intro w hSw; (try dsimp only at hSw); go_simp; all_goals with_reducible rfl)
    (try simp only [Act.put, List.setIfInBounds_toArray, List.set_cons_zero, List.set_cons_succ])
    refine' wpAnyH_take (i := 3) (oi := ?oi4) (v := ?v4) ?hi4 ?hs4 ?hf4 ?hr4 ?hQ4 ?hy4 ?hS4 ?rest4
    case hi4 => (simp only [List.getElem?_toArray, List.getElem?_cons_succ, List.getElem?_cons_zero]; rfl)
    case hs4 => kernel_rfl
    case hf4 => kernel_rfl
    case hr4 => kernel_rfl
    case hQ4 => exact fun _ _ _ h => h
    case hS4 => assumption
    case hy4 => (refine Or.inl ⟨by rfl, ?_⟩; intro w hSw; (try dsimp only at hSw); go_simp; all_goals with_reducible rfl)
    (try simp only [Act.put, List.setIfInBounds_toArray, List.set_cons_zero, List.set_cons_succ])
    refine wpAnyH_ready (rs := [4]) (by kernel_rfl) (by simp) ?_
    refine' AllReadyH.cons (o := ?oi5) ?hi5 (fun K hK => ?step5) AllReadyH.nil
    case hi5 => (simp only [List.getElem?_toArray, List.getElem?_cons_succ, List.getElem?_cons_zero]; rfl)
    rw [if_pos (by rfl)]
    go_simp
    (go_at_call 42; refine (sideOf_s g q sd t _).mono ?_; rintro e w' ⟨rfl, hb⟩; rw [← HK.out, ← HN.out])
    all_goals (try go_wp2_with fail)
    refine hK.out _ _ ?_ (fun hHeld => ?_)
    · (repeat (first | exact Below.refl _ _ | assumption | (refine bel_call ?_ (by assumption)) | (refine bel_alloc ?_ _) | (refine Below.drew ?_) | (refine bel_drewN ?_ _)))
    clear hK K
    (try simp only [Act.put, List.setIfInBounds_toArray, List.set_cons_zero, List.set_cons_succ])
    refine' wpAnyH_take (i := 5) (oi := ?oi6) (v := ?v6) ?hi6 ?hs6 ?hf6 ?hr6 ?hQ6 ?hy6 ?hS6 ?rest6
    case hi6 => (simp only [List.getElem?_toArray, List.getElem?_cons_succ, List.getElem?_cons_zero]; rfl)
    case hs6 => kernel_rfl
    case hf6 => kernel_rfl
    case hr6 => kernel_rfl
    case hQ6 => exact fun _ _ _ h => h
    case hS6 => assumption
    case hy6 => (refine Or.inl ⟨by rfl, ?_⟩; intro w hSw; (try dsimp only at hSw); go_simp; all_goals with_reducible rfl)
    (try simp only [Act.put, List.setIfInBounds_toArray, List.set_cons_zero, List.set_cons_succ])
    refine' wpAnyH_take (i := 6) (oi := ?oi7) (v := ?v7) ?hi7 ?hs7 ?hf7 ?hr7 ?hQ7 ?hy7 ?hS7 ?rest7
    case hi7 => (simp only [List.getElem?_toArray, List.getElem?_cons_succ, List.getElem?_cons_zero]; rfl)
    case hs7 => kernel_rfl
    case hf7 => kernel_rfl
    case hr7 => kernel_rfl
    case hQ7 => exact fun _ _ _ h => h
    case hS7 => assumption
    case hy7 => (refine Or.inl ⟨by rfl, ?_⟩; intro w hSw; (try dsimp only at hSw); go_simp; all_goals with_reducible rfl)
    (try simp only [Act.put, List.setIfInBounds_toArray, List.set_cons_zero, List.set_cons_succ])
    refine' wpAnyH_take (i := 7) (oi := ?oi8) (v := .agg (sdA g q)) ?hi8 ?hs8 ?hf8 ?hr8 ?hQ8 ?hy8 ?hS8 ?rest8
    case hi8 => (simp only [List.getElem?_toArray, List.getElem?_cons_succ, List.getElem?_cons_zero]; rfl)
    case hs8 => kernel_rfl
    case hf8 => kernel_rfl
    case hr8 => kernel_rfl
    case hQ8 => exact fun _ _ _ h => h
    case hS8 => assumption
    case hy8 => exact yieldsIf_load_mid (by rfl) _ _ rfl _ 0 rfl ((sdA g q)).toList _ (fun w hSw => HY.out w hSw) Try.underlying36 rfl (by rw [Array.length_toList]; exact sdA_info_v _ _)
    (try simp only [Act.put, List.setIfInBounds_toArray, List.set_cons_zero, List.set_cons_succ])
    refine' wpAnyH_take (i := 8) (oi := ?oi9) (v := ?v9) ?hi9 ?hs9 ?hf9 ?hr9 ?hQ9 ?hy9 ?hS9 ?rest9
    case hi9 => (simp only [List.getElem?_toArray, List.getElem?_cons_succ, List.getElem?_cons_zero]; rfl)
    case hs9 => kernel_rfl
    case hf9 => kernel_rfl
    case hr9 => kernel_rfl
    case hQ9 => exact fun _ _ _ h => h
    case hS9 => assumption
    case hy9 => (refine Or.inl ⟨by rfl, ?_⟩; intro w hSw; (try dsimp only at hSw); go_simp; all_goals with_reducible rfl)
    (try simp only [Act.put, List.setIfInBounds_toArray, List.set_cons_zero, List.set_cons_succ])
    refine' wpAnyH_take (i := 9) (oi := ?oi10) (v := ?v10) ?hi10 ?hs10 ?hf10 ?hr10 ?hQ10 ?hy10 ?hS10 ?rest10
    case hi10 => (simp only [List.getElem?_toArray, List.getElem?_cons_succ, List.getElem?_cons_zero]; rfl)
    case hs10 => kernel_rfl
    case hf10 => kernel_rfl
    case hr10 => kernel_rfl
    case hQ10 => exact fun _ _ _ h => h
    case hS10 => assumption
    case hy10 => (refine Or.inl ⟨by rfl, ?_⟩; intro w hSw; (try dsimp only at hSw); go_simp; all_goals with_reducible rfl)
    (try simp only [Act.put, List.setIfInBounds_toArray, List.set_cons_zero, List.set_cons_succ])
    refine' wpAnyH_take (i := 11) (oi := ?oi11) (v := ?v11) ?hi11 ?hs11 ?hf11 ?hr11 ?hQ11 ?hy11 ?hS11 ?rest11
    case hi11 => (simp only [List.getElem?_toArray, List.getElem?_cons_succ, List.getElem?_cons_zero]; rfl)
    case hs11 => kernel_rfl
    case hf11 => kernel_rfl
    case hr11 => kernel_rfl
    case hQ11 => exact fun _ _ _ h => h
    case hS11 => assumption
    case hy11 => (refine Or.inl ⟨by rfl, ?_⟩; intro w hSw; (try dsimp only at hSw); go_simp; all_goals with_reducible rfl)
    (try simp only [Act.put, List.setIfInBounds_toArray, List.set_cons_zero, List.set_cons_succ])
    refine' wpAnyH_take (i := 12) (oi := ?oi12) (v := ?v12) ?hi12 ?hs12 ?hf12 ?hr12 ?hQ12 ?hy12 ?hS12 ?rest12
    case hi12 => (simp only [List.getElem?_toArray, List.getElem?_cons_succ, List.getElem?_cons_zero]; rfl)
    case hs12 => kernel_rfl
    case hf12 => kernel_rfl
    case hr12 => kernel_rfl
    case hQ12 => exact fun _ _ _ h => h
    case hS12 => assumption
    case hy12 => (refine Or.inl ⟨by rfl, ?_⟩; intro w hSw; (try dsimp only at hSw); have cv := HV.out w hSw 0 _ rfl; go_simp; all_goals with_reducible rfl)
    (try simp only [Act.put, List.setIfInBounds_toArray, List.set_cons_zero, List.set_cons_succ])
    refine' wpAnyH_take (i := 13) (oi := ?oi13) (v := ?v13) ?hi13 ?hs13 ?hf13 ?hr13 ?hQ13 ?hy13 ?hS13 ?rest13
    case hi13 => (simp only [List.getElem?_toArray, List.getElem?_cons_succ, List.getElem?_cons_zero]; rfl)
    case hs13 => kernel_rfl
    case hf13 => kernel_rfl
    case hr13 => kernel_rfl
    case hQ13 => exact fun _ _ _ h => h
    case hS13 => assumption
    case hy13 => (refine Or.inl ⟨by rfl, ?_⟩; intro w hSw; (try dsimp only at hSw); go_simp; all_goals with_reducible rfl)
    (try simp only [Act.put, List.setIfInBounds_toArray, List.set_cons_zero, List.set_cons_succ])
    refine wpAnyH_ready (rs := [10]) (by kernel_rfl) (by simp) ?_
    refine' AllReadyH.cons (o := ?oi14) ?hi14 (fun K hK => ?step14) AllReadyH.nil
    case hi14 => (simp only [List.getElem?_toArray, List.getElem?_cons_succ, List.getElem?_cons_zero]; rfl)
    rw [if_pos (by rfl)]
    go_simp
    (go_at_call 43; refine (autoSide_i g q sd t _).mono ?_; rintro e w' ⟨rfl, hb⟩; rw [← HK.out])
    all_goals (try go_wp2_with fail)
    refine hK.out _ _ ?_ (fun hHeld => ?_)
    · (repeat (first | exact Below.refl _ _ | assumption | (refine bel_call ?_ (by assumption)) | (refine bel_alloc ?_ _) | (refine Below.drew ?_) | (refine bel_drewN ?_ _)))
    clear hK K
    (try simp only [Act.put, List.setIfInBounds_toArray, List.set_cons_zero, List.set_cons_succ])
    refine' wpAnyH_take (i := 14) (oi := ?oi15) (v := ?v15) ?hi15 ?hs15 ?hf15 ?hr15 ?hQ15 ?hy15 ?hS15 ?rest15
    case hi15 => (simp only [List.getElem?_toArray, List.getElem?_cons_succ, List.getElem?_cons_zero]; rfl)
    case hs15 => kernel_rfl
    case hf15 => kernel_rfl
    case hr15 => kernel_rfl
    case hQ15 => exact fun _ _ _ h => h
    case hS15 => assumption
    case hy15 => (refine Or.inl ⟨by rfl, ?_⟩; intro w hSw; (try dsimp only at hSw); go_simp; all_goals with_reducible rfl)
    (try simp only [Act.put, List.setIfInBounds_toArray, List.set_cons_zero, List.set_cons_succ])
    refine' wpAnyH_take (i := 15) (oi := ?oi16) (v := ?v16) ?hi16 ?hs16 ?hf16 ?hr16 ?hQ16 ?hy16 ?hS16 ?rest16
    case hi16 => (simp only [List.getElem?_toArray, List.getElem?_cons_succ, List.getElem?_cons_zero]; rfl)
    case hs16 => kernel_rfl
    case hf16 => kernel_rfl
    case hr16 => kernel_rfl
    case hQ16 => exact fun _ _ _ h => h
    case hS16 => assumption
    case hy16 => (refine Or.inl ⟨by rfl, ?_⟩; intro w hSw; (try dsimp only at hSw); go_simp; all_goals with_reducible rfl)
    (try simp only [Act.put, List.setIfInBounds_toArray, List.set_cons_zero, List.set_cons_succ])
    refine' wpAnyH_take (i := 16) (oi := ?oi17) (v := ?v17) ?hi17 ?hs17 ?hf17 ?hr17 ?hQ17 ?hy17 ?hS17 ?rest17
    case hi17 => (simp only [List.getElem?_toArray, List.getElem?_cons_succ, List.getElem?_cons_zero]; rfl)
    case hs17 => kernel_rfl
    case hf17 => kernel_rfl
    case hr17 => kernel_rfl
    case hQ17 => exact fun _ _ _ h => h
    case hS17 => assumption
    case hy17 => (refine Or.inl ⟨by rfl, ?_⟩; intro w hSw; (try dsimp only at hSw); go_simp; all_goals with_reducible rfl)
    (try simp only [Act.put, List.setIfInBounds_toArray, List.set_cons_zero, List.set_cons_succ])
    refine' wpAnyH_take (i := 17) (oi := ?oi18) (v := .agg (sdA g q)) ?hi18 ?hs18 ?hf18 ?hr18 ?hQ18 ?hy18 ?hS18 ?rest18
    case hi18 => (simp only [List.getElem?_toArray, List.getElem?_cons_succ, List.getElem?_cons_zero]; rfl)
    case hs18 => kernel_rfl
    case hf18 => kernel_rfl
    case hr18 => kernel_rfl
    case hQ18 => exact fun _ _ _ h => h
    case hS18 => assumption
    case hy18 => exact yieldsIf_load_mid (by rfl) _ _ rfl _ 0 rfl ((sdA g q)).toList _ (fun w hSw => HY.out w hSw) Try.underlying36 rfl (by rw [Array.length_toList]; exact sdA_info_v _ _)
    (try simp only [Act.put, List.setIfInBounds_toArray, List.set_cons_zero, List.set_cons_succ])
    refine' wpAnyH_take (i := 19) (oi := ?oi19) (v := .agg (sdA g q)) ?hi19 ?hs19 ?hf19 ?hr19 ?hQ19 ?hy19 ?hS19 ?rest19
    case hi19 => (simp only [List.getElem?_toArray, List.getElem?_cons_succ, List.getElem?_cons_zero]; rfl)
    case hs19 => kernel_rfl
    case hf19 => kernel_rfl
    case hr19 => kernel_rfl
    case hQ19 => exact fun _ _ _ h => h
    case hS19 => assumption
    case hy19 => exact yieldsIf_load_mid (by rfl) _ _ rfl _ 0 rfl ((sdA g q)).toList _ (fun w hSw => HY.out w hSw) Try.underlying36 rfl (by rw [Array.length_toList]; exact sdA_info_v _ _)
    (try simp only [Act.put, List.setIfInBounds_toArray, List.set_cons_zero, List.set_cons_succ])
    refine wpAnyH_ready (rs := [18]) (by kernel_rfl) (by simp) ?_
    refine' AllReadyH.cons (o := ?oi20) ?hi20 (fun K hK => ?step20) AllReadyH.nil
    case hi20 => (simp only [List.getElem?_toArray, List.getElem?_cons_succ, List.getElem?_cons_zero]; rfl)
    rw [if_pos (by rfl)]
    go_simp
    (go_at_call 44; refine (sidesOk_i g q _).mono ?_; rintro e w' ⟨rfl, hb⟩)
    all_goals (try go_wp2_with fail)
    refine hK.out _ _ ?_ (fun hHeld => ?_)
    · (repeat (first | exact Below.refl _ _ | assumption | (refine bel_call ?_ (by assumption)) | (refine bel_alloc ?_ _) | (refine Below.drew ?_) | (refine bel_drewN ?_ _)))
    clear hK K
    (try simp only [Act.put, List.setIfInBounds_toArray, List.set_cons_zero, List.set_cons_succ])
    refine wpAnyH_ready (rs := [20]) (by kernel_rfl) (by simp) ?_
    refine' AllReadyH.cons (o := ?oi21) ?hi21 (fun K hK => ?step21) AllReadyH.nil
    case hi21 => (simp only [List.getElem?_toArray, List.getElem?_cons_succ, List.getElem?_cons_zero]; rfl)
    rw [if_pos (by rfl)]
    go_simp
    (go_at_call 45; refine (sidesOk_s g q _).mono ?_; rintro e w' ⟨rfl, hb⟩)
    all_goals (try go_wp2_with fail)
    refine hK.out _ _ ?_ (fun hHeld => ?_)
    · (repeat (first | exact Below.refl _ _ | assumption | (refine bel_call ?_ (by assumption)) | (refine bel_alloc ?_ _) | (refine Below.drew ?_) | (refine bel_drewN ?_ _)))
    clear hK K
    (try simp only [Act.put, List.setIfInBounds_toArray, List.set_cons_zero, List.set_cons_succ])
    refine' wpAnyH_take (i := 21) (oi := ?oi22) (v := ?v22) ?hi22 ?hs22 ?hf22 ?hr22 ?hQ22 ?hy22 ?hS22 ?rest22
    case hi22 => (simp only [List.getElem?_toArray, List.getElem?_cons_succ, List.getElem?_cons_zero]; rfl)
    case hs22 => kernel_rfl
    case hf22 => kernel_rfl
    case hr22 => kernel_rfl
    case hQ22 => exact fun _ _ _ h => h
    case hS22 => assumption
    case hy22 => (refine Or.inl ⟨by rfl, ?_⟩; intro w hSw; (try dsimp only at hSw); go_simp; all_goals with_reducible rfl)
    (try simp only [Act.put, List.setIfInBounds_toArray, List.set_cons_zero, List.set_cons_succ])
    refine' wpAnyH_take (i := 22) (oi := ?oi23) (v := ?v23) ?hi23 ?hs23 ?hf23 ?hr23 ?hQ23 ?hy23 ?hS23 ?rest23
    case hi23 => (simp only [List.getElem?_toArray, List.getElem?_cons_succ, List.getElem?_cons_zero]; rfl)
    case hs23 => kernel_rfl
    case hf23 => kernel_rfl
    case hr23 => kernel_rfl
    case hQ23 => exact fun _ _ _ h => h
    case hS23 => assumption
    case hy23 => (refine Or.inl ⟨by rfl, ?_⟩; intro w hSw; (try dsimp only at hSw); go_simp; all_goals with_reducible rfl)
    (try simp only [Act.put, List.setIfInBounds_toArray, List.set_cons_zero, List.set_cons_succ])
    refine wpAnyH_done (by kernel_rfl) ?_ _
    have hLn : Lw w [(bv, 34, #[Value.int .i64 K, Value.int .i64 N]), (bs, 36, sdA g q)] _ := HL.out.called hHeld
    replace HL := Lib.hid hLn
    clear hLn HY HV hHeld
    go_upto_region 8 with (first | (refine Lw.wp_alloc HL.out rfl 34 rfl (.agg #[.int .i64 0, .int .i64 0]) (by kernel_rfl) ?_; intro b W' hL; replace HL := Lib.hid hL; clear hL) | (refine Lw.wp_put HL.out rfl 34 _ _ rfl _ rfl rfl (by rfl) (by first | exact one2 _ _ | exact one4 _ _ _ _ | exact syA_one _ _ | exact sdA_one _ _) (by kernel_rfl) ?_; intro W' hL; replace HL := Lib.hid hL; clear hL) | (refine Lw.wp_put HL.out.swap rfl 34 _ _ rfl _ rfl rfl (by rfl) (by first | exact one2 _ _ | exact one4 _ _ _ _ | exact syA_one _ _ | exact sdA_one _ _) (by kernel_rfl) ?_; intro W' hL; replace HL := Lib.hid hL; clear hL) | (refine Lw.wp_load HL.out rfl 34 _ rfl _ rfl _ _ (by (first | exact List.mem_cons_self | exact List.mem_cons_of_mem _ List.mem_cons_self | exact List.mem_cons_of_mem _ (List.mem_cons_of_mem _ List.mem_cons_self))) _ Try.underlying34 rfl (by kernel_rfl) ?_) | (refine Lw.wp_alloc HL.out rfl 36 rfl (.agg (sdA (fun _ => 0) (fun _ => false))) (by kernel_rfl) ?_; intro b W' hL; replace HL := Lib.hid hL; clear hL) | (refine Lw.wp_put HL.out rfl 36 _ _ rfl _ rfl rfl (by rfl) (by first | exact one2 _ _ | exact one4 _ _ _ _ | exact syA_one _ _ | exact sdA_one _ _) (by kernel_rfl) ?_; intro W' hL; replace HL := Lib.hid hL; clear hL) | (refine Lw.wp_put HL.out.swap rfl 36 _ _ rfl _ rfl rfl (by rfl) (by first | exact one2 _ _ | exact one4 _ _ _ _ | exact syA_one _ _ | exact sdA_one _ _) (by kernel_rfl) ?_; intro W' hL; replace HL := Lib.hid hL; clear hL) | (refine Lw.wp_load HL.out rfl 36 _ rfl _ rfl _ _ (by (first | exact List.mem_cons_self | exact List.mem_cons_of_mem _ List.mem_cons_self | exact List.mem_cons_of_mem _ (List.mem_cons_of_mem _ List.mem_cons_self))) _ Try.underlying36 rfl (by kernel_rfl) ?_) | (refine Lw.wp_alloc HL.out rfl 38 rfl (.agg #[.int .i64 0, .int .i64 0, .int .i64 0, .int .i64 0]) (by kernel_rfl) ?_; intro b W' hL; replace HL := Lib.hid hL; clear hL) | (refine Lw.wp_put HL.out rfl 38 _ _ rfl _ rfl rfl (by rfl) (by first | exact one2 _ _ | exact one4 _ _ _ _ | exact syA_one _ _ | exact sdA_one _ _) (by kernel_rfl) ?_; intro W' hL; replace HL := Lib.hid hL; clear hL) | (refine Lw.wp_put HL.out.swap rfl 38 _ _ rfl _ rfl rfl (by rfl) (by first | exact one2 _ _ | exact one4 _ _ _ _ | exact syA_one _ _ | exact sdA_one _ _) (by kernel_rfl) ?_; intro W' hL; replace HL := Lib.hid hL; clear hL) | (refine Lw.wp_load HL.out rfl 38 _ rfl _ rfl _ _ (by (first | exact List.mem_cons_self | exact List.mem_cons_of_mem _ List.mem_cons_self | exact List.mem_cons_of_mem _ (List.mem_cons_of_mem _ List.mem_cons_self))) _ Try.underlying38 rfl (by kernel_rfl) ?_))
    obtain ⟨bt, hbs⟩ : ∃ x, x = b := ⟨_, rfl⟩
    subst hbs
    have c10 := (HL.out.cell (List.mem_cons_of_mem _ (List.mem_cons_of_mem _ (List.mem_cons_self))) 10).trans (sdA_int g q 10 rfl)
    have c11 := (HL.out.cell (List.mem_cons_of_mem _ (List.mem_cons_of_mem _ (List.mem_cons_self))) 11).trans (sdA_int g q 11 rfl)
    go_upto_region 9 with (refine Lw.wp_part HL.out rfl 34 _ _ rfl 8 #[Value.int .i64 (g 10), Value.int .i64 (g 11)] rfl rfl _ (turn_a g q) (by rw [sdA_size]; simp) (one2 _ _) (by kernel_rfl) ?_; intro W' hL; replace HL := Lib.hid hL; clear hL)
    clear c10 c11
    have c8 := (HL.out.cell (List.mem_cons_of_mem _ (List.mem_cons_of_mem _ (List.mem_cons_self))) 8).trans (sdA_int g q 8 rfl)
    have c9 := (HL.out.cell (List.mem_cons_of_mem _ (List.mem_cons_of_mem _ (List.mem_cons_self))) 9).trans (sdA_int g q 9 rfl)
    go_upto_region 10 with (refine Lw.wp_part HL.out rfl 34 _ _ rfl 10 #[Value.int .i64 (g 8), Value.int .i64 (g 9)] rfl rfl _ (turn_b g q) (by rw [sdA_size]; simp) (one2 _ _) (by kernel_rfl) ?_; intro W' hL; replace HL := Lib.hid hL; clear hL)
    clear c8 c9
    go_wp2_with fail
    refine (drawMarginOf_s _ a cap l hle (HR.out.below HL.out.bel)).mono ?_
    rintro e w2 ⟨g8, q8, sd8, t8, z8, hg8, hs8, hz8, rfl, hb⟩
    replace HL := Lib.hid (HL.out.called hb)
    clear hb hg8 hs8 hz8
    go_upto_region 11 with (first | (refine Lw.wp_alloc HL.out rfl 34 rfl (.agg #[.int .i64 0, .int .i64 0]) (by kernel_rfl) ?_; intro b W' hL; replace HL := Lib.hid hL; clear hL) | (refine Lw.wp_put HL.out rfl 34 _ _ rfl _ rfl rfl (by rfl) (by first | exact one2 _ _ | exact one4 _ _ _ _ | exact syA_one _ _ | exact sdA_one _ _) (by kernel_rfl) ?_; intro W' hL; replace HL := Lib.hid hL; clear hL) | (refine Lw.wp_put HL.out.swap rfl 34 _ _ rfl _ rfl rfl (by rfl) (by first | exact one2 _ _ | exact one4 _ _ _ _ | exact syA_one _ _ | exact sdA_one _ _) (by kernel_rfl) ?_; intro W' hL; replace HL := Lib.hid hL; clear hL) | (refine Lw.wp_load HL.out rfl 34 _ rfl _ rfl _ _ (by (first | exact List.mem_cons_self | exact List.mem_cons_of_mem _ List.mem_cons_self | exact List.mem_cons_of_mem _ (List.mem_cons_of_mem _ List.mem_cons_self))) _ Try.underlying34 rfl (by kernel_rfl) ?_) | (refine Lw.wp_alloc HL.out rfl 36 rfl (.agg (sdA (fun _ => 0) (fun _ => false))) (by kernel_rfl) ?_; intro b W' hL; replace HL := Lib.hid hL; clear hL) | (refine Lw.wp_put HL.out rfl 36 _ _ rfl _ rfl rfl (by rfl) (by first | exact one2 _ _ | exact one4 _ _ _ _ | exact syA_one _ _ | exact sdA_one _ _) (by kernel_rfl) ?_; intro W' hL; replace HL := Lib.hid hL; clear hL) | (refine Lw.wp_put HL.out.swap rfl 36 _ _ rfl _ rfl rfl (by rfl) (by first | exact one2 _ _ | exact one4 _ _ _ _ | exact syA_one _ _ | exact sdA_one _ _) (by kernel_rfl) ?_; intro W' hL; replace HL := Lib.hid hL; clear hL) | (refine Lw.wp_load HL.out rfl 36 _ rfl _ rfl _ _ (by (first | exact List.mem_cons_self | exact List.mem_cons_of_mem _ List.mem_cons_self | exact List.mem_cons_of_mem _ (List.mem_cons_of_mem _ List.mem_cons_self))) _ Try.underlying36 rfl (by kernel_rfl) ?_) | (refine Lw.wp_alloc HL.out rfl 38 rfl (.agg #[.int .i64 0, .int .i64 0, .int .i64 0, .int .i64 0]) (by kernel_rfl) ?_; intro b W' hL; replace HL := Lib.hid hL; clear hL) | (refine Lw.wp_put HL.out rfl 38 _ _ rfl _ rfl rfl (by rfl) (by first | exact one2 _ _ | exact one4 _ _ _ _ | exact syA_one _ _ | exact sdA_one _ _) (by kernel_rfl) ?_; intro W' hL; replace HL := Lib.hid hL; clear hL) | (refine Lw.wp_put HL.out.swap rfl 38 _ _ rfl _ rfl rfl (by rfl) (by first | exact one2 _ _ | exact one4 _ _ _ _ | exact syA_one _ _ | exact sdA_one _ _) (by kernel_rfl) ?_; intro W' hL; replace HL := Lib.hid hL; clear hL) | (refine Lw.wp_load HL.out rfl 38 _ rfl _ rfl _ _ (by (first | exact List.mem_cons_self | exact List.mem_cons_of_mem _ List.mem_cons_self | exact List.mem_cons_of_mem _ (List.mem_cons_of_mem _ List.mem_cons_self))) _ Try.underlying38 rfl (by kernel_rfl) ?_))
    obtain ⟨bm, hbs⟩ : ∃ x, x = b := ⟨_, rfl⟩
    subst hbs
    go_wp2_with fail
    refine (drawWideOf_s _ a cap l hle (HR.out.below HL.out.bel)).mono ?_
    rintro e w3 ⟨e0, he, rfl, hb⟩
    replace HL := Lib.hid (HL.out.called hb)
    clear hb he
    go_upto_region 12 with (first | (refine Lw.wp_alloc HL.out rfl 34 rfl (.agg #[.int .i64 0, .int .i64 0]) (by kernel_rfl) ?_; intro b W' hL; replace HL := Lib.hid hL; clear hL) | (refine Lw.wp_put HL.out rfl 34 _ _ rfl _ rfl rfl (by rfl) (by first | exact one2 _ _ | exact one4 _ _ _ _ | exact syA_one _ _ | exact sdA_one _ _) (by kernel_rfl) ?_; intro W' hL; replace HL := Lib.hid hL; clear hL) | (refine Lw.wp_put HL.out.swap rfl 34 _ _ rfl _ rfl rfl (by rfl) (by first | exact one2 _ _ | exact one4 _ _ _ _ | exact syA_one _ _ | exact sdA_one _ _) (by kernel_rfl) ?_; intro W' hL; replace HL := Lib.hid hL; clear hL) | (refine Lw.wp_load HL.out rfl 34 _ rfl _ rfl _ _ (by (first | exact List.mem_cons_self | exact List.mem_cons_of_mem _ List.mem_cons_self | exact List.mem_cons_of_mem _ (List.mem_cons_of_mem _ List.mem_cons_self))) _ Try.underlying34 rfl (by kernel_rfl) ?_) | (refine Lw.wp_alloc HL.out rfl 36 rfl (.agg (sdA (fun _ => 0) (fun _ => false))) (by kernel_rfl) ?_; intro b W' hL; replace HL := Lib.hid hL; clear hL) | (refine Lw.wp_put HL.out rfl 36 _ _ rfl _ rfl rfl (by rfl) (by first | exact one2 _ _ | exact one4 _ _ _ _ | exact syA_one _ _ | exact sdA_one _ _) (by kernel_rfl) ?_; intro W' hL; replace HL := Lib.hid hL; clear hL) | (refine Lw.wp_put HL.out.swap rfl 36 _ _ rfl _ rfl rfl (by rfl) (by first | exact one2 _ _ | exact one4 _ _ _ _ | exact syA_one _ _ | exact sdA_one _ _) (by kernel_rfl) ?_; intro W' hL; replace HL := Lib.hid hL; clear hL) | (refine Lw.wp_load HL.out rfl 36 _ rfl _ rfl _ _ (by (first | exact List.mem_cons_self | exact List.mem_cons_of_mem _ List.mem_cons_self | exact List.mem_cons_of_mem _ (List.mem_cons_of_mem _ List.mem_cons_self))) _ Try.underlying36 rfl (by kernel_rfl) ?_) | (refine Lw.wp_alloc HL.out rfl 38 rfl (.agg #[.int .i64 0, .int .i64 0, .int .i64 0, .int .i64 0]) (by kernel_rfl) ?_; intro b W' hL; replace HL := Lib.hid hL; clear hL) | (refine Lw.wp_put HL.out rfl 38 _ _ rfl _ rfl rfl (by rfl) (by first | exact one2 _ _ | exact one4 _ _ _ _ | exact syA_one _ _ | exact sdA_one _ _) (by kernel_rfl) ?_; intro W' hL; replace HL := Lib.hid hL; clear hL) | (refine Lw.wp_put HL.out.swap rfl 38 _ _ rfl _ rfl rfl (by rfl) (by first | exact one2 _ _ | exact one4 _ _ _ _ | exact syA_one _ _ | exact sdA_one _ _) (by kernel_rfl) ?_; intro W' hL; replace HL := Lib.hid hL; clear hL) | (refine Lw.wp_load HL.out rfl 38 _ rfl _ rfl _ _ (by (first | exact List.mem_cons_self | exact List.mem_cons_of_mem _ List.mem_cons_self | exact List.mem_cons_of_mem _ (List.mem_cons_of_mem _ List.mem_cons_self))) _ Try.underlying38 rfl (by kernel_rfl) ?_))
    have HE : Hid (∀ W, Below W'.heap.size W' W → W.rangeAt b 0 (#[Value.int .i64 (e0 0), Value.int .i64 (e0 1), Value.int .i64 (e0 2), Value.int .i64 (e0 3)]).toList) := Lib.hid (fun W h j v hj => by
      rw [Nat.zero_add, (HL.out.called h).cell (List.mem_cons_self)]
      simpa using hj)
    have HM : Hid (∀ W, Below W'.heap.size W' W → W.rangeAt bm 0 (sdA g8 q8).toList) := Lib.hid (fun W h j v hj => by
      rw [Nat.zero_add, (HL.out.called h).cell (List.mem_cons_of_mem _ (List.mem_cons_self))]
      simpa using hj)
    have HT2 : Hid (∀ W, Below W'.heap.size W' W → W.rangeAt bt 0 (sdA (turnG g) q).toList) := Lib.hid (fun W h j v hj => by
      rw [Nat.zero_add, (HL.out.called h).cell (List.mem_cons_of_mem _ (List.mem_cons_of_mem _ (List.mem_cons_self)))]
      simpa using hj)
    have HV : Hid (∀ W, Below W'.heap.size W' W → W.rangeAt bv 0 (#[Value.int .i64 K, Value.int .i64 N]).toList) := Lib.hid (fun W h j v hj => by
      rw [Nat.zero_add, (HL.out.called h).cell (List.mem_cons_of_mem _ (List.mem_cons_of_mem _ (List.mem_cons_of_mem _ (List.mem_cons_self))))]
      simpa using hj)
    refine wp_region_held_drew (S := (fun w' => Below W'.heap.size W' w')) (by kernel_rfl) ?_ (fun hHeld => ?_)
    · (repeat (first | exact Below.refl _ _ | assumption | (refine bel_call ?_ (by assumption)) | (refine bel_alloc ?_ _) | (refine Below.drew ?_) | (refine bel_drewN ?_ _)))
    refine' wpAnyH_take (i := 0) (oi := ?oi24) (v := .agg (sdA (turnG g) q)) ?hi24 ?hs24 ?hf24 ?hr24 ?hQ24 ?hy24 ?hS24 ?rest24
    case hi24 => (simp only [List.getElem?_toArray, List.getElem?_cons_zero]; rfl)
    case hs24 => kernel_rfl
    case hf24 => kernel_rfl
    case hr24 => kernel_rfl
    case hQ24 => exact fun _ _ _ h => h
    case hS24 => assumption
    case hy24 => exact yieldsIf_load_mid (by rfl) _ _ rfl _ 0 rfl ((sdA (turnG g) q)).toList _ (fun w hSw => HT2.out w hSw) Try.underlying36 rfl (by rw [Array.length_toList]; exact sdA_info_v _ _)
    (try simp only [Act.put, List.setIfInBounds_toArray, List.set_cons_zero, List.set_cons_succ])
    refine' wpAnyH_take (i := 1) (oi := ?oi25) (v := ?v25) ?hi25 ?hs25 ?hf25 ?hr25 ?hQ25 ?hy25 ?hS25 ?rest25
    case hi25 => (simp only [List.getElem?_toArray, List.getElem?_cons_succ, List.getElem?_cons_zero]; rfl)
    case hs25 => kernel_rfl
    case hf25 => kernel_rfl
    case hr25 => kernel_rfl
    case hQ25 => exact fun _ _ _ h => h
    case hS25 => assumption
    case hy25 => (refine Or.inl ⟨by rfl, ?_⟩; intro w hSw; (try dsimp only at hSw); go_simp; all_goals with_reducible rfl)
    (try simp only [Act.put, List.setIfInBounds_toArray, List.set_cons_zero, List.set_cons_succ])
    refine' wpAnyH_take (i := 2) (oi := ?oi26) (v := ?v26) ?hi26 ?hs26 ?hf26 ?hr26 ?hQ26 ?hy26 ?hS26 ?rest26
    case hi26 => (simp only [List.getElem?_toArray, List.getElem?_cons_succ, List.getElem?_cons_zero]; rfl)
    case hs26 => kernel_rfl
    case hf26 => kernel_rfl
    case hr26 => kernel_rfl
    case hQ26 => exact fun _ _ _ h => h
    case hS26 => assumption
    case hy26 => (refine Or.inl ⟨by rfl, ?_⟩; intro w hSw; (try dsimp only at hSw); go_simp; all_goals with_reducible rfl)
    (try simp only [Act.put, List.setIfInBounds_toArray, List.set_cons_zero, List.set_cons_succ])
    refine' wpAnyH_take (i := 3) (oi := ?oi27) (v := ?v27) ?hi27 ?hs27 ?hf27 ?hr27 ?hQ27 ?hy27 ?hS27 ?rest27
    case hi27 => (simp only [List.getElem?_toArray, List.getElem?_cons_succ, List.getElem?_cons_zero]; rfl)
    case hs27 => kernel_rfl
    case hf27 => kernel_rfl
    case hr27 => kernel_rfl
    case hQ27 => exact fun _ _ _ h => h
    case hS27 => assumption
    case hy27 => (refine Or.inl ⟨by rfl, ?_⟩; intro w hSw; (try dsimp only at hSw); go_simp; all_goals with_reducible rfl)
    (try simp only [Act.put, List.setIfInBounds_toArray, List.set_cons_zero, List.set_cons_succ])
    refine' wpAnyH_take (i := 5) (oi := ?oi28) (v := .agg (#[Value.int .i64 K, Value.int .i64 N])) ?hi28 ?hs28 ?hf28 ?hr28 ?hQ28 ?hy28 ?hS28 ?rest28
    case hi28 => (simp only [List.getElem?_toArray, List.getElem?_cons_succ, List.getElem?_cons_zero]; rfl)
    case hs28 => kernel_rfl
    case hf28 => kernel_rfl
    case hr28 => kernel_rfl
    case hQ28 => exact fun _ _ _ h => h
    case hS28 => assumption
    case hy28 => exact yieldsIf_load_mid (by rfl) _ _ rfl _ 0 rfl ((#[Value.int .i64 K, Value.int .i64 N])).toList _ (fun w hSw => HV.out w hSw) Try.underlying34 rfl (by kernel_rfl)
    (try simp only [Act.put, List.setIfInBounds_toArray, List.set_cons_zero, List.set_cons_succ])
    refine wpAnyH_ready (rs := [4]) (by kernel_rfl) (by simp) ?_
    refine' AllReadyH.cons (o := ?oi29) ?hi29 (fun K hK => ?step29) AllReadyH.nil
    case hi29 => (simp only [List.getElem?_toArray, List.getElem?_cons_succ, List.getElem?_cons_zero]; rfl)
    rw [if_pos (by rfl)]
    go_simp
    (go_at_call 41; refine (sideOf_i (turnG g) q sd (!t) _).mono ?_; rintro e w' ⟨rfl, hb⟩; rw [TK.out, TN.out])
    all_goals (try go_wp2_with fail)
    refine hK.out _ _ ?_ (fun hHeld => ?_)
    · (repeat (first | exact Below.refl _ _ | assumption | (refine bel_call ?_ (by assumption)) | (refine bel_alloc ?_ _) | (refine Below.drew ?_) | (refine bel_drewN ?_ _)))
    clear hK K
    (try simp only [Act.put, List.setIfInBounds_toArray, List.set_cons_zero, List.set_cons_succ])
    refine' wpAnyH_take (i := 6) (oi := ?oi30) (v := ?v30) ?hi30 ?hs30 ?hf30 ?hr30 ?hQ30 ?hy30 ?hS30 ?rest30
    case hi30 => (simp only [List.getElem?_toArray, List.getElem?_cons_succ, List.getElem?_cons_zero]; rfl)
    case hs30 => kernel_rfl
    case hf30 => kernel_rfl
    case hr30 => kernel_rfl
    case hQ30 => exact fun _ _ _ h => h
    case hS30 => assumption
    case hy30 => (refine Or.inl ⟨by rfl, ?_⟩; intro w hSw; (try dsimp only at hSw); go_simp; all_goals with_reducible rfl)
    (try simp only [Act.put, List.setIfInBounds_toArray, List.set_cons_zero, List.set_cons_succ])
    refine' wpAnyH_take (i := 7) (oi := ?oi31) (v := ?v31) ?hi31 ?hs31 ?hf31 ?hr31 ?hQ31 ?hy31 ?hS31 ?rest31
    case hi31 => (simp only [List.getElem?_toArray, List.getElem?_cons_succ, List.getElem?_cons_zero]; rfl)
    case hs31 => kernel_rfl
    case hf31 => kernel_rfl
    case hr31 => kernel_rfl
    case hQ31 => exact fun _ _ _ h => h
    case hS31 => assumption
    case hy31 => (refine Or.inl ⟨by rfl, ?_⟩; intro w hSw; (try dsimp only at hSw); go_simp; all_goals with_reducible rfl)
    (try simp only [Act.put, List.setIfInBounds_toArray, List.set_cons_zero, List.set_cons_succ])
    refine' wpAnyH_take (i := 8) (oi := ?oi32) (v := .agg (sdA g8 q8)) ?hi32 ?hs32 ?hf32 ?hr32 ?hQ32 ?hy32 ?hS32 ?rest32
    case hi32 => (simp only [List.getElem?_toArray, List.getElem?_cons_succ, List.getElem?_cons_zero]; rfl)
    case hs32 => kernel_rfl
    case hf32 => kernel_rfl
    case hr32 => kernel_rfl
    case hQ32 => exact fun _ _ _ h => h
    case hS32 => assumption
    case hy32 => exact yieldsIf_load_mid (by rfl) _ _ rfl _ 0 rfl ((sdA g8 q8)).toList _ (fun w hSw => HM.out w hSw) Try.underlying36 rfl (by rw [Array.length_toList]; exact sdA_info_v _ _)
    (try simp only [Act.put, List.setIfInBounds_toArray, List.set_cons_zero, List.set_cons_succ])
    refine' wpAnyH_take (i := 9) (oi := ?oi33) (v := ?v33) ?hi33 ?hs33 ?hf33 ?hr33 ?hQ33 ?hy33 ?hS33 ?rest33
    case hi33 => (simp only [List.getElem?_toArray, List.getElem?_cons_succ, List.getElem?_cons_zero]; rfl)
    case hs33 => kernel_rfl
    case hf33 => kernel_rfl
    case hr33 => kernel_rfl
    case hQ33 => exact fun _ _ _ h => h
    case hS33 => assumption
    case hy33 => (refine Or.inl ⟨by rfl, ?_⟩; intro w hSw; (try dsimp only at hSw); go_simp; all_goals with_reducible rfl)
    (try simp only [Act.put, List.setIfInBounds_toArray, List.set_cons_zero, List.set_cons_succ])
    refine' wpAnyH_take (i := 10) (oi := ?oi34) (v := ?v34) ?hi34 ?hs34 ?hf34 ?hr34 ?hQ34 ?hy34 ?hS34 ?rest34
    case hi34 => (simp only [List.getElem?_toArray, List.getElem?_cons_succ, List.getElem?_cons_zero]; rfl)
    case hs34 => kernel_rfl
    case hf34 => kernel_rfl
    case hr34 => kernel_rfl
    case hQ34 => exact fun _ _ _ h => h
    case hS34 => assumption
    case hy34 => (refine Or.inl ⟨by rfl, ?_⟩; intro w hSw; (try dsimp only at hSw); go_simp; all_goals with_reducible rfl)
    (try simp only [Act.put, List.setIfInBounds_toArray, List.set_cons_zero, List.set_cons_succ])
    refine' wpAnyH_take (i := 11) (oi := ?oi35) (v := ?v35) ?hi35 ?hs35 ?hf35 ?hr35 ?hQ35 ?hy35 ?hS35 ?rest35
    case hi35 => (simp only [List.getElem?_toArray, List.getElem?_cons_succ, List.getElem?_cons_zero]; rfl)
    case hs35 => kernel_rfl
    case hf35 => kernel_rfl
    case hr35 => kernel_rfl
    case hQ35 => exact fun _ _ _ h => h
    case hS35 => assumption
    case hy35 => (refine Or.inl ⟨by rfl, ?_⟩; intro w hSw; (try dsimp only at hSw); go_simp; all_goals with_reducible rfl)
    (try simp only [Act.put, List.setIfInBounds_toArray, List.set_cons_zero, List.set_cons_succ])
    refine' wpAnyH_take (i := 13) (oi := ?oi36) (v := .agg (sdA g8 q8)) ?hi36 ?hs36 ?hf36 ?hr36 ?hQ36 ?hy36 ?hS36 ?rest36
    case hi36 => (simp only [List.getElem?_toArray, List.getElem?_cons_succ, List.getElem?_cons_zero]; rfl)
    case hs36 => kernel_rfl
    case hf36 => kernel_rfl
    case hr36 => kernel_rfl
    case hQ36 => exact fun _ _ _ h => h
    case hS36 => assumption
    case hy36 => exact yieldsIf_load_mid (by rfl) _ _ rfl _ 0 rfl ((sdA g8 q8)).toList _ (fun w hSw => HM.out w hSw) Try.underlying36 rfl (by rw [Array.length_toList]; exact sdA_info_v _ _)
    (try simp only [Act.put, List.setIfInBounds_toArray, List.set_cons_zero, List.set_cons_succ])
    refine' wpAnyH_take (i := 14) (oi := ?oi37) (v := ?v37) ?hi37 ?hs37 ?hf37 ?hr37 ?hQ37 ?hy37 ?hS37 ?rest37
    case hi37 => (simp only [List.getElem?_toArray, List.getElem?_cons_succ, List.getElem?_cons_zero]; rfl)
    case hs37 => kernel_rfl
    case hf37 => kernel_rfl
    case hr37 => kernel_rfl
    case hQ37 => exact fun _ _ _ h => h
    case hS37 => assumption
    case hy37 => (refine Or.inl ⟨by rfl, ?_⟩; intro w hSw; (try dsimp only at hSw); go_simp; all_goals with_reducible rfl)
    (try simp only [Act.put, List.setIfInBounds_toArray, List.set_cons_zero, List.set_cons_succ])
    refine' wpAnyH_take (i := 15) (oi := ?oi38) (v := ?v38) ?hi38 ?hs38 ?hf38 ?hr38 ?hQ38 ?hy38 ?hS38 ?rest38
    case hi38 => (simp only [List.getElem?_toArray, List.getElem?_cons_succ, List.getElem?_cons_zero]; rfl)
    case hs38 => kernel_rfl
    case hf38 => kernel_rfl
    case hr38 => kernel_rfl
    case hQ38 => exact fun _ _ _ h => h
    case hS38 => assumption
    case hy38 => (refine Or.inl ⟨by rfl, ?_⟩; intro w hSw; (try dsimp only at hSw); go_simp; all_goals with_reducible rfl)
    (try simp only [Act.put, List.setIfInBounds_toArray, List.set_cons_zero, List.set_cons_succ])
    refine' wpAnyH_take (i := 16) (oi := ?oi39) (v := ?v39) ?hi39 ?hs39 ?hf39 ?hr39 ?hQ39 ?hy39 ?hS39 ?rest39
    case hi39 => (simp only [List.getElem?_toArray, List.getElem?_cons_succ, List.getElem?_cons_zero]; rfl)
    case hs39 => kernel_rfl
    case hf39 => kernel_rfl
    case hr39 => kernel_rfl
    case hQ39 => exact fun _ _ _ h => h
    case hS39 => assumption
    case hy39 => (refine Or.inl ⟨by rfl, ?_⟩; intro w hSw; (try dsimp only at hSw); go_simp; all_goals with_reducible rfl)
    (try simp only [Act.put, List.setIfInBounds_toArray, List.set_cons_zero, List.set_cons_succ])
    refine wpAnyH_ready (rs := [12]) (by kernel_rfl) (by simp) ?_
    refine' AllReadyH.cons (o := ?oi40) ?hi40 (fun K hK => ?step40) AllReadyH.nil
    case hi40 => (simp only [List.getElem?_toArray, List.getElem?_cons_succ, List.getElem?_cons_zero]; rfl)
    rw [if_pos (by rfl)]
    go_simp
    (go_at_call 48; refine (marginOf_i g8 q8 sd8 t8 z8 _).mono ?_; rintro e w' ⟨rfl, hb⟩)
    all_goals (try go_wp2_with fail)
    refine hK.out _ _ ?_ (fun hHeld => ?_)
    · (repeat (first | exact Below.refl _ _ | assumption | (refine bel_call ?_ (by assumption)) | (refine bel_alloc ?_ _) | (refine Below.drew ?_) | (refine bel_drewN ?_ _)))
    clear hK K
    (try simp only [Act.put, List.setIfInBounds_toArray, List.set_cons_zero, List.set_cons_succ])
    refine wpAnyH_ready (rs := [17]) (by kernel_rfl) (by simp) ?_
    refine' AllReadyH.cons (o := ?oi41) ?hi41 (fun K hK => ?step41) AllReadyH.nil
    case hi41 => (simp only [List.getElem?_toArray, List.getElem?_cons_succ, List.getElem?_cons_zero]; rfl)
    rw [if_pos (by rfl)]
    go_simp
    (go_at_call 49; refine (marginOf_s g8 q8 sd8 t8 z8 _).mono ?_; rintro e w' ⟨rfl, hb⟩)
    all_goals (try go_wp2_with fail)
    refine hK.out _ _ ?_ (fun hHeld => ?_)
    · (repeat (first | exact Below.refl _ _ | assumption | (refine bel_call ?_ (by assumption)) | (refine bel_alloc ?_ _) | (refine Below.drew ?_) | (refine bel_drewN ?_ _)))
    clear hK K
    (try simp only [Act.put, List.setIfInBounds_toArray, List.set_cons_zero, List.set_cons_succ])
    refine' wpAnyH_take (i := 18) (oi := ?oi42) (v := ?v42) ?hi42 ?hs42 ?hf42 ?hr42 ?hQ42 ?hy42 ?hS42 ?rest42
    case hi42 => (simp only [List.getElem?_toArray, List.getElem?_cons_succ, List.getElem?_cons_zero]; rfl)
    case hs42 => kernel_rfl
    case hf42 => kernel_rfl
    case hr42 => kernel_rfl
    case hQ42 => exact fun _ _ _ h => h
    case hS42 => assumption
    case hy42 => (refine Or.inl ⟨by rfl, ?_⟩; intro w hSw; (try dsimp only at hSw); go_simp; all_goals with_reducible rfl)
    (try simp only [Act.put, List.setIfInBounds_toArray, List.set_cons_zero, List.set_cons_succ])
    refine' wpAnyH_take (i := 19) (oi := ?oi43) (v := ?v43) ?hi43 ?hs43 ?hf43 ?hr43 ?hQ43 ?hy43 ?hS43 ?rest43
    case hi43 => (simp only [List.getElem?_toArray, List.getElem?_cons_succ, List.getElem?_cons_zero]; rfl)
    case hs43 => kernel_rfl
    case hf43 => kernel_rfl
    case hr43 => kernel_rfl
    case hQ43 => exact fun _ _ _ h => h
    case hS43 => assumption
    case hy43 => (refine Or.inl ⟨by rfl, ?_⟩; intro w hSw; (try dsimp only at hSw); go_simp; all_goals with_reducible rfl)
    (try simp only [Act.put, List.setIfInBounds_toArray, List.set_cons_zero, List.set_cons_succ])
    refine' wpAnyH_take (i := 20) (oi := ?oi44) (v := ?v44) ?hi44 ?hs44 ?hf44 ?hr44 ?hQ44 ?hy44 ?hS44 ?rest44
    case hi44 => (simp only [List.getElem?_toArray, List.getElem?_cons_succ, List.getElem?_cons_zero]; rfl)
    case hs44 => kernel_rfl
    case hf44 => kernel_rfl
    case hr44 => kernel_rfl
    case hQ44 => exact fun _ _ _ h => h
    case hS44 => assumption
    case hy44 => (refine Or.inl ⟨by rfl, ?_⟩; intro w hSw; (try dsimp only at hSw); go_simp; all_goals with_reducible rfl)
    (try simp only [Act.put, List.setIfInBounds_toArray, List.set_cons_zero, List.set_cons_succ])
    refine' wpAnyH_take (i := 21) (oi := ?oi45) (v := .agg (#[Value.int .i64 (e0 0), Value.int .i64 (e0 1), Value.int .i64 (e0 2), Value.int .i64 (e0 3)])) ?hi45 ?hs45 ?hf45 ?hr45 ?hQ45 ?hy45 ?hS45 ?rest45
    case hi45 => (simp only [List.getElem?_toArray, List.getElem?_cons_succ, List.getElem?_cons_zero]; rfl)
    case hs45 => kernel_rfl
    case hf45 => kernel_rfl
    case hr45 => kernel_rfl
    case hQ45 => exact fun _ _ _ h => h
    case hS45 => assumption
    case hy45 => exact yieldsIf_load_mid (by rfl) _ _ rfl _ 0 rfl ((#[Value.int .i64 (e0 0), Value.int .i64 (e0 1), Value.int .i64 (e0 2), Value.int .i64 (e0 3)])).toList _ (fun w hSw => HE.out w hSw) Try.underlying38 rfl (by kernel_rfl)
    (try simp only [Act.put, List.setIfInBounds_toArray, List.set_cons_zero, List.set_cons_succ])
    refine' wpAnyH_take (i := 23) (oi := ?oi46) (v := .agg (#[Value.int .i64 (e0 0), Value.int .i64 (e0 1), Value.int .i64 (e0 2), Value.int .i64 (e0 3)])) ?hi46 ?hs46 ?hf46 ?hr46 ?hQ46 ?hy46 ?hS46 ?rest46
    case hi46 => (simp only [List.getElem?_toArray, List.getElem?_cons_succ, List.getElem?_cons_zero]; rfl)
    case hs46 => kernel_rfl
    case hf46 => kernel_rfl
    case hr46 => kernel_rfl
    case hQ46 => exact fun _ _ _ h => h
    case hS46 => assumption
    case hy46 => exact yieldsIf_load_mid (by rfl) _ _ rfl _ 0 rfl ((#[Value.int .i64 (e0 0), Value.int .i64 (e0 1), Value.int .i64 (e0 2), Value.int .i64 (e0 3)])).toList _ (fun w hSw => HE.out w hSw) Try.underlying38 rfl (by kernel_rfl)
    (try simp only [Act.put, List.setIfInBounds_toArray, List.set_cons_zero, List.set_cons_succ])
    refine wpAnyH_ready (rs := [22]) (by kernel_rfl) (by simp) ?_
    refine' AllReadyH.cons (o := ?oi47) ?hi47 (fun K hK => ?step47) AllReadyH.nil
    case hi47 => (simp only [List.getElem?_toArray, List.getElem?_cons_succ, List.getElem?_cons_zero]; rfl)
    rw [if_pos (by rfl)]
    go_simp
    (go_at_call 50; refine (wideOf_i (e0 0) (e0 1) (e0 2) (e0 3) _).mono ?_; rintro e w' ⟨rfl, hb⟩)
    all_goals (try go_wp2_with fail)
    refine hK.out _ _ ?_ (fun hHeld => ?_)
    · (repeat (first | exact Below.refl _ _ | assumption | (refine bel_call ?_ (by assumption)) | (refine bel_alloc ?_ _) | (refine Below.drew ?_) | (refine bel_drewN ?_ _)))
    clear hK K
    (try simp only [Act.put, List.setIfInBounds_toArray, List.set_cons_zero, List.set_cons_succ])
    refine wpAnyH_ready (rs := [24]) (by kernel_rfl) (by simp) ?_
    refine' AllReadyH.cons (o := ?oi48) ?hi48 (fun K hK => ?step48) AllReadyH.nil
    case hi48 => (simp only [List.getElem?_toArray, List.getElem?_cons_succ, List.getElem?_cons_zero]; rfl)
    rw [if_pos (by rfl)]
    go_simp
    (go_at_call 51; refine (wideOf_s (e0 0) (e0 1) (e0 2) (e0 3) _).mono ?_; rintro e w' ⟨rfl, hb⟩)
    all_goals (try go_wp2_with fail)
    refine hK.out _ _ ?_ (fun hHeld => ?_)
    · (repeat (first | exact Below.refl _ _ | assumption | (refine bel_call ?_ (by assumption)) | (refine bel_alloc ?_ _) | (refine Below.drew ?_) | (refine bel_drewN ?_ _)))
    clear hK K
    (try simp only [Act.put, List.setIfInBounds_toArray, List.set_cons_zero, List.set_cons_succ])
    refine' wpAnyH_take (i := 25) (oi := ?oi49) (v := ?v49) ?hi49 ?hs49 ?hf49 ?hr49 ?hQ49 ?hy49 ?hS49 ?rest49
    case hi49 => (simp only [List.getElem?_toArray, List.getElem?_cons_succ, List.getElem?_cons_zero]; rfl)
    case hs49 => kernel_rfl
    case hf49 => kernel_rfl
    case hr49 => kernel_rfl
    case hQ49 => exact fun _ _ _ h => h
    case hS49 => assumption
    case hy49 => (refine Or.inl ⟨by rfl, ?_⟩; intro w hSw; (try dsimp only at hSw); go_simp; all_goals with_reducible rfl)
    (try simp only [Act.put, List.setIfInBounds_toArray, List.set_cons_zero, List.set_cons_succ])
    refine' wpAnyH_take (i := 26) (oi := ?oi50) (v := ?v50) ?hi50 ?hs50 ?hf50 ?hr50 ?hQ50 ?hy50 ?hS50 ?rest50
    case hi50 => (simp only [List.getElem?_toArray, List.getElem?_cons_succ, List.getElem?_cons_zero]; rfl)
    case hs50 => kernel_rfl
    case hf50 => kernel_rfl
    case hr50 => kernel_rfl
    case hQ50 => exact fun _ _ _ h => h
    case hS50 => assumption
    case hy50 => (refine Or.inl ⟨by rfl, ?_⟩; intro w hSw; (try dsimp only at hSw); go_simp; all_goals with_reducible rfl)
    (try simp only [Act.put, List.setIfInBounds_toArray, List.set_cons_zero, List.set_cons_succ])
    refine' wpAnyH_take (i := 27) (oi := ?oi51) (v := ?v51) ?hi51 ?hs51 ?hf51 ?hr51 ?hQ51 ?hy51 ?hS51 ?rest51
    case hi51 => (simp only [List.getElem?_toArray, List.getElem?_cons_succ, List.getElem?_cons_zero]; rfl)
    case hs51 => kernel_rfl
    case hf51 => kernel_rfl
    case hr51 => kernel_rfl
    case hQ51 => exact fun _ _ _ h => h
    case hS51 => assumption
    case hy51 => (refine Or.inl ⟨by rfl, ?_⟩; intro w hSw; (try dsimp only at hSw); go_simp; all_goals with_reducible rfl)
    (try simp only [Act.put, List.setIfInBounds_toArray, List.set_cons_zero, List.set_cons_succ])
    refine' wpAnyH_take (i := 28) (oi := ?oi52) (v := .agg (#[Value.int .i64 (e0 0), Value.int .i64 (e0 1), Value.int .i64 (e0 2), Value.int .i64 (e0 3)])) ?hi52 ?hs52 ?hf52 ?hr52 ?hQ52 ?hy52 ?hS52 ?rest52
    case hi52 => (simp only [List.getElem?_toArray, List.getElem?_cons_succ, List.getElem?_cons_zero]; rfl)
    case hs52 => kernel_rfl
    case hf52 => kernel_rfl
    case hr52 => kernel_rfl
    case hQ52 => exact fun _ _ _ h => h
    case hS52 => assumption
    case hy52 => exact yieldsIf_load_mid (by rfl) _ _ rfl _ 0 rfl ((#[Value.int .i64 (e0 0), Value.int .i64 (e0 1), Value.int .i64 (e0 2), Value.int .i64 (e0 3)])).toList _ (fun w hSw => HE.out w hSw) Try.underlying38 rfl (by kernel_rfl)
    (try simp only [Act.put, List.setIfInBounds_toArray, List.set_cons_zero, List.set_cons_succ])
    refine' wpAnyH_take (i := 30) (oi := ?oi53) (v := .agg (#[Value.int .i64 (e0 0), Value.int .i64 (e0 1), Value.int .i64 (e0 2), Value.int .i64 (e0 3)])) ?hi53 ?hs53 ?hf53 ?hr53 ?hQ53 ?hy53 ?hS53 ?rest53
    case hi53 => (simp only [List.getElem?_toArray, List.getElem?_cons_succ, List.getElem?_cons_zero]; rfl)
    case hs53 => kernel_rfl
    case hf53 => kernel_rfl
    case hr53 => kernel_rfl
    case hQ53 => exact fun _ _ _ h => h
    case hS53 => assumption
    case hy53 => exact yieldsIf_load_mid (by rfl) _ _ rfl _ 0 rfl ((#[Value.int .i64 (e0 0), Value.int .i64 (e0 1), Value.int .i64 (e0 2), Value.int .i64 (e0 3)])).toList _ (fun w hSw => HE.out w hSw) Try.underlying38 rfl (by kernel_rfl)
    (try simp only [Act.put, List.setIfInBounds_toArray, List.set_cons_zero, List.set_cons_succ])
    refine wpAnyH_ready (rs := [29]) (by kernel_rfl) (by simp) ?_
    refine' AllReadyH.cons (o := ?oi54) ?hi54 (fun K hK => ?step54) AllReadyH.nil
    case hi54 => (simp only [List.getElem?_toArray, List.getElem?_cons_succ, List.getElem?_cons_zero]; rfl)
    rw [if_pos (by rfl)]
    go_simp
    (go_at_call 52; refine (highOf_i (e0 0) (e0 1) (e0 2) (e0 3) _).mono ?_; rintro e w' ⟨rfl, hb⟩)
    all_goals (try go_wp2_with fail)
    refine hK.out _ _ ?_ (fun hHeld => ?_)
    · (repeat (first | exact Below.refl _ _ | assumption | (refine bel_call ?_ (by assumption)) | (refine bel_alloc ?_ _) | (refine Below.drew ?_) | (refine bel_drewN ?_ _)))
    clear hK K
    (try simp only [Act.put, List.setIfInBounds_toArray, List.set_cons_zero, List.set_cons_succ])
    refine wpAnyH_ready (rs := [31]) (by kernel_rfl) (by simp) ?_
    refine' AllReadyH.cons (o := ?oi55) ?hi55 (fun K hK => ?step55) AllReadyH.nil
    case hi55 => (simp only [List.getElem?_toArray, List.getElem?_cons_succ, List.getElem?_cons_zero]; rfl)
    rw [if_pos (by rfl)]
    go_simp
    (go_at_call 53; refine (highOf_s (e0 0) (e0 1) (e0 2) (e0 3) _).mono ?_; rintro e w' ⟨rfl, hb⟩)
    all_goals (try go_wp2_with fail)
    refine hK.out _ _ ?_ (fun hHeld => ?_)
    · (repeat (first | exact Below.refl _ _ | assumption | (refine bel_call ?_ (by assumption)) | (refine bel_alloc ?_ _) | (refine Below.drew ?_) | (refine bel_drewN ?_ _)))
    clear hK K
    (try simp only [Act.put, List.setIfInBounds_toArray, List.set_cons_zero, List.set_cons_succ])
    refine' wpAnyH_take (i := 32) (oi := ?oi56) (v := ?v56) ?hi56 ?hs56 ?hf56 ?hr56 ?hQ56 ?hy56 ?hS56 ?rest56
    case hi56 => (simp only [List.getElem?_toArray, List.getElem?_cons_succ, List.getElem?_cons_zero]; rfl)
    case hs56 => kernel_rfl
    case hf56 => kernel_rfl
    case hr56 => kernel_rfl
    case hQ56 => exact fun _ _ _ h => h
    case hS56 => assumption
    case hy56 => (refine Or.inl ⟨by rfl, ?_⟩; intro w hSw; (try dsimp only at hSw); go_simp; all_goals with_reducible rfl)
    (try simp only [Act.put, List.setIfInBounds_toArray, List.set_cons_zero, List.set_cons_succ])
    refine' wpAnyH_take (i := 33) (oi := ?oi57) (v := ?v57) ?hi57 ?hs57 ?hf57 ?hr57 ?hQ57 ?hy57 ?hS57 ?rest57
    case hi57 => (simp only [List.getElem?_toArray, List.getElem?_cons_succ, List.getElem?_cons_zero]; rfl)
    case hs57 => kernel_rfl
    case hf57 => kernel_rfl
    case hr57 => kernel_rfl
    case hQ57 => exact fun _ _ _ h => h
    case hS57 => assumption
    case hy57 => (refine Or.inl ⟨by rfl, ?_⟩; intro w hSw; (try dsimp only at hSw); go_simp; all_goals with_reducible rfl)
    (try simp only [Act.put, List.setIfInBounds_toArray, List.set_cons_zero, List.set_cons_succ])
    refine' wpAnyH_take (i := 34) (oi := ?oi58) (v := ?v58) ?hi58 ?hs58 ?hf58 ?hr58 ?hQ58 ?hy58 ?hS58 ?rest58
    case hi58 => (simp only [List.getElem?_toArray, List.getElem?_cons_succ, List.getElem?_cons_zero]; rfl)
    case hs58 => kernel_rfl
    case hf58 => kernel_rfl
    case hr58 => kernel_rfl
    case hQ58 => exact fun _ _ _ h => h
    case hS58 => assumption
    case hy58 => (refine Or.inl ⟨by rfl, ?_⟩; intro w hSw; (try dsimp only at hSw); go_simp; all_goals with_reducible rfl)
    (try simp only [Act.put, List.setIfInBounds_toArray, List.set_cons_zero, List.set_cons_succ])
    refine' wpAnyH_take (i := 35) (oi := ?oi59) (v := .agg (#[Value.int .i64 (e0 0), Value.int .i64 (e0 1), Value.int .i64 (e0 2), Value.int .i64 (e0 3)])) ?hi59 ?hs59 ?hf59 ?hr59 ?hQ59 ?hy59 ?hS59 ?rest59
    case hi59 => (simp only [List.getElem?_toArray, List.getElem?_cons_succ, List.getElem?_cons_zero]; rfl)
    case hs59 => kernel_rfl
    case hf59 => kernel_rfl
    case hr59 => kernel_rfl
    case hQ59 => exact fun _ _ _ h => h
    case hS59 => assumption
    case hy59 => exact yieldsIf_load_mid (by rfl) _ _ rfl _ 0 rfl ((#[Value.int .i64 (e0 0), Value.int .i64 (e0 1), Value.int .i64 (e0 2), Value.int .i64 (e0 3)])).toList _ (fun w hSw => HE.out w hSw) Try.underlying38 rfl (by kernel_rfl)
    (try simp only [Act.put, List.setIfInBounds_toArray, List.set_cons_zero, List.set_cons_succ])
    refine' wpAnyH_take (i := 37) (oi := ?oi60) (v := .agg (#[Value.int .i64 (e0 0), Value.int .i64 (e0 1), Value.int .i64 (e0 2), Value.int .i64 (e0 3)])) ?hi60 ?hs60 ?hf60 ?hr60 ?hQ60 ?hy60 ?hS60 ?rest60
    case hi60 => (simp only [List.getElem?_toArray, List.getElem?_cons_succ, List.getElem?_cons_zero]; rfl)
    case hs60 => kernel_rfl
    case hf60 => kernel_rfl
    case hr60 => kernel_rfl
    case hQ60 => exact fun _ _ _ h => h
    case hS60 => assumption
    case hy60 => exact yieldsIf_load_mid (by rfl) _ _ rfl _ 0 rfl ((#[Value.int .i64 (e0 0), Value.int .i64 (e0 1), Value.int .i64 (e0 2), Value.int .i64 (e0 3)])).toList _ (fun w hSw => HE.out w hSw) Try.underlying38 rfl (by kernel_rfl)
    (try simp only [Act.put, List.setIfInBounds_toArray, List.set_cons_zero, List.set_cons_succ])
    refine wpAnyH_ready (rs := [36]) (by kernel_rfl) (by simp) ?_
    refine' AllReadyH.cons (o := ?oi61) ?hi61 (fun K hK => ?step61) AllReadyH.nil
    case hi61 => (simp only [List.getElem?_toArray, List.getElem?_cons_succ, List.getElem?_cons_zero]; rfl)
    rw [if_pos (by rfl)]
    go_simp
    (go_at_call 54; refine (edgesOk_i (e0 0) (e0 1) (e0 2) (e0 3) _).mono ?_; rintro e w' ⟨rfl, hb⟩)
    all_goals (try go_wp2_with fail)
    refine hK.out _ _ ?_ (fun hHeld => ?_)
    · (repeat (first | exact Below.refl _ _ | assumption | (refine bel_call ?_ (by assumption)) | (refine bel_alloc ?_ _) | (refine Below.drew ?_) | (refine bel_drewN ?_ _)))
    clear hK K
    (try simp only [Act.put, List.setIfInBounds_toArray, List.set_cons_zero, List.set_cons_succ])
    refine wpAnyH_ready (rs := [38]) (by kernel_rfl) (by simp) ?_
    refine' AllReadyH.cons (o := ?oi62) ?hi62 (fun K hK => ?step62) AllReadyH.nil
    case hi62 => (simp only [List.getElem?_toArray, List.getElem?_cons_succ, List.getElem?_cons_zero]; rfl)
    rw [if_pos (by rfl)]
    go_simp
    (go_at_call 55; refine (edgesOk_s (e0 0) (e0 1) (e0 2) (e0 3) _).mono ?_; rintro e w' ⟨rfl, hb⟩)
    all_goals (try go_wp2_with fail)
    refine hK.out _ _ ?_ (fun hHeld => ?_)
    · (repeat (first | exact Below.refl _ _ | assumption | (refine bel_call ?_ (by assumption)) | (refine bel_alloc ?_ _) | (refine Below.drew ?_) | (refine bel_drewN ?_ _)))
    clear hK K
    (try simp only [Act.put, List.setIfInBounds_toArray, List.set_cons_zero, List.set_cons_succ])
    refine' wpAnyH_take (i := 39) (oi := ?oi63) (v := ?v63) ?hi63 ?hs63 ?hf63 ?hr63 ?hQ63 ?hy63 ?hS63 ?rest63
    case hi63 => (simp only [List.getElem?_toArray, List.getElem?_cons_succ, List.getElem?_cons_zero]; rfl)
    case hs63 => kernel_rfl
    case hf63 => kernel_rfl
    case hr63 => kernel_rfl
    case hQ63 => exact fun _ _ _ h => h
    case hS63 => assumption
    case hy63 => (refine Or.inl ⟨by rfl, ?_⟩; intro w hSw; (try dsimp only at hSw); go_simp; all_goals with_reducible rfl)
    (try simp only [Act.put, List.setIfInBounds_toArray, List.set_cons_zero, List.set_cons_succ])
    refine' wpAnyH_take (i := 40) (oi := ?oi64) (v := ?v64) ?hi64 ?hs64 ?hf64 ?hr64 ?hQ64 ?hy64 ?hS64 ?rest64
    case hi64 => (simp only [List.getElem?_toArray, List.getElem?_cons_succ, List.getElem?_cons_zero]; rfl)
    case hs64 => kernel_rfl
    case hf64 => kernel_rfl
    case hr64 => kernel_rfl
    case hQ64 => exact fun _ _ _ h => h
    case hS64 => assumption
    case hy64 => (refine Or.inl ⟨by rfl, ?_⟩; intro w hSw; (try dsimp only at hSw); go_simp; all_goals with_reducible rfl)
    (try simp only [Act.put, List.setIfInBounds_toArray, List.set_cons_zero, List.set_cons_succ])
    refine' wpAnyH_take (i := 41) (oi := ?oi65) (v := ?v65) ?hi65 ?hs65 ?hf65 ?hr65 ?hQ65 ?hy65 ?hS65 ?rest65
    case hi65 => (simp only [List.getElem?_toArray, List.getElem?_cons_succ, List.getElem?_cons_zero]; rfl)
    case hs65 => kernel_rfl
    case hf65 => kernel_rfl
    case hr65 => kernel_rfl
    case hQ65 => exact fun _ _ _ h => h
    case hS65 => assumption
    case hy65 => (refine Or.inl ⟨by rfl, ?_⟩; intro w hSw; (try dsimp only at hSw); go_simp; all_goals with_reducible rfl)
    (try simp only [Act.put, List.setIfInBounds_toArray, List.set_cons_zero, List.set_cons_succ])
    refine' wpAnyH_take (i := 42) (oi := ?oi66) (v := .agg (#[Value.int .i64 (e0 0), Value.int .i64 (e0 1), Value.int .i64 (e0 2), Value.int .i64 (e0 3)])) ?hi66 ?hs66 ?hf66 ?hr66 ?hQ66 ?hy66 ?hS66 ?rest66
    case hi66 => (simp only [List.getElem?_toArray, List.getElem?_cons_succ, List.getElem?_cons_zero]; rfl)
    case hs66 => kernel_rfl
    case hf66 => kernel_rfl
    case hr66 => kernel_rfl
    case hQ66 => exact fun _ _ _ h => h
    case hS66 => assumption
    case hy66 => exact yieldsIf_load_mid (by rfl) _ _ rfl _ 0 rfl ((#[Value.int .i64 (e0 0), Value.int .i64 (e0 1), Value.int .i64 (e0 2), Value.int .i64 (e0 3)])).toList _ (fun w hSw => HE.out w hSw) Try.underlying38 rfl (by kernel_rfl)
    (try simp only [Act.put, List.setIfInBounds_toArray, List.set_cons_zero, List.set_cons_succ])
    refine' wpAnyH_take (i := 43) (oi := ?oi67) (v := ?v67) ?hi67 ?hs67 ?hf67 ?hr67 ?hQ67 ?hy67 ?hS67 ?rest67
    case hi67 => (simp only [List.getElem?_toArray, List.getElem?_cons_succ, List.getElem?_cons_zero]; rfl)
    case hs67 => kernel_rfl
    case hf67 => kernel_rfl
    case hr67 => kernel_rfl
    case hQ67 => exact fun _ _ _ h => h
    case hS67 => assumption
    case hy67 => (refine Or.inl ⟨by rfl, ?_⟩; intro w hSw; (try dsimp only at hSw); go_simp; all_goals with_reducible rfl)
    (try simp only [Act.put, List.setIfInBounds_toArray, List.set_cons_zero, List.set_cons_succ])
    refine' wpAnyH_take (i := 45) (oi := ?oi68) (v := .agg (#[Value.int .i64 (e0 0), Value.int .i64 (e0 1), Value.int .i64 (e0 2), Value.int .i64 (e0 3)])) ?hi68 ?hs68 ?hf68 ?hr68 ?hQ68 ?hy68 ?hS68 ?rest68
    case hi68 => (simp only [List.getElem?_toArray, List.getElem?_cons_succ, List.getElem?_cons_zero]; rfl)
    case hs68 => kernel_rfl
    case hf68 => kernel_rfl
    case hr68 => kernel_rfl
    case hQ68 => exact fun _ _ _ h => h
    case hS68 => assumption
    case hy68 => exact yieldsIf_load_mid (by rfl) _ _ rfl _ 0 rfl ((#[Value.int .i64 (e0 0), Value.int .i64 (e0 1), Value.int .i64 (e0 2), Value.int .i64 (e0 3)])).toList _ (fun w hSw => HE.out w hSw) Try.underlying38 rfl (by kernel_rfl)
    (try simp only [Act.put, List.setIfInBounds_toArray, List.set_cons_zero, List.set_cons_succ])
    refine' wpAnyH_take (i := 46) (oi := ?oi69) (v := ?v69) ?hi69 ?hs69 ?hf69 ?hr69 ?hQ69 ?hy69 ?hS69 ?rest69
    case hi69 => (simp only [List.getElem?_toArray, List.getElem?_cons_succ, List.getElem?_cons_zero]; rfl)
    case hs69 => kernel_rfl
    case hf69 => kernel_rfl
    case hr69 => kernel_rfl
    case hQ69 => exact fun _ _ _ h => h
    case hS69 => assumption
    case hy69 => (refine Or.inl ⟨by rfl, ?_⟩; intro w hSw; (try dsimp only at hSw); go_simp; all_goals with_reducible rfl)
    (try simp only [Act.put, List.setIfInBounds_toArray, List.set_cons_zero, List.set_cons_succ])
    refine wpAnyH_ready (rs := [44]) (by kernel_rfl) (by simp) ?_
    refine' AllReadyH.cons (o := ?oi70) ?hi70 (fun K hK => ?step70) AllReadyH.nil
    case hi70 => (simp only [List.getElem?_toArray, List.getElem?_cons_succ, List.getElem?_cons_zero]; rfl)
    rw [if_pos (by rfl)]
    go_simp
    (go_at_call 56; refine (edgesIn_i (e0 0) (e0 1) (e0 2) (e0 3) 0 0 0 0 _).mono ?_; rintro e w' ⟨rfl, hb⟩)
    all_goals (try go_wp2_with fail)
    refine hK.out _ _ ?_ (fun hHeld => ?_)
    · (repeat (first | exact Below.refl _ _ | assumption | (refine bel_call ?_ (by assumption)) | (refine bel_alloc ?_ _) | (refine Below.drew ?_) | (refine bel_drewN ?_ _)))
    clear hK K
    (try simp only [Act.put, List.setIfInBounds_toArray, List.set_cons_zero, List.set_cons_succ])
    refine wpAnyH_ready (rs := [47]) (by kernel_rfl) (by simp) ?_
    refine' AllReadyH.cons (o := ?oi71) ?hi71 (fun K hK => ?step71) AllReadyH.nil
    case hi71 => (simp only [List.getElem?_toArray, List.getElem?_cons_succ, List.getElem?_cons_zero]; rfl)
    rw [if_pos (by rfl)]
    go_simp
    (go_at_call 57; refine (edgesIn_s (e0 0) (e0 1) (e0 2) (e0 3) 0 0 0 0 _).mono ?_; rintro e w' ⟨rfl, hb⟩)
    all_goals (try go_wp2_with fail)
    refine hK.out _ _ ?_ (fun hHeld => ?_)
    · (repeat (first | exact Below.refl _ _ | assumption | (refine bel_call ?_ (by assumption)) | (refine bel_alloc ?_ _) | (refine Below.drew ?_) | (refine bel_drewN ?_ _)))
    clear hK K
    (try simp only [Act.put, List.setIfInBounds_toArray, List.set_cons_zero, List.set_cons_succ])
    refine' wpAnyH_take (i := 48) (oi := ?oi72) (v := ?v72) ?hi72 ?hs72 ?hf72 ?hr72 ?hQ72 ?hy72 ?hS72 ?rest72
    case hi72 => (simp only [List.getElem?_toArray, List.getElem?_cons_succ, List.getElem?_cons_zero]; rfl)
    case hs72 => kernel_rfl
    case hf72 => kernel_rfl
    case hr72 => kernel_rfl
    case hQ72 => exact fun _ _ _ h => h
    case hS72 => assumption
    case hy72 => (refine Or.inl ⟨by rfl, ?_⟩; intro w hSw; (try dsimp only at hSw); go_simp; all_goals with_reducible rfl)
    (try simp only [Act.put, List.setIfInBounds_toArray, List.set_cons_zero, List.set_cons_succ])
    refine' wpAnyH_take (i := 49) (oi := ?oi73) (v := ?v73) ?hi73 ?hs73 ?hf73 ?hr73 ?hQ73 ?hy73 ?hS73 ?rest73
    case hi73 => (simp only [List.getElem?_toArray, List.getElem?_cons_succ, List.getElem?_cons_zero]; rfl)
    case hs73 => kernel_rfl
    case hf73 => kernel_rfl
    case hr73 => kernel_rfl
    case hQ73 => exact fun _ _ _ h => h
    case hS73 => assumption
    case hy73 => (refine Or.inl ⟨by rfl, ?_⟩; intro w hSw; (try dsimp only at hSw); go_simp; all_goals with_reducible rfl)
    (try simp only [Act.put, List.setIfInBounds_toArray, List.set_cons_zero, List.set_cons_succ])
    refine' wpAnyH_take (i := 50) (oi := ?oi74) (v := ?v74) ?hi74 ?hs74 ?hf74 ?hr74 ?hQ74 ?hy74 ?hS74 ?rest74
    case hi74 => (simp only [List.getElem?_toArray, List.getElem?_cons_succ, List.getElem?_cons_zero]; rfl)
    case hs74 => kernel_rfl
    case hf74 => kernel_rfl
    case hr74 => kernel_rfl
    case hQ74 => exact fun _ _ _ h => h
    case hS74 => assumption
    case hy74 => (refine Or.inl ⟨by rfl, ?_⟩; intro w hSw; (try dsimp only at hSw); go_simp; all_goals with_reducible rfl)
    (try simp only [Act.put, List.setIfInBounds_toArray, List.set_cons_zero, List.set_cons_succ])
    refine' wpAnyH_take (i := 51) (oi := ?oi75) (v := ?v75) ?hi75 ?hs75 ?hf75 ?hr75 ?hQ75 ?hy75 ?hS75 ?rest75
    case hi75 => (simp only [List.getElem?_toArray, List.getElem?_cons_succ, List.getElem?_cons_zero]; rfl)
    case hs75 => kernel_rfl
    case hf75 => kernel_rfl
    case hr75 => kernel_rfl
    case hQ75 => exact fun _ _ _ h => h
    case hS75 => assumption
    case hy75 => (refine Or.inl ⟨by rfl, ?_⟩; intro w hSw; (try dsimp only at hSw); go_simp; all_goals with_reducible rfl)
    (try simp only [Act.put, List.setIfInBounds_toArray, List.set_cons_zero, List.set_cons_succ])
    refine wpAnyH_ready (rs := [52]) (by kernel_rfl) (by simp) ?_
    refine' AllReadyH.cons (o := ?oi76) ?hi76 (fun K hK => ?step76) AllReadyH.nil
    case hi76 => (simp only [List.getElem?_toArray, List.getElem?_cons_succ, List.getElem?_cons_zero]; rfl)
    rw [if_pos (by rfl)]
    go_simp
    (go_at_call 50; refine (wideOf_i 2 0 3 0 _).mono ?_; rintro e w' ⟨rfl, hb⟩; rw [H5.out])
    all_goals (try go_wp2_with fail)
    refine hK.out _ _ ?_ (fun hHeld => ?_)
    · (repeat (first | exact Below.refl _ _ | assumption | (refine bel_call ?_ (by assumption)) | (refine bel_alloc ?_ _) | (refine Below.drew ?_) | (refine bel_drewN ?_ _)))
    clear hK K
    (try simp only [Act.put, List.setIfInBounds_toArray, List.set_cons_zero, List.set_cons_succ])
    refine' wpAnyH_take (i := 53) (oi := ?oi77) (v := ?v77) ?hi77 ?hs77 ?hf77 ?hr77 ?hQ77 ?hy77 ?hS77 ?rest77
    case hi77 => (simp only [List.getElem?_toArray, List.getElem?_cons_succ, List.getElem?_cons_zero]; rfl)
    case hs77 => kernel_rfl
    case hf77 => kernel_rfl
    case hr77 => kernel_rfl
    case hQ77 => exact fun _ _ _ h => h
    case hS77 => assumption
    case hy77 => (refine Or.inl ⟨by rfl, ?_⟩; intro w hSw; (try dsimp only at hSw); go_simp; all_goals with_reducible rfl)
    (try simp only [Act.put, List.setIfInBounds_toArray, List.set_cons_zero, List.set_cons_succ])
    refine' wpAnyH_take (i := 54) (oi := ?oi78) (v := ?v78) ?hi78 ?hs78 ?hf78 ?hr78 ?hQ78 ?hy78 ?hS78 ?rest78
    case hi78 => (simp only [List.getElem?_toArray, List.getElem?_cons_succ, List.getElem?_cons_zero]; rfl)
    case hs78 => kernel_rfl
    case hf78 => kernel_rfl
    case hr78 => kernel_rfl
    case hQ78 => exact fun _ _ _ h => h
    case hS78 => assumption
    case hy78 => (refine Or.inl ⟨by rfl, ?_⟩; intro w hSw; (try dsimp only at hSw); go_simp; all_goals with_reducible rfl)
    (try simp only [Act.put, List.setIfInBounds_toArray, List.set_cons_zero, List.set_cons_succ])
    refine' wpAnyH_take (i := 55) (oi := ?oi79) (v := ?v79) ?hi79 ?hs79 ?hf79 ?hr79 ?hQ79 ?hy79 ?hS79 ?rest79
    case hi79 => (simp only [List.getElem?_toArray, List.getElem?_cons_succ, List.getElem?_cons_zero]; rfl)
    case hs79 => kernel_rfl
    case hf79 => kernel_rfl
    case hr79 => kernel_rfl
    case hQ79 => exact fun _ _ _ h => h
    case hS79 => assumption
    case hy79 => (refine Or.inl ⟨by rfl, ?_⟩; intro w hSw; (try dsimp only at hSw); go_simp; all_goals with_reducible rfl)
    (try simp only [Act.put, List.setIfInBounds_toArray, List.set_cons_zero, List.set_cons_succ])
    refine wpAnyH_done (by kernel_rfl) ?_ _
    go_wp2
    go_ret
    exact ⟨rfl, bel_call HL.out.bel hHeld⟩
  · have hbig : (1048576 : Int) < ↑l.length := by omega
    go_enter Try.func6, Try.ntmps6
    go_wp2_with ((go_at_call 8; refine (big_l _ _ _ _).mono ?_; rintro e w' ⟨rfl, rfl⟩))
    go_ret
    exact ⟨rfl, Below.refl _ _⟩
set_option maxRecDepth 100000 in
theorem FnSidesOf_lifted (os : Os) (started : os.Started) (H : Type) (enc : TypeId × Value → H) :
    ReturnsInHanded {} Try.checked os 6 .any (Rows.fnSidesOfSpec.pre6 enc Try.prog Try.f6 Rows.fnSidesOfRow.domain false) (Rows.fnSidesOfSpec.post enc Try.prog Try.f6 false true false false) := by
  refine returnsInHanded_of_change (C := Try.checked) own started (by kernel_rfl) Try.func6
    (ChangeSpec.witness6 (enc := enc) (C := Try.checked) false ⟨#[], #[.slice none 0 0], []⟩ 8 (by kernel_rfl) (by kernel_rfl) (by kernel_rfl) (by kernel_rfl)) ?_
  intro W base args ds gs before hval0 hW hcnd _
  have hval : ∀ (j : Nat) t v, Try.f6.params[j]? = some t → args[j]? = some v → Value.okWide Try.prog W .any base t v := hval0
  have hW' := hW
  obtain ⟨p, q, hA0, hV, rfl, hfz, hnd⟩ := hW
  have hA : DataW.TrodAll enc Try.prog W 0 (fun _ => true) true Try.f6.params.toList args.toList ds p := hA0
  rw [Try.params6] at hA hval
  obtain ⟨v0, vs0, d0, ds0, p0, q0, hargs, rfl, rfl, h0, r0⟩ := trodAll_cons hA
  obtain ⟨rfl, rfl, rfl⟩ := trodAll_nil r0
  obtain rfl : args = #[v0] := by cases args; simp_all
  obtain ⟨rfl, rfl⟩ := trodVars_none hV
  have k0 := h0
  have lt0 : ∀ x ∈ p0, x.block < W.heap.size := by obtain ⟨m, hm⟩ := k0; exact DataW.trod_lt m _ _ _ hm
  obtain ⟨b0, len0, cap0, rfl⟩ := okWide_slice Try.underlying22 (hval 0 22 v0 rfl rfl)
  obtain ⟨z0, w0⟩ : ∃ zs, IsRow .u8 W b0 len0 cap0 zs := by
    obtain ⟨fuel, hf⟩ := h0
    rcases open_ints Try.underlying22 Try.underlying5 (by kernel_rfl) hf with ⟨hcs, _⟩ | ⟨x, l, c, zs, hcs, _, hl, hm, hz, _, hcell, hwz⟩
    · simp [Value.cells] at hcs
      obtain ⟨rfl, rfl, rfl⟩ := hcs
      exact ⟨[], .inl ⟨rfl, rfl, rfl, rfl⟩⟩
    · simp [Value.cells] at hcs
      obtain ⟨rfl, rfl, rfl⟩ := hcs
      exact ⟨zs, .inr ⟨_, rfl, hl, hm, by simpa using hz, hcell, hwz⟩⟩
  clear hA0 hval0
  refine (law_FnSidesOf b0 len0 cap0 z0 W w0).mono fun e W' ⟨he, bel⟩ => ?_
  subst he
  exact ⟨_, rfl, _, _, _, [], _, [], hW', trodAll_mk1 (shut_bool Try.underlying4 _), (trodAll_cons_mk (Below.trod laidOut (by kernel_rfl) (of_decide_eq_true (by kernel_rfl)) k0 bel lt0) trodAll_mk0), rfl, bel.frame _, fun h => by cases h⟩

/-- The law 'FnSidesOf' returns true for every input, and each argument reads afterwards as it read before. -/
theorem FnSidesOf_holds : Rows.FnSidesOfSaid :=
  OpenClaim.holds_of_wide 6 Try.f6 rfl rfl rfl rfl rfl rfl rfl ⟨rfl, rfl, rfl, rfl, rfl⟩ rfl rfl rfl rfl rfl (by kernel_rfl) Try.func6 (by kernel_rfl)
    (of_decide_eq_true (by kernel_rfl)) (by unfold Func.isWrapper; first | (rw [if_pos (by decide +kernel)]; kernel_rfl) | (rw [if_neg (by decide +kernel)]; exact ⟨rfl, rfl⟩))
    (fun os started H enc _ => FnSidesOf_lifted os started H enc)
#print axioms FnSidesOf_holds

end Go.Proofs.Ytcmanaklojomeaa
