/- The law FnRatio returns true for every input: a width by its height and a height by its width stand in one ratio, but for what is rounded. Conditions: none. -/
import Derived.Test.YtcmanaklojomeaaDrawTop2
import Derived.Test.YtcmanaklojomeaaPlain
import Derived.Test.YtcmanaklojomeaaLawM
import Derived.Test.YtcmanaklojomeaaBnd2
import Derived.Test.YtcmanaklojomeaaNewB
import Derived.Deep.RegionHeld3
namespace Go.Proofs.Ytcmanaklojomeaa
open Go.ChangeShapes Go.WideShapes Go.ChangeAt Go.RowKit Go.Deep
set_option linter.unusedVariables false
set_option maxRecDepth 20000
set_option maxHeartbeats 6400000 in
theorem law_FnRatio (a : Option Addr) (len cap : Nat) (zs : List Int) (w : World) (h : IsRow .u8 w a len cap zs) :
    Calls Try.prog 4 #[.slice a len cap] w fun e w' => e = .returned (.bool true) ∧ Below w.heap.size w w' := by
  obtain ⟨l, rfl, hr⟩ := RdB.of_row h
  clear h
  by_cases hle : l.length ≤ 1048576
  · have HR := Lib.hid hr
    have hbig : ¬ (1048576 : Int) < ↑l.length := by omega
    clear hr
    go_enter Try.func4, Try.ntmps4
    go_wp2_with ((go_at_call 8; refine (big_l _ _ _ _).mono ?_; rintro e w' ⟨rfl, rfl⟩))
    refine (drawByRatio_s w a cap l hle HR.out).mono ?_
    rintro e w1 ⟨g, q, t, z, hg, hz, rfl, hb⟩
    have HL := Lib.hid (Lw.start hb)
    clear hb hg hz
    go_upto_region 7 with (first | (go_at_call 21; refine (byRatio_s _ _ _ _ _).mono ?_; rintro e w' ⟨rfl, hb⟩; replace HL := Lib.hid (HL.out.called hb); clear hb) | (go_at_call 20; refine (byRatio_i _ _ _ _ _).mono ?_; rintro e w' ⟨rfl, hb⟩; replace HL := Lib.hid (HL.out.called hb); clear hb) | (refine Lw.wp_alloc HL.out rfl 40 rfl (.agg (syA (fun _ => 0) (fun _ => false))) (by kernel_rfl) ?_; intro b W' hL; replace HL := Lib.hid hL; clear hL) | (refine Lw.wp_put HL.out rfl 40 _ _ rfl _ rfl rfl (by rfl) (by first | exact one2 _ _ | exact one4 _ _ _ _ | exact syA_one _ _ | exact sdA_one _ _) (by kernel_rfl) ?_; intro W' hL; replace HL := Lib.hid hL; clear hL) | (refine Lw.wp_put HL.out.swap rfl 40 _ _ rfl _ rfl rfl (by rfl) (by first | exact one2 _ _ | exact one4 _ _ _ _ | exact syA_one _ _ | exact sdA_one _ _) (by kernel_rfl) ?_; intro W' hL; replace HL := Lib.hid hL; clear hL) | (refine Lw.wp_load HL.out rfl 40 _ rfl _ rfl _ _ (by (first | exact List.mem_cons_self | exact List.mem_cons_of_mem _ List.mem_cons_self | exact List.mem_cons_of_mem _ (List.mem_cons_of_mem _ List.mem_cons_self))) _ Try.underlying40 rfl (by kernel_rfl) ?_))
    go_wp2_with fail
    refine (drawPlaces_s _ a cap l hle (HR.out.below HL.out.bel)).mono ?_
    rintro e w2 ⟨v, N, rfl, hN, hx, ho⟩
    have H2 := Lib.hid (bel_call HL.out.bel ho.bel)
    obtain ⟨gp, cp, rfl, p, hc, hp⟩ := places_at hN hx ho
    have HP : Hid (∀ i, i < 12 → ∀ W, Below w2.heap.size w2 W → W.cell? ⟨gp, i, none⟩ = some (.int .i64 (p i))) := Lib.hid (fun i hi W h => (h.cell (World.block_lt_of_cell? _ _ (hc i hi))).trans (hc i hi))
    obtain ⟨p00, p01⟩ := hp 0
    obtain ⟨p10, p11⟩ := hp 1
    obtain ⟨p20, p21⟩ := hp 2
    clear hN hx ho hc hp HL
    go_wp2_with fail
    refine (plain_l _).mono ?_
    rintro e w3 ⟨rfl, hb⟩
    have H3 := Lib.hid hb
    clear hb
    go_upto_region 9 with (refine wpList_store_new rfl 40 _ _ rfl (syA plainG newQ) rfl rfl (syA_info_v _ _) (syA_one _ _) (by rw [syA_size]; rfl) ?_)
    have c0 := HP.out 0 (by decide) w3 H3.out
    have c1 := HP.out 0 (by decide) (w3.alloc (.cells (syA plainG newQ) 40)) (bel_alloc H3.out _)
    have hlt : gp < w3.heap.size := World.block_lt_of_cell? _ _ c0
    have h25 := syA_int plainG newQ 25 rfl
    go_upto_region 10 with fail
    obtain ⟨R, hR⟩ : ∃ R, R = 1 + p 0 % 640 := ⟨_, rfl⟩
    have r0 : 1 ≤ R := by omega
    have r1 : R ≤ 640 := by omega
    rw [← hR, rat_set R]
    clear hR h25 c0 c1 hlt p00 p01
    have HY0 := hbox1 w3 (syA (ratG R) newQ) 40
    have HB0 := Lib.hid (bel_alloc H3.out (.cells (syA (ratG R) newQ) 40))
    generalize w3.alloc (.cells (syA (ratG R) newQ) 40) = B at *
    generalize w3.heap.size = rb at *
    have HB := Lib.hid (bel_call H2.out HB0.out)
    have HY : Hid (∀ W, Below B.heap.size B W → W.rangeAt rb 0 (syA (ratG R) newQ).toList) := Lib.hid (fun W h j v hj => by
      rw [Nat.zero_add, Joins.cell_of_block ((h.block _ (Array.getElem?_eq_some_iff.1 HY0).1).trans HY0)]
      simpa using hj)
    have HR2 : Hid (∀ W, Below B.heap.size B W → W.cell? ⟨rb, 25, none⟩ = some (.int .i64 R)) := Lib.hid (fun W h => by
      rw [Joins.cell_of_block ((h.block _ (Array.getElem?_eq_some_iff.1 HY0).1).trans HY0)]
      exact syA_int (ratG R) newQ 25 rfl)
    have HP2 : Hid (∀ W, Below B.heap.size B W → W.cell? ⟨gp, 2, none⟩ = some (.int .i64 (p 2))) := Lib.hid (fun W h => HP.out 2 (by decide) W (bel_call HB0.out h))
    have c1 := HP.out 1 (by decide) B HB0.out
    clear HB0 HP H3 H2
    go_upto_region 11 with fail
    obtain ⟨H, hH⟩ : ∃ H, H = p 1 % 2000 := ⟨_, rfl⟩
    have h0 : 0 ≤ H := by omega
    have h1 : H ≤ 1999 := by omega
    rw [← hH]
    clear hH c1 p10 p11
    obtain ⟨e3, m0, m1, m2, m3, m4, m5⟩ := ratio_wide h0 h1 r0 r1
    have e7 := ratio_high p20 p21 r0 r1
    obtain ⟨M, hM⟩ : ∃ M, M = H * R := ⟨_, rfl⟩
    rw [← hM] at e3 m0 m1 m2 m3 m4 m5
    obtain ⟨D, hD⟩ : ∃ D, D = floorDiv M 64 := ⟨_, rfl⟩
    rw [← hD] at e3 m0 m1 m2 m3
    have e1 : IntKind.i64.wrap (H * R) = M := by rw [← hM]; exact IntWalk.i64_in _ (by omega)
    have e2 : floorDiv M 64 = D := hD.symm
    have e4 : IntKind.i64.wrap (D * 64) = D * 64 := IntWalk.i64_in _ (by omega)
    have e5 : IntKind.i64.wrap (D * 64 + 64) = D * 64 + 64 := IntWalk.i64_in _ (by omega)
    have e6 : IntKind.i64.wrap (64 * p 2) = 64 * p 2 := IntWalk.i64_in _ (by omega)
    have e8 : byRatio (plainG 25) true 5 = -1 := ratio_none 5
    have e9 : ratG R 25 = R := rfl
    have t1 : decide (D * 64 ≤ M) = true := by simpa using m2
    have t2 : decide (M < D * 64 + 64) = true := by simpa using m3
    have HI1 : Hid (In64 M) := Lib.hid ⟨by omega, by omega⟩
    have HI2 : Hid (In64 64) := Lib.hid ⟨by omega, by omega⟩
    have HI3 : Hid (In64 (64 * p 2)) := Lib.hid ⟨by omega, by omega⟩
    have HI4 : Hid (In64 R) := Lib.hid ⟨by omega, by omega⟩
    clear hM hD m0 m1 m2 m3 m4 m5 p20 p21 r0 r1 h0 h1
    go_wp2_with (first | (refine wpList_load_mid rfl 40 _ rfl rb 0 rfl (syA (ratG R) newQ).toList _ (HY.out B (Below.refl _ _)) Try.underlying40 rfl (by rw [Array.length_toList]; exact syA_info_v _ _) ?_) | fail)
    refine (byRatio_i (ratG R) newQ true H _).mono ?_
    rintro e w4 ⟨rfl, hb⟩
    have H4 := Lib.hid hb
    clear hb
    rw [e9, e3]
    clear e3
    go_upto_region 12 with fail
    refine wp_region_held_drew (S := (fun w' => Below B.heap.size B w')) (by kernel_rfl) ?_ (fun hHeld => ?_)
    · (repeat (first | exact Below.refl _ _ | assumption | exact H4.out | (refine bel_call ?_ (by assumption)) | (refine bel_alloc ?_ _) | (refine Below.drew ?_) | (refine bel_drewN ?_ _)))
    refine' wpAnyH_take (i := 0) (oi := ?oi1) (v := ?v1) ?hi1 ?hs1 ?hf1 ?hr1 ?hQ1 ?hy1 ?hS1 ?rest1
    case hi1 => (simp only [List.getElem?_toArray, List.getElem?_cons_zero]; rfl)
    case hs1 => kernel_rfl
    case hf1 => kernel_rfl
    case hr1 => kernel_rfl
    case hQ1 => exact fun _ _ _ h => h
    case hS1 => assumption
    case hy1 => (refine Or.inl ⟨by rfl, ?_⟩; intro w hSw; (try dsimp only at hSw); go_simp; all_goals with_reducible rfl)
    (try simp only [Act.put, List.setIfInBounds_toArray, List.set_cons_zero, List.set_cons_succ])
    refine' wpAnyH_take (i := 1) (oi := ?oi2) (v := ?v2) ?hi2 ?hs2 ?hf2 ?hr2 ?hQ2 ?hy2 ?hS2 ?rest2
    case hi2 => (simp only [List.getElem?_toArray, List.getElem?_cons_succ, List.getElem?_cons_zero]; rfl)
    case hs2 => kernel_rfl
    case hf2 => kernel_rfl
    case hr2 => kernel_rfl
    case hQ2 => exact fun _ _ _ h => h
    case hS2 => assumption
    case hy2 => (refine Or.inl ⟨by rfl, ?_⟩; intro w hSw; (try dsimp only at hSw); go_simp; all_goals with_reducible rfl)
    (try simp only [Act.put, List.setIfInBounds_toArray, List.set_cons_zero, List.set_cons_succ])
    refine' wpAnyH_take (i := 2) (oi := ?oi3) (v := ?v3) ?hi3 ?hs3 ?hf3 ?hr3 ?hQ3 ?hy3 ?hS3 ?rest3
    case hi3 => (simp only [List.getElem?_toArray, List.getElem?_cons_succ, List.getElem?_cons_zero]; rfl)
    case hs3 => kernel_rfl
    case hf3 => kernel_rfl
    case hr3 => kernel_rfl
    case hQ3 => exact fun _ _ _ h => h
    case hS3 => assumption
    case hy3 => (refine Or.inl ⟨by rfl, ?_⟩; intro w hSw; (try dsimp only at hSw); go_simp; all_goals with_reducible rfl)
    (try simp only [Act.put, List.setIfInBounds_toArray, List.set_cons_zero, List.set_cons_succ])
    refine' wpAnyH_take (i := 3) (oi := ?oi4) (v := ?v4) ?hi4 ?hs4 ?hf4 ?hr4 ?hQ4 ?hy4 ?hS4 ?rest4
    case hi4 => (simp only [List.getElem?_toArray, List.getElem?_cons_succ, List.getElem?_cons_zero]; rfl)
    case hs4 => kernel_rfl
    case hf4 => kernel_rfl
    case hr4 => kernel_rfl
    case hQ4 => exact fun _ _ _ h => h
    case hS4 => assumption
    case hy4 => (refine Or.inl ⟨by rfl, ?_⟩; intro w hSw; (try dsimp only at hSw); have c2 := HP2.out w hSw; have c3 := HR2.out w hSw; go_simp; all_goals with_reducible rfl)
    (try simp only [Act.put, List.setIfInBounds_toArray, List.set_cons_zero, List.set_cons_succ])
    refine' wpAnyH_take (i := 4) (oi := ?oi5) (v := ?v5) ?hi5 ?hs5 ?hf5 ?hr5 ?hQ5 ?hy5 ?hS5 ?rest5
    case hi5 => (simp only [List.getElem?_toArray, List.getElem?_cons_succ, List.getElem?_cons_zero]; rfl)
    case hs5 => kernel_rfl
    case hf5 => kernel_rfl
    case hr5 => kernel_rfl
    case hQ5 => exact fun _ _ _ h => h
    case hS5 => assumption
    case hy5 => (refine Or.inl ⟨by rfl, ?_⟩; intro w hSw; (try dsimp only at hSw); go_simp; all_goals with_reducible rfl)
    (try simp only [Act.put, List.setIfInBounds_toArray, List.set_cons_zero, List.set_cons_succ])
    refine wpAnyH_ready (rs := [5]) (by kernel_rfl) (by simp) ?_
    refine' AllReadyH.cons (o := ?oi6) ?hi6 (fun K hK => ?step6) AllReadyH.nil
    case hi6 => (simp only [List.getElem?_toArray, List.getElem?_cons_succ, List.getElem?_cons_zero]; rfl)
    rw [if_pos (by rfl)]
    go_simp
    (go_at_call 23; refine (floorDiv_s M 64 HI1.out HI2.out _).mono ?_; rintro e w' ⟨rfl, rfl⟩)
    all_goals (try go_wp2_with fail)
    refine hK.out _ _ ?_ (fun hHeld => ?_)
    · (repeat (first | exact Below.refl _ _ | assumption | exact H4.out | (refine bel_call ?_ (by assumption)) | (refine bel_alloc ?_ _) | (refine Below.drew ?_) | (refine bel_drewN ?_ _)))
    clear hK K
    (try simp only [Act.put, List.setIfInBounds_toArray, List.set_cons_zero, List.set_cons_succ])
    refine' wpAnyH_take (i := 6) (oi := ?oi7) (v := ?v7) ?hi7 ?hs7 ?hf7 ?hr7 ?hQ7 ?hy7 ?hS7 ?rest7
    case hi7 => (simp only [List.getElem?_toArray, List.getElem?_cons_succ, List.getElem?_cons_zero]; rfl)
    case hs7 => kernel_rfl
    case hf7 => kernel_rfl
    case hr7 => kernel_rfl
    case hQ7 => exact fun _ _ _ h => h
    case hS7 => assumption
    case hy7 => (refine Or.inl ⟨by rfl, ?_⟩; intro w hSw; (try dsimp only at hSw); go_simp; all_goals with_reducible rfl)
    (try simp only [Act.put, List.setIfInBounds_toArray, List.set_cons_zero, List.set_cons_succ])
    refine' wpAnyH_take (i := 7) (oi := ?oi8) (v := ?v8) ?hi8 ?hs8 ?hf8 ?hr8 ?hQ8 ?hy8 ?hS8 ?rest8
    case hi8 => (simp only [List.getElem?_toArray, List.getElem?_cons_succ, List.getElem?_cons_zero]; rfl)
    case hs8 => kernel_rfl
    case hf8 => kernel_rfl
    case hr8 => kernel_rfl
    case hQ8 => exact fun _ _ _ h => h
    case hS8 => assumption
    case hy8 => (refine Or.inl ⟨by rfl, ?_⟩; intro w hSw; (try dsimp only at hSw); go_simp; all_goals with_reducible rfl)
    (try simp only [Act.put, List.setIfInBounds_toArray, List.set_cons_zero, List.set_cons_succ])
    refine' wpAnyH_take (i := 8) (oi := ?oi9) (v := ?v9) ?hi9 ?hs9 ?hf9 ?hr9 ?hQ9 ?hy9 ?hS9 ?rest9
    case hi9 => (simp only [List.getElem?_toArray, List.getElem?_cons_succ, List.getElem?_cons_zero]; rfl)
    case hs9 => kernel_rfl
    case hf9 => kernel_rfl
    case hr9 => kernel_rfl
    case hQ9 => exact fun _ _ _ h => h
    case hS9 => assumption
    case hy9 => (refine Or.inl ⟨by rfl, ?_⟩; intro w hSw; (try dsimp only at hSw); go_simp; all_goals with_reducible rfl)
    (try simp only [Act.put, List.setIfInBounds_toArray, List.set_cons_zero, List.set_cons_succ])
    refine' wpAnyH_take (i := 9) (oi := ?oi10) (v := ?v10) ?hi10 ?hs10 ?hf10 ?hr10 ?hQ10 ?hy10 ?hS10 ?rest10
    case hi10 => (simp only [List.getElem?_toArray, List.getElem?_cons_succ, List.getElem?_cons_zero]; rfl)
    case hs10 => kernel_rfl
    case hf10 => kernel_rfl
    case hr10 => kernel_rfl
    case hQ10 => exact fun _ _ _ h => h
    case hS10 => assumption
    case hy10 => (refine Or.inl ⟨by rfl, ?_⟩; intro w hSw; (try dsimp only at hSw); go_simp; all_goals with_reducible rfl)
    (try simp only [Act.put, List.setIfInBounds_toArray, List.set_cons_zero, List.set_cons_succ])
    refine' wpAnyH_take (i := 10) (oi := ?oi11) (v := ?v11) ?hi11 ?hs11 ?hf11 ?hr11 ?hQ11 ?hy11 ?hS11 ?rest11
    case hi11 => (simp only [List.getElem?_toArray, List.getElem?_cons_succ, List.getElem?_cons_zero]; rfl)
    case hs11 => kernel_rfl
    case hf11 => kernel_rfl
    case hr11 => kernel_rfl
    case hQ11 => exact fun _ _ _ h => h
    case hS11 => assumption
    case hy11 => (refine Or.inl ⟨by rfl, ?_⟩; intro w hSw; (try dsimp only at hSw); go_simp; all_goals with_reducible rfl)
    (try simp only [Act.put, List.setIfInBounds_toArray, List.set_cons_zero, List.set_cons_succ])
    refine' wpAnyH_take (i := 11) (oi := ?oi12) (v := ?v12) ?hi12 ?hs12 ?hf12 ?hr12 ?hQ12 ?hy12 ?hS12 ?rest12
    case hi12 => (simp only [List.getElem?_toArray, List.getElem?_cons_succ, List.getElem?_cons_zero]; rfl)
    case hs12 => kernel_rfl
    case hf12 => kernel_rfl
    case hr12 => kernel_rfl
    case hQ12 => exact fun _ _ _ h => h
    case hS12 => assumption
    case hy12 => (refine Or.inl ⟨by rfl, ?_⟩; intro w hSw; (try dsimp only at hSw); go_simp; all_goals with_reducible rfl)
    (try simp only [Act.put, List.setIfInBounds_toArray, List.set_cons_zero, List.set_cons_succ])
    refine' wpAnyH_take (i := 12) (oi := ?oi13) (v := ?v13) ?hi13 ?hs13 ?hf13 ?hr13 ?hQ13 ?hy13 ?hS13 ?rest13
    case hi13 => (simp only [List.getElem?_toArray, List.getElem?_cons_succ, List.getElem?_cons_zero]; rfl)
    case hs13 => kernel_rfl
    case hf13 => kernel_rfl
    case hr13 => kernel_rfl
    case hQ13 => exact fun _ _ _ h => h
    case hS13 => assumption
    case hy13 => (refine Or.inl ⟨by rfl, ?_⟩; intro w hSw; (try dsimp only at hSw); have c2 := HP2.out w hSw; have c3 := HR2.out w hSw; go_simp; all_goals with_reducible rfl)
    (try simp only [Act.put, List.setIfInBounds_toArray, List.set_cons_zero, List.set_cons_succ])
    refine' wpAnyH_take (i := 13) (oi := ?oi14) (v := ?v14) ?hi14 ?hs14 ?hf14 ?hr14 ?hQ14 ?hy14 ?hS14 ?rest14
    case hi14 => (simp only [List.getElem?_toArray, List.getElem?_cons_succ, List.getElem?_cons_zero]; rfl)
    case hs14 => kernel_rfl
    case hf14 => kernel_rfl
    case hr14 => kernel_rfl
    case hQ14 => exact fun _ _ _ h => h
    case hS14 => assumption
    case hy14 => (refine Or.inl ⟨by rfl, ?_⟩; intro w hSw; (try dsimp only at hSw); go_simp; all_goals with_reducible rfl)
    (try simp only [Act.put, List.setIfInBounds_toArray, List.set_cons_zero, List.set_cons_succ])
    refine' wpAnyH_take (i := 14) (oi := ?oi15) (v := ?v15) ?hi15 ?hs15 ?hf15 ?hr15 ?hQ15 ?hy15 ?hS15 ?rest15
    case hi15 => (simp only [List.getElem?_toArray, List.getElem?_cons_succ, List.getElem?_cons_zero]; rfl)
    case hs15 => kernel_rfl
    case hf15 => kernel_rfl
    case hr15 => kernel_rfl
    case hQ15 => exact fun _ _ _ h => h
    case hS15 => assumption
    case hy15 => (refine Or.inl ⟨by rfl, ?_⟩; intro w hSw; (try dsimp only at hSw); go_simp; all_goals with_reducible rfl)
    (try simp only [Act.put, List.setIfInBounds_toArray, List.set_cons_zero, List.set_cons_succ])
    refine' wpAnyH_take (i := 15) (oi := ?oi16) (v := ?v16) ?hi16 ?hs16 ?hf16 ?hr16 ?hQ16 ?hy16 ?hS16 ?rest16
    case hi16 => (simp only [List.getElem?_toArray, List.getElem?_cons_succ, List.getElem?_cons_zero]; rfl)
    case hs16 => kernel_rfl
    case hf16 => kernel_rfl
    case hr16 => kernel_rfl
    case hQ16 => exact fun _ _ _ h => h
    case hS16 => assumption
    case hy16 => (refine Or.inl ⟨by rfl, ?_⟩; intro w hSw; (try dsimp only at hSw); go_simp; all_goals with_reducible rfl)
    (try simp only [Act.put, List.setIfInBounds_toArray, List.set_cons_zero, List.set_cons_succ])
    refine' wpAnyH_take (i := 16) (oi := ?oi17) (v := ?v17) ?hi17 ?hs17 ?hf17 ?hr17 ?hQ17 ?hy17 ?hS17 ?rest17
    case hi17 => (simp only [List.getElem?_toArray, List.getElem?_cons_succ, List.getElem?_cons_zero]; rfl)
    case hs17 => kernel_rfl
    case hf17 => kernel_rfl
    case hr17 => kernel_rfl
    case hQ17 => exact fun _ _ _ h => h
    case hS17 => assumption
    case hy17 => (refine Or.inl ⟨by rfl, ?_⟩; intro w hSw; (try dsimp only at hSw); go_simp; all_goals with_reducible rfl)
    (try simp only [Act.put, List.setIfInBounds_toArray, List.set_cons_zero, List.set_cons_succ])
    refine' wpAnyH_take (i := 17) (oi := ?oi18) (v := ?v18) ?hi18 ?hs18 ?hf18 ?hr18 ?hQ18 ?hy18 ?hS18 ?rest18
    case hi18 => (simp only [List.getElem?_toArray, List.getElem?_cons_succ, List.getElem?_cons_zero]; rfl)
    case hs18 => kernel_rfl
    case hf18 => kernel_rfl
    case hr18 => kernel_rfl
    case hQ18 => exact fun _ _ _ h => h
    case hS18 => assumption
    case hy18 => (refine Or.inl ⟨by rfl, ?_⟩; intro w hSw; (try dsimp only at hSw); go_simp; all_goals with_reducible rfl)
    (try simp only [Act.put, List.setIfInBounds_toArray, List.set_cons_zero, List.set_cons_succ])
    refine' wpAnyH_take (i := 18) (oi := ?oi19) (v := ?v19) ?hi19 ?hs19 ?hf19 ?hr19 ?hQ19 ?hy19 ?hS19 ?rest19
    case hi19 => (simp only [List.getElem?_toArray, List.getElem?_cons_succ, List.getElem?_cons_zero]; rfl)
    case hs19 => kernel_rfl
    case hf19 => kernel_rfl
    case hr19 => kernel_rfl
    case hQ19 => exact fun _ _ _ h => h
    case hS19 => assumption
    case hy19 => (refine Or.inl ⟨by rfl, ?_⟩; intro w hSw; (try dsimp only at hSw); go_simp; all_goals with_reducible rfl)
    (try simp only [Act.put, List.setIfInBounds_toArray, List.set_cons_zero, List.set_cons_succ])
    refine' wpAnyH_take (i := 19) (oi := ?oi20) (v := ?v20) ?hi20 ?hs20 ?hf20 ?hr20 ?hQ20 ?hy20 ?hS20 ?rest20
    case hi20 => (simp only [List.getElem?_toArray, List.getElem?_cons_succ, List.getElem?_cons_zero]; rfl)
    case hs20 => kernel_rfl
    case hf20 => kernel_rfl
    case hr20 => kernel_rfl
    case hQ20 => exact fun _ _ _ h => h
    case hS20 => assumption
    case hy20 => (refine Or.inl ⟨by rfl, ?_⟩; intro w hSw; (try dsimp only at hSw); have c2 := HP2.out w hSw; have c3 := HR2.out w hSw; go_simp; all_goals with_reducible rfl)
    (try simp only [Act.put, List.setIfInBounds_toArray, List.set_cons_zero, List.set_cons_succ])
    refine' wpAnyH_take (i := 20) (oi := ?oi21) (v := ?v21) ?hi21 ?hs21 ?hf21 ?hr21 ?hQ21 ?hy21 ?hS21 ?rest21
    case hi21 => (simp only [List.getElem?_toArray, List.getElem?_cons_succ, List.getElem?_cons_zero]; rfl)
    case hs21 => kernel_rfl
    case hf21 => kernel_rfl
    case hr21 => kernel_rfl
    case hQ21 => exact fun _ _ _ h => h
    case hS21 => assumption
    case hy21 => (refine Or.inl ⟨by rfl, ?_⟩; intro w hSw; (try dsimp only at hSw); go_simp; all_goals with_reducible rfl)
    (try simp only [Act.put, List.setIfInBounds_toArray, List.set_cons_zero, List.set_cons_succ])
    refine' wpAnyH_take (i := 21) (oi := ?oi22) (v := ?v22) ?hi22 ?hs22 ?hf22 ?hr22 ?hQ22 ?hy22 ?hS22 ?rest22
    case hi22 => (simp only [List.getElem?_toArray, List.getElem?_cons_succ, List.getElem?_cons_zero]; rfl)
    case hs22 => kernel_rfl
    case hf22 => kernel_rfl
    case hr22 => kernel_rfl
    case hQ22 => exact fun _ _ _ h => h
    case hS22 => assumption
    case hy22 => (refine Or.inl ⟨by rfl, ?_⟩; intro w hSw; (try dsimp only at hSw); go_simp; all_goals with_reducible rfl)
    (try simp only [Act.put, List.setIfInBounds_toArray, List.set_cons_zero, List.set_cons_succ])
    refine' wpAnyH_take (i := 22) (oi := ?oi23) (v := ?v23) ?hi23 ?hs23 ?hf23 ?hr23 ?hQ23 ?hy23 ?hS23 ?rest23
    case hi23 => (simp only [List.getElem?_toArray, List.getElem?_cons_succ, List.getElem?_cons_zero]; rfl)
    case hs23 => kernel_rfl
    case hf23 => kernel_rfl
    case hr23 => kernel_rfl
    case hQ23 => exact fun _ _ _ h => h
    case hS23 => assumption
    case hy23 => (refine Or.inl ⟨by rfl, ?_⟩; intro w hSw; (try dsimp only at hSw); go_simp; all_goals with_reducible rfl)
    (try simp only [Act.put, List.setIfInBounds_toArray, List.set_cons_zero, List.set_cons_succ])
    refine' wpAnyH_take (i := 23) (oi := ?oi24) (v := ?v24) ?hi24 ?hs24 ?hf24 ?hr24 ?hQ24 ?hy24 ?hS24 ?rest24
    case hi24 => (simp only [List.getElem?_toArray, List.getElem?_cons_succ, List.getElem?_cons_zero]; rfl)
    case hs24 => kernel_rfl
    case hf24 => kernel_rfl
    case hr24 => kernel_rfl
    case hQ24 => exact fun _ _ _ h => h
    case hS24 => assumption
    case hy24 => (refine Or.inl ⟨by rfl, ?_⟩; intro w hSw; (try dsimp only at hSw); go_simp; all_goals with_reducible rfl)
    (try simp only [Act.put, List.setIfInBounds_toArray, List.set_cons_zero, List.set_cons_succ])
    refine' wpAnyH_take (i := 24) (oi := ?oi25) (v := ?v25) ?hi25 ?hs25 ?hf25 ?hr25 ?hQ25 ?hy25 ?hS25 ?rest25
    case hi25 => (simp only [List.getElem?_toArray, List.getElem?_cons_succ, List.getElem?_cons_zero]; rfl)
    case hs25 => kernel_rfl
    case hf25 => kernel_rfl
    case hr25 => kernel_rfl
    case hQ25 => exact fun _ _ _ h => h
    case hS25 => assumption
    case hy25 => (refine Or.inl ⟨by rfl, ?_⟩; intro w hSw; (try dsimp only at hSw); go_simp; all_goals with_reducible rfl)
    (try simp only [Act.put, List.setIfInBounds_toArray, List.set_cons_zero, List.set_cons_succ])
    refine' wpAnyH_take (i := 25) (oi := ?oi26) (v := ?v26) ?hi26 ?hs26 ?hf26 ?hr26 ?hQ26 ?hy26 ?hS26 ?rest26
    case hi26 => (simp only [List.getElem?_toArray, List.getElem?_cons_succ, List.getElem?_cons_zero]; rfl)
    case hs26 => kernel_rfl
    case hf26 => kernel_rfl
    case hr26 => kernel_rfl
    case hQ26 => exact fun _ _ _ h => h
    case hS26 => assumption
    case hy26 => (refine Or.inl ⟨by rfl, ?_⟩; intro w hSw; (try dsimp only at hSw); go_simp; all_goals with_reducible rfl)
    (try simp only [Act.put, List.setIfInBounds_toArray, List.set_cons_zero, List.set_cons_succ])
    refine' wpAnyH_take (i := 26) (oi := ?oi27) (v := ?v27) ?hi27 ?hs27 ?hf27 ?hr27 ?hQ27 ?hy27 ?hS27 ?rest27
    case hi27 => (simp only [List.getElem?_toArray, List.getElem?_cons_succ, List.getElem?_cons_zero]; rfl)
    case hs27 => kernel_rfl
    case hf27 => kernel_rfl
    case hr27 => kernel_rfl
    case hQ27 => exact fun _ _ _ h => h
    case hS27 => assumption
    case hy27 => (refine Or.inl ⟨by rfl, ?_⟩; intro w hSw; (try dsimp only at hSw); go_simp; all_goals with_reducible rfl)
    (try simp only [Act.put, List.setIfInBounds_toArray, List.set_cons_zero, List.set_cons_succ])
    refine' wpAnyH_take (i := 27) (oi := ?oi28) (v := .agg (syA (ratG R) newQ)) ?hi28 ?hs28 ?hf28 ?hr28 ?hQ28 ?hy28 ?hS28 ?rest28
    case hi28 => (simp only [List.getElem?_toArray, List.getElem?_cons_succ, List.getElem?_cons_zero]; rfl)
    case hs28 => kernel_rfl
    case hf28 => kernel_rfl
    case hr28 => kernel_rfl
    case hQ28 => exact fun _ _ _ h => h
    case hS28 => assumption
    case hy28 => exact yieldsIf_load_mid (by rfl) _ _ rfl _ 0 rfl ((syA (ratG R) newQ)).toList _ (fun w hSw => HY.out w hSw) Try.underlying40 rfl (by rw [Array.length_toList]; exact syA_info_v _ _)
    (try simp only [Act.put, List.setIfInBounds_toArray, List.set_cons_zero, List.set_cons_succ])
    refine' wpAnyH_take (i := 28) (oi := ?oi29) (v := ?v29) ?hi29 ?hs29 ?hf29 ?hr29 ?hQ29 ?hy29 ?hS29 ?rest29
    case hi29 => (simp only [List.getElem?_toArray, List.getElem?_cons_succ, List.getElem?_cons_zero]; rfl)
    case hs29 => kernel_rfl
    case hf29 => kernel_rfl
    case hr29 => kernel_rfl
    case hQ29 => exact fun _ _ _ h => h
    case hS29 => assumption
    case hy29 => (refine Or.inl ⟨by rfl, ?_⟩; intro w hSw; (try dsimp only at hSw); go_simp; all_goals with_reducible rfl)
    (try simp only [Act.put, List.setIfInBounds_toArray, List.set_cons_zero, List.set_cons_succ])
    refine' wpAnyH_take (i := 29) (oi := ?oi30) (v := ?v30) ?hi30 ?hs30 ?hf30 ?hr30 ?hQ30 ?hy30 ?hS30 ?rest30
    case hi30 => (simp only [List.getElem?_toArray, List.getElem?_cons_succ, List.getElem?_cons_zero]; rfl)
    case hs30 => kernel_rfl
    case hf30 => kernel_rfl
    case hr30 => kernel_rfl
    case hQ30 => exact fun _ _ _ h => h
    case hS30 => assumption
    case hy30 => (refine Or.inl ⟨by rfl, ?_⟩; intro w hSw; (try dsimp only at hSw); go_simp; all_goals with_reducible rfl)
    (try simp only [Act.put, List.setIfInBounds_toArray, List.set_cons_zero, List.set_cons_succ])
    refine' wpAnyH_take (i := 30) (oi := ?oi31) (v := ?v31) ?hi31 ?hs31 ?hf31 ?hr31 ?hQ31 ?hy31 ?hS31 ?rest31
    case hi31 => (simp only [List.getElem?_toArray, List.getElem?_cons_succ, List.getElem?_cons_zero]; rfl)
    case hs31 => kernel_rfl
    case hf31 => kernel_rfl
    case hr31 => kernel_rfl
    case hQ31 => exact fun _ _ _ h => h
    case hS31 => assumption
    case hy31 => (refine Or.inl ⟨by rfl, ?_⟩; intro w hSw; (try dsimp only at hSw); have c2 := HP2.out w hSw; have c3 := HR2.out w hSw; go_simp; all_goals with_reducible rfl)
    (try simp only [Act.put, List.setIfInBounds_toArray, List.set_cons_zero, List.set_cons_succ])
    refine' wpAnyH_take (i := 32) (oi := ?oi32) (v := ?v32) ?hi32 ?hs32 ?hf32 ?hr32 ?hQ32 ?hy32 ?hS32 ?rest32
    case hi32 => (simp only [List.getElem?_toArray, List.getElem?_cons_succ, List.getElem?_cons_zero]; rfl)
    case hs32 => kernel_rfl
    case hf32 => kernel_rfl
    case hr32 => kernel_rfl
    case hQ32 => exact fun _ _ _ h => h
    case hS32 => assumption
    case hy32 => (refine Or.inl ⟨by rfl, ?_⟩; intro w hSw; (try dsimp only at hSw); go_simp; all_goals with_reducible rfl)
    (try simp only [Act.put, List.setIfInBounds_toArray, List.set_cons_zero, List.set_cons_succ])
    refine' wpAnyH_take (i := 33) (oi := ?oi33) (v := ?v33) ?hi33 ?hs33 ?hf33 ?hr33 ?hQ33 ?hy33 ?hS33 ?rest33
    case hi33 => (simp only [List.getElem?_toArray, List.getElem?_cons_succ, List.getElem?_cons_zero]; rfl)
    case hs33 => kernel_rfl
    case hf33 => kernel_rfl
    case hr33 => kernel_rfl
    case hQ33 => exact fun _ _ _ h => h
    case hS33 => assumption
    case hy33 => (refine Or.inl ⟨by rfl, ?_⟩; intro w hSw; (try dsimp only at hSw); go_simp; all_goals with_reducible rfl)
    (try simp only [Act.put, List.setIfInBounds_toArray, List.set_cons_zero, List.set_cons_succ])
    refine' wpAnyH_take (i := 34) (oi := ?oi34) (v := ?v34) ?hi34 ?hs34 ?hf34 ?hr34 ?hQ34 ?hy34 ?hS34 ?rest34
    case hi34 => (simp only [List.getElem?_toArray, List.getElem?_cons_succ, List.getElem?_cons_zero]; rfl)
    case hs34 => kernel_rfl
    case hf34 => kernel_rfl
    case hr34 => kernel_rfl
    case hQ34 => exact fun _ _ _ h => h
    case hS34 => assumption
    case hy34 => (refine Or.inl ⟨by rfl, ?_⟩; intro w hSw; (try dsimp only at hSw); have c2 := HP2.out w hSw; have c3 := HR2.out w hSw; go_simp; all_goals with_reducible rfl)
    (try simp only [Act.put, List.setIfInBounds_toArray, List.set_cons_zero, List.set_cons_succ])
    refine' wpAnyH_take (i := 35) (oi := ?oi35) (v := ?v35) ?hi35 ?hs35 ?hf35 ?hr35 ?hQ35 ?hy35 ?hS35 ?rest35
    case hi35 => (simp only [List.getElem?_toArray, List.getElem?_cons_succ, List.getElem?_cons_zero]; rfl)
    case hs35 => kernel_rfl
    case hf35 => kernel_rfl
    case hr35 => kernel_rfl
    case hQ35 => exact fun _ _ _ h => h
    case hS35 => assumption
    case hy35 => (refine Or.inl ⟨by rfl, ?_⟩; intro w hSw; (try dsimp only at hSw); go_simp; all_goals with_reducible rfl)
    (try simp only [Act.put, List.setIfInBounds_toArray, List.set_cons_zero, List.set_cons_succ])
    refine' wpAnyH_take (i := 36) (oi := ?oi36) (v := ?v36) ?hi36 ?hs36 ?hf36 ?hr36 ?hQ36 ?hy36 ?hS36 ?rest36
    case hi36 => (simp only [List.getElem?_toArray, List.getElem?_cons_succ, List.getElem?_cons_zero]; rfl)
    case hs36 => kernel_rfl
    case hf36 => kernel_rfl
    case hr36 => kernel_rfl
    case hQ36 => exact fun _ _ _ h => h
    case hS36 => assumption
    case hy36 => (refine Or.inl ⟨by rfl, ?_⟩; intro w hSw; (try dsimp only at hSw); go_simp; all_goals with_reducible rfl)
    (try simp only [Act.put, List.setIfInBounds_toArray, List.set_cons_zero, List.set_cons_succ])
    refine' wpAnyH_take (i := 37) (oi := ?oi37) (v := ?v37) ?hi37 ?hs37 ?hf37 ?hr37 ?hQ37 ?hy37 ?hS37 ?rest37
    case hi37 => (simp only [List.getElem?_toArray, List.getElem?_cons_succ, List.getElem?_cons_zero]; rfl)
    case hs37 => kernel_rfl
    case hf37 => kernel_rfl
    case hr37 => kernel_rfl
    case hQ37 => exact fun _ _ _ h => h
    case hS37 => assumption
    case hy37 => (refine Or.inl ⟨by rfl, ?_⟩; intro w hSw; (try dsimp only at hSw); have c2 := HP2.out w hSw; have c3 := HR2.out w hSw; go_simp; all_goals with_reducible rfl)
    (try simp only [Act.put, List.setIfInBounds_toArray, List.set_cons_zero, List.set_cons_succ])
    refine wpAnyH_ready (rs := [31]) (by kernel_rfl) (by simp) ?_
    refine' AllReadyH.cons (o := ?oi38) ?hi38 (fun K hK => ?step38) AllReadyH.nil
    case hi38 => (simp only [List.getElem?_toArray, List.getElem?_cons_succ, List.getElem?_cons_zero]; rfl)
    rw [if_pos (by rfl)]
    go_simp
    (go_at_call 20; refine (byRatio_i (ratG R) newQ false (p 2) _).mono ?_; rintro e w' ⟨rfl, hb⟩)
    all_goals (try go_wp2_with fail)
    refine hK.out _ _ ?_ (fun hHeld => ?_)
    · (repeat (first | exact Below.refl _ _ | assumption | exact H4.out | (refine bel_call ?_ (by assumption)) | (refine bel_alloc ?_ _) | (refine Below.drew ?_) | (refine bel_drewN ?_ _)))
    clear hK K
    (try simp only [Act.put, List.setIfInBounds_toArray, List.set_cons_zero, List.set_cons_succ])
    refine wpAnyH_ready (rs := [38]) (by kernel_rfl) (by simp) ?_
    refine' AllReadyH.cons (o := ?oi39) ?hi39 (fun K hK => ?step39) AllReadyH.nil
    case hi39 => (simp only [List.getElem?_toArray, List.getElem?_cons_succ, List.getElem?_cons_zero]; rfl)
    rw [if_pos (by rfl)]
    go_simp
    (go_at_call 23; refine (floorDiv_s (64 * p 2) R HI3.out HI4.out _).mono ?_; rintro e w' ⟨rfl, rfl⟩)
    all_goals (try go_wp2_with fail)
    refine hK.out _ _ ?_ (fun hHeld => ?_)
    · (repeat (first | exact Below.refl _ _ | assumption | exact H4.out | (refine bel_call ?_ (by assumption)) | (refine bel_alloc ?_ _) | (refine Below.drew ?_) | (refine bel_drewN ?_ _)))
    clear hK K
    (try simp only [Act.put, List.setIfInBounds_toArray, List.set_cons_zero, List.set_cons_succ])
    refine wpAnyH_ready (rs := [39]) (by kernel_rfl) (by simp) ?_
    refine' AllReadyH.cons (o := ?oi40) ?hi40 (fun K hK => ?step40) AllReadyH.nil
    case hi40 => (simp only [List.getElem?_toArray, List.getElem?_cons_succ, List.getElem?_cons_zero]; rfl)
    rw [if_pos (by rfl)]
    go_simp
    (go_at_call 24; refine (clamped_s _ _).mono ?_; rintro e w' ⟨rfl, rfl⟩)
    all_goals (try go_wp2_with fail)
    refine hK.out _ _ ?_ (fun hHeld => ?_)
    · (repeat (first | exact Below.refl _ _ | assumption | exact H4.out | (refine bel_call ?_ (by assumption)) | (refine bel_alloc ?_ _) | (refine Below.drew ?_) | (refine bel_drewN ?_ _)))
    clear hK K
    (try simp only [Act.put, List.setIfInBounds_toArray, List.set_cons_zero, List.set_cons_succ])
    refine' wpAnyH_take (i := 40) (oi := ?oi41) (v := ?v41) ?hi41 ?hs41 ?hf41 ?hr41 ?hQ41 ?hy41 ?hS41 ?rest41
    case hi41 => (simp only [List.getElem?_toArray, List.getElem?_cons_succ, List.getElem?_cons_zero]; rfl)
    case hs41 => kernel_rfl
    case hf41 => kernel_rfl
    case hr41 => kernel_rfl
    case hQ41 => exact fun _ _ _ h => h
    case hS41 => assumption
    case hy41 => (refine Or.inl ⟨by rfl, ?_⟩; intro w hSw; (try dsimp only at hSw); go_simp; all_goals with_reducible rfl)
    (try simp only [Act.put, List.setIfInBounds_toArray, List.set_cons_zero, List.set_cons_succ])
    refine' wpAnyH_take (i := 41) (oi := ?oi42) (v := ?v42) ?hi42 ?hs42 ?hf42 ?hr42 ?hQ42 ?hy42 ?hS42 ?rest42
    case hi42 => (simp only [List.getElem?_toArray, List.getElem?_cons_succ, List.getElem?_cons_zero]; rfl)
    case hs42 => kernel_rfl
    case hf42 => kernel_rfl
    case hr42 => kernel_rfl
    case hQ42 => exact fun _ _ _ h => h
    case hS42 => assumption
    case hy42 => (refine Or.inl ⟨by rfl, ?_⟩; intro w hSw; (try dsimp only at hSw); go_simp; all_goals with_reducible rfl)
    (try simp only [Act.put, List.setIfInBounds_toArray, List.set_cons_zero, List.set_cons_succ])
    refine' wpAnyH_take (i := 42) (oi := ?oi43) (v := ?v43) ?hi43 ?hs43 ?hf43 ?hr43 ?hQ43 ?hy43 ?hS43 ?rest43
    case hi43 => (simp only [List.getElem?_toArray, List.getElem?_cons_succ, List.getElem?_cons_zero]; rfl)
    case hs43 => kernel_rfl
    case hf43 => kernel_rfl
    case hr43 => kernel_rfl
    case hQ43 => exact fun _ _ _ h => h
    case hS43 => assumption
    case hy43 => (refine Or.inl ⟨by rfl, ?_⟩; intro w hSw; (try dsimp only at hSw); go_simp; all_goals with_reducible rfl)
    (try simp only [Act.put, List.setIfInBounds_toArray, List.set_cons_zero, List.set_cons_succ])
    refine wpAnyH_ready (rs := [43]) (by kernel_rfl) (by simp) ?_
    refine' AllReadyH.cons (o := ?oi44) ?hi44 (fun K hK => ?step44) AllReadyH.nil
    case hi44 => (simp only [List.getElem?_toArray, List.getElem?_cons_succ, List.getElem?_cons_zero]; rfl)
    rw [if_pos (by rfl)]
    go_simp
    (go_at_call 22; refine (plain_l _).mono ?_; rintro e w' ⟨rfl, hb⟩)
    all_goals (try go_wp2_with fail)
    refine hK.out _ _ ?_ (fun hHeld => ?_)
    · (repeat (first | exact Below.refl _ _ | assumption | exact H4.out | (refine bel_call ?_ (by assumption)) | (refine bel_alloc ?_ _) | (refine Below.drew ?_) | (refine bel_drewN ?_ _)))
    clear hK K
    (try simp only [Act.put, List.setIfInBounds_toArray, List.set_cons_zero, List.set_cons_succ])
    refine wpAnyH_ready (rs := [44]) (by kernel_rfl) (by simp) ?_
    refine' AllReadyH.cons (o := ?oi45) ?hi45 (fun K hK => ?step45) AllReadyH.nil
    case hi45 => (simp only [List.getElem?_toArray, List.getElem?_cons_succ, List.getElem?_cons_zero]; rfl)
    rw [if_pos (by rfl)]
    go_simp
    (go_at_call 20; refine (byRatio_i plainG newQ true 5 _).mono ?_; rintro e w' ⟨rfl, hb⟩)
    all_goals (try go_wp2_with fail)
    refine hK.out _ _ ?_ (fun hHeld => ?_)
    · (repeat (first | exact Below.refl _ _ | assumption | exact H4.out | (refine bel_call ?_ (by assumption)) | (refine bel_alloc ?_ _) | (refine Below.drew ?_) | (refine bel_drewN ?_ _)))
    clear hK K
    (try simp only [Act.put, List.setIfInBounds_toArray, List.set_cons_zero, List.set_cons_succ])
    refine' wpAnyH_take (i := 45) (oi := ?oi46) (v := ?v46) ?hi46 ?hs46 ?hf46 ?hr46 ?hQ46 ?hy46 ?hS46 ?rest46
    case hi46 => (simp only [List.getElem?_toArray, List.getElem?_cons_succ, List.getElem?_cons_zero]; rfl)
    case hs46 => kernel_rfl
    case hf46 => kernel_rfl
    case hr46 => kernel_rfl
    case hQ46 => exact fun _ _ _ h => h
    case hS46 => assumption
    case hy46 => (refine Or.inl ⟨by rfl, ?_⟩; intro w hSw; (try dsimp only at hSw); go_simp; all_goals with_reducible rfl)
    (try simp only [Act.put, List.setIfInBounds_toArray, List.set_cons_zero, List.set_cons_succ])
    refine' wpAnyH_take (i := 46) (oi := ?oi47) (v := ?v47) ?hi47 ?hs47 ?hf47 ?hr47 ?hQ47 ?hy47 ?hS47 ?rest47
    case hi47 => (simp only [List.getElem?_toArray, List.getElem?_cons_succ, List.getElem?_cons_zero]; rfl)
    case hs47 => kernel_rfl
    case hf47 => kernel_rfl
    case hr47 => kernel_rfl
    case hQ47 => exact fun _ _ _ h => h
    case hS47 => assumption
    case hy47 => (refine Or.inl ⟨by rfl, ?_⟩; intro w hSw; (try dsimp only at hSw); go_simp; all_goals with_reducible rfl)
    (try simp only [Act.put, List.setIfInBounds_toArray, List.set_cons_zero, List.set_cons_succ])
    refine' wpAnyH_take (i := 47) (oi := ?oi48) (v := ?v48) ?hi48 ?hs48 ?hf48 ?hr48 ?hQ48 ?hy48 ?hS48 ?rest48
    case hi48 => (simp only [List.getElem?_toArray, List.getElem?_cons_succ, List.getElem?_cons_zero]; rfl)
    case hs48 => kernel_rfl
    case hf48 => kernel_rfl
    case hr48 => kernel_rfl
    case hQ48 => exact fun _ _ _ h => h
    case hS48 => assumption
    case hy48 => (refine Or.inl ⟨by rfl, ?_⟩; intro w hSw; (try dsimp only at hSw); go_simp; all_goals with_reducible rfl)
    (try simp only [Act.put, List.setIfInBounds_toArray, List.set_cons_zero, List.set_cons_succ])
    refine wpAnyH_done (by kernel_rfl) ?_ _
    go_wp2
    go_ret
    exact ⟨rfl, bel_call HB.out hHeld⟩
  · have hbig : (1048576 : Int) < ↑l.length := by omega
    go_enter Try.func4, Try.ntmps4
    go_wp2_with ((go_at_call 8; refine (big_l _ _ _ _).mono ?_; rintro e w' ⟨rfl, rfl⟩))
    go_ret
    exact ⟨rfl, Below.refl _ _⟩
set_option maxRecDepth 100000 in
theorem FnRatio_lifted (os : Os) (started : os.Started) (H : Type) (enc : TypeId × Value → H) :
    ReturnsInHanded {} Try.checked os 4 .any (Rows.fnRatioSpec.pre6 enc Try.prog Try.f4 Rows.fnRatioRow.domain false) (Rows.fnRatioSpec.post enc Try.prog Try.f4 false true false false) := by
  refine returnsInHanded_of_change (C := Try.checked) own started (by kernel_rfl) Try.func4
    (ChangeSpec.witness6 (enc := enc) (C := Try.checked) false ⟨#[], #[.slice none 0 0], []⟩ 8 (by kernel_rfl) (by kernel_rfl) (by kernel_rfl) (by kernel_rfl)) ?_
  intro W base args ds gs before hval0 hW hcnd _
  have hval : ∀ (j : Nat) t v, Try.f4.params[j]? = some t → args[j]? = some v → Value.okWide Try.prog W .any base t v := hval0
  have hW' := hW
  obtain ⟨p, q, hA0, hV, rfl, hfz, hnd⟩ := hW
  have hA : DataW.TrodAll enc Try.prog W 0 (fun _ => true) true Try.f4.params.toList args.toList ds p := hA0
  rw [Try.params4] at hA hval
  obtain ⟨v0, vs0, d0, ds0, p0, q0, hargs, rfl, rfl, h0, r0⟩ := trodAll_cons hA
  obtain ⟨rfl, rfl, rfl⟩ := trodAll_nil r0
  obtain rfl : args = #[v0] := by cases args; simp_all
  obtain ⟨rfl, rfl⟩ := trodVars_none hV
  have k0 := h0
  have lt0 : ∀ x ∈ p0, x.block < W.heap.size := by obtain ⟨m, hm⟩ := k0; exact DataW.trod_lt m _ _ _ hm
  obtain ⟨b0, len0, cap0, rfl⟩ := okWide_slice Try.underlying22 (hval 0 22 v0 rfl rfl)
  obtain ⟨z0, w0⟩ : ∃ zs, IsRow .u8 W b0 len0 cap0 zs := by
    obtain ⟨fuel, hf⟩ := h0
    rcases open_ints Try.underlying22 Try.underlying5 (by kernel_rfl) hf with ⟨hcs, _⟩ | ⟨x, l, c, zs, hcs, _, hl, hm, hz, _, hcell, hwz⟩
    · simp [Value.cells] at hcs
      obtain ⟨rfl, rfl, rfl⟩ := hcs
      exact ⟨[], .inl ⟨rfl, rfl, rfl, rfl⟩⟩
    · simp [Value.cells] at hcs
      obtain ⟨rfl, rfl, rfl⟩ := hcs
      exact ⟨zs, .inr ⟨_, rfl, hl, hm, by simpa using hz, hcell, hwz⟩⟩
  clear hA0 hval0
  refine (law_FnRatio b0 len0 cap0 z0 W w0).mono fun e W' ⟨he, bel⟩ => ?_
  subst he
  exact ⟨_, rfl, _, _, _, [], _, [], hW', trodAll_mk1 (shut_bool Try.underlying4 _), (trodAll_cons_mk (Below.trod laidOut (by kernel_rfl) (of_decide_eq_true (by kernel_rfl)) k0 bel lt0) trodAll_mk0), rfl, bel.frame _, fun h => by cases h⟩

/-- The law 'FnRatio' returns true for every input, and each argument reads afterwards as it read before. -/
theorem FnRatio_holds : Rows.FnRatioSaid :=
  OpenClaim.holds_of_wide 4 Try.f4 rfl rfl rfl rfl rfl rfl rfl ⟨rfl, rfl, rfl, rfl, rfl⟩ rfl rfl rfl rfl rfl (by kernel_rfl) Try.func4 (by kernel_rfl)
    (of_decide_eq_true (by kernel_rfl)) (by unfold Func.isWrapper; first | (rw [if_pos (by decide +kernel)]; kernel_rfl) | (rw [if_neg (by decide +kernel)]; exact ⟨rfl, rfl⟩))
    (fun os started H enc _ => FnRatio_lifted os started H enc)
#print axioms FnRatio_holds

end Go.Proofs.Ytcmanaklojomeaa
