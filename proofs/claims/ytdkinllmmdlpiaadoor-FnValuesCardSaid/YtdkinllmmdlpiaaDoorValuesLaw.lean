/- The law FnValues returns true for every input: a value that is known has a length, one that is not has none; a hundred of a hundred is all. Condition: the library's tables hold what the program's text lays (the card ties them). -/
import Derived.Test.YtdkinllmmdlpiaaDoorDrawTop
import Derived.Test.YtdkinllmmdlpiaaDoorLw
import Derived.Test.YtdkinllmmdlpiaaDoorLawM
import Derived.Test.YtdkinllmmdlpiaaDoorValueT
import Derived.Deep.RegionHeld3
namespace Go.Proofs.YtdkinllmmdlpiaaDoor
open Go.ChangeShapes Go.WideShapes Go.ChangeAt Go.WideMaps Go.WideElems Go.RowKit Go.Deep
set_option linter.unusedVariables false
set_option maxRecDepth 20000
set_option maxHeartbeats 3200000 in
theorem law_FnValues (a : Option Addr) (len cap : Nat) (zs : List Int) (w : World) (h : IsRow .u8 w a len cap zs) (hT : Pow10 w) :
    Calls Tryd.prog 7 #[.slice a len cap] w fun e w' => e = .returned (.bool true) ∧ Below w.heap.size w w' := by
  have HT := Lib.hid hT
  obtain ⟨l, rfl, hr⟩ := RdB.of_row h
  clear h hT
  by_cases hle : l.length ≤ 1048576
  · have HR := Lib.hid hr
    have hbig : ¬ (1048576 : Int) < ↑l.length := by omega
    clear hr
    go_enter Tryd.func7, Tryd.ntmps7
    go_wp2_with ((go_at_call 15; refine (big_l _ _ _ _).mono ?_; rintro e w' ⟨rfl, rfl⟩))
    refine (drawLengthOf_s w a cap l hle HR.out).mono ?_
    rintro e w1 ⟨g, x, hg, hx, rfl, hb⟩
    have HG := Lib.hid hg
    have HX := Lib.hid hx
    have HL := Lib.hid (Lw.start hb)
    clear hb hg hx
    generalize hg0 : g 0 = k at *
    generalize hg1 : g 1 = n at *
    have HN : Hid (In64 n) := Lib.hid (by rw [← hg1]; exact HG.out 1)
    clear hg0 hg1 HG
    go_upto_region 7 with (first | (go_at_call 23; refine (sizeOf_i _ _ _ _).mono ?_; rintro e w' ⟨rfl, hb⟩; replace HL := Lib.hid (HL.out.called hb); clear hb) | (go_at_call 22; refine (known_i _ _ _ _).mono ?_; rintro e w' ⟨rfl, hb⟩; replace HL := Lib.hid (HL.out.called hb); clear hb) | (go_at_call 21; refine (lengthOf_i _ _ _ _).mono ?_; rintro e w' ⟨rfl, hb⟩; replace HL := Lib.hid (HL.out.called hb); clear hb) | (refine Lw.wp_alloc HL.out rfl 30 rfl (.agg #[.int .i64 0, .int .i64 0]) (by kernel_rfl) ?_; intro b W' hL; replace HL := Lib.hid hL; clear hL) | (refine Lw.wp_put HL.out rfl 30 _ _ rfl _ rfl rfl (by rfl) (by first | exact one2 _ _ | exact one4 _ _ _ _ | exact syA_one _ _ | exact sdA_one _ _) (by kernel_rfl) ?_; intro W' hL; replace HL := Lib.hid hL; clear hL) | (refine Lw.wp_load HL.out rfl 30 _ rfl _ rfl _ _ (by (first | exact List.mem_cons_self | exact List.mem_cons_of_mem _ List.mem_cons_self | exact List.mem_cons_of_mem _ (List.mem_cons_of_mem _ List.mem_cons_self))) _ Tryd.underlying30 rfl (by kernel_rfl) ?_))
    obtain ⟨L, hL⟩ : ∃ L, L = [(b, 30, #[Value.int .i64 k, Value.int .i64 n])] := ⟨_, rfl⟩
    have R0 : ∀ W, Lw w L W → W.cell? ⟨b, 0, none⟩ = some (.int .i64 k) := fun W h => by subst hL; exact h.cell List.mem_cons_self 0
    have R1 : ∀ W, Lw w L W → W.cell? ⟨b, 1, none⟩ = some (.int .i64 n) := fun W h => by subst hL; exact h.cell List.mem_cons_self 1
    rw [← hL] at HL
    have HL0 : Lw w L w' := HL.out
    go_region_held3 (fun w' => w'.cell? ⟨b, 0, none⟩ = some (.int .i64 k) ∧ w'.cell? ⟨b, 1, none⟩ = some (.int .i64 n) ∧ Lw w L w') ((refine ⟨R0 _ ?_, R1 _ ?_, ?_⟩ <;> (repeat (first | exact HL.out | assumption | exact And.right (And.right (by assumption)) | exact And.right (by assumption) | (refine Lw.called ?_ (by assumption)) | (refine Lw.alloc ?_ _) | (refine Lw.drew ?_) | (refine Lw.drewN ?_ _))))) (first | (go_at_call 24; refine (lengthOf_s _ _ _ _).mono ?_; rintro e w' ⟨rfl, hb⟩) | (go_at_call 25; refine (known_s _ _ _ _).mono ?_; rintro e w' ⟨rfl, hb⟩) | (go_at_call 26; refine (sizeOf_s _ _ _ _).mono ?_; rintro e w' ⟨rfl, hb⟩) | (go_at_call 27; refine (valueOk_i _ _ _).mono ?_; rintro e w' ⟨rfl, hb⟩) | (go_at_call 28; refine (valueOk_s _ _ _).mono ?_; rintro e w' ⟨rfl, hb⟩))
    go_wp2_with fail
    refine (drawPlaces_s _ a cap l hle (HR.out.below (Lw.bel (w := w) (L := L) (by (repeat (first | exact HL.out | assumption | exact And.right (And.right (by assumption)) | exact And.right (by assumption) | (refine Lw.called ?_ (by assumption)) | (refine Lw.alloc ?_ _) | (refine Lw.drew ?_) | (refine Lw.drewN ?_ _))))))).mono ?_
    rintro e B ⟨v, M, rfl, hM, hx, ho⟩
    have hLB : Lw w L B := Lw.called (by (repeat (first | exact HL.out | assumption | exact And.right (And.right (by assumption)) | exact And.right (by assumption) | (refine Lw.called ?_ (by assumption)) | (refine Lw.alloc ?_ _) | (refine Lw.drew ?_) | (refine Lw.drewN ?_ _)))) ho.bel
    obtain ⟨gp, cp, rfl, p, hc, hp⟩ := places_at hM hx ho
    obtain ⟨p00, p01⟩ := hp 0
    obtain ⟨e100, e50⟩ := length_all p00 p01
    have HP : Hid (∀ W, Below B.heap.size B W → W.cell? ⟨gp, 0, none⟩ = some (.int .i64 (p 0))) := Lib.hid (fun W h => (h.cell (World.block_lt_of_cell? _ _ (hc 0 (by decide)))).trans (hc 0 (by decide)))
    have HQ : Hid (∀ W, Below B.heap.size B W → W.cell? ⟨b, 0, none⟩ = some (.int .i64 k)) := Lib.hid (fun W h => R0 W (hLB.called h))
    have HU : Hid (∀ W, Below B.heap.size B W → W.cell? ⟨b, 1, none⟩ = some (.int .i64 n)) := Lib.hid (fun W h => R1 W (hLB.called h))
    have HTB : Hid (∀ W, Below B.heap.size B W → Pow10 W) := Lib.hid (fun W h => HT.out.below (bel_call hLB.bel h))
    have HB := Lib.hid hLB.bel
    have c0 := HP.out B (Below.refl _ _)
    clear R0 R1 hLB hM hx ho hc hp HL0
    go_wp2_with fail
    refine (lengthOf_i 2 100 (p 0) _).mono ?_
    rintro e w2 ⟨rfl, hb⟩
    have H2 := Lib.hid hb
    clear hb c0
    have c0 := HP.out w2 H2.out
    go_wp2_with fail
    refine (lengthOf_i 2 50 (p 0) _).mono ?_
    rintro e w3 ⟨rfl, hb⟩
    have H3 := Lib.hid (bel_call H2.out hb)
    clear hb c0
    go_upto_region 12 with fail
    have e3 : valT 3 0 = ⟨#[97, 117, 116, 111]⟩ := by unfold valT; rfl
    have hq : IntKind.i64.wrap ((p 0).tdiv 2) = p 0 / 2 := by rw [Int.tdiv_eq_ediv_of_nonneg p00]; exact IntWalk.i64_in _ (by omega)
    have t0 : (knownB k x = true ∧ decide (0 ≤ sizeOf k n x) = true) ∨ (knownB k x = false ∧ lengthOf k n x = -1 ∧ sizeOf k n x = -1) := by
      rcases known_size k n x with ⟨f1, f2⟩ | ⟨f1, f2, f3⟩
      · exact Or.inl ⟨f1, by simpa using f2⟩
      · exact Or.inr ⟨f1, f2, f3⟩
    clear p01 HL
    rcases t0 with ⟨f1, f2⟩ | ⟨f1, f2, f3⟩
    · rw [f1]
      clear f1
      refine wp_region_held_drew (S := (fun w' => w'.cell? ⟨gp, 0, none⟩ = some (.int .i64 (p 0)) ∧ w'.cell? ⟨b, 0, none⟩ = some (.int .i64 k) ∧ w'.cell? ⟨b, 1, none⟩ = some (.int .i64 n) ∧ Below B.heap.size B w')) (by kernel_rfl) ?_ (fun hHeld => ?_)
      · (refine ⟨HP.out _ ?_, HQ.out _ ?_, HU.out _ ?_, ?_⟩ <;> (repeat (first | exact H3.out | assumption | exact And.right (And.right (And.right (by assumption))) | (refine bel_call ?_ (by assumption)) | (refine bel_alloc ?_ _) | (refine Below.drew ?_) | (refine bel_drewN ?_ _))))
      refine' wpAnyH_take (i := 0) (oi := ?oi1) (v := ?v1) ?hi1 ?hs1 ?hf1 ?hr1 ?hQ1 ?hy1 ?hS1 ?rest1
      case hi1 => (simp only [List.getElem?_toArray, List.getElem?_cons_zero]; rfl)
      case hs1 => kernel_rfl
      case hf1 => kernel_rfl
      case hr1 => kernel_rfl
      case hQ1 => exact fun _ _ _ h => h
      case hS1 => assumption
      case hy1 => (refine Or.inl ⟨by rfl, ?_⟩; intro w hSw; (try dsimp only at hSw); go_simp; all_goals with_reducible rfl)
      (try simp only [Act.put, List.setIfInBounds_toArray, List.set_cons_zero, List.set_cons_succ])
      refine' wpAnyH_take (i := 1) (oi := ?oi2) (v := ?v2) ?hi2 ?hs2 ?hf2 ?hr2 ?hQ2 ?hy2 ?hS2 ?rest2
      case hi2 => (simp only [List.getElem?_toArray, List.getElem?_cons_succ, List.getElem?_cons_zero]; rfl)
      case hs2 => kernel_rfl
      case hf2 => kernel_rfl
      case hr2 => kernel_rfl
      case hQ2 => exact fun _ _ _ h => h
      case hS2 => assumption
      case hy2 => (refine Or.inl ⟨by rfl, ?_⟩; intro w hSw; (try dsimp only at hSw); go_simp; all_goals with_reducible rfl)
      (try simp only [Act.put, List.setIfInBounds_toArray, List.set_cons_zero, List.set_cons_succ])
      refine' wpAnyH_take (i := 2) (oi := ?oi3) (v := undef) ?hi3 ?hs3 ?hf3 ?hr3 ?hQ3 ?hy3 ?hS3 ?rest3
      case hi3 => (simp only [List.getElem?_toArray, List.getElem?_cons_succ, List.getElem?_cons_zero]; rfl)
      case hs3 => kernel_rfl
      case hf3 => kernel_rfl
      case hr3 => kernel_rfl
      case hQ3 => exact fun _ _ _ h => h
      case hS3 => assumption
      case hy3 => exact Or.inr ⟨by rfl, rfl⟩
      (try simp only [Act.put, List.setIfInBounds_toArray, List.set_cons_zero, List.set_cons_succ])
      refine' wpAnyH_take (i := 3) (oi := ?oi4) (v := undef) ?hi4 ?hs4 ?hf4 ?hr4 ?hQ4 ?hy4 ?hS4 ?rest4
      case hi4 => (simp only [List.getElem?_toArray, List.getElem?_cons_succ, List.getElem?_cons_zero]; rfl)
      case hs4 => kernel_rfl
      case hf4 => kernel_rfl
      case hr4 => kernel_rfl
      case hQ4 => exact fun _ _ _ h => h
      case hS4 => assumption
      case hy4 => exact Or.inr ⟨by rfl, rfl⟩
      (try simp only [Act.put, List.setIfInBounds_toArray, List.set_cons_zero, List.set_cons_succ])
      refine' wpAnyH_take (i := 4) (oi := ?oi5) (v := undef) ?hi5 ?hs5 ?hf5 ?hr5 ?hQ5 ?hy5 ?hS5 ?rest5
      case hi5 => (simp only [List.getElem?_toArray, List.getElem?_cons_succ, List.getElem?_cons_zero]; rfl)
      case hs5 => kernel_rfl
      case hf5 => kernel_rfl
      case hr5 => kernel_rfl
      case hQ5 => exact fun _ _ _ h => h
      case hS5 => assumption
      case hy5 => exact Or.inr ⟨by rfl, rfl⟩
      (try simp only [Act.put, List.setIfInBounds_toArray, List.set_cons_zero, List.set_cons_succ])
      refine' wpAnyH_take (i := 5) (oi := ?oi6) (v := undef) ?hi6 ?hs6 ?hf6 ?hr6 ?hQ6 ?hy6 ?hS6 ?rest6
      case hi6 => (simp only [List.getElem?_toArray, List.getElem?_cons_succ, List.getElem?_cons_zero]; rfl)
      case hs6 => kernel_rfl
      case hf6 => kernel_rfl
      case hr6 => kernel_rfl
      case hQ6 => exact fun _ _ _ h => h
      case hS6 => assumption
      case hy6 => exact Or.inr ⟨by rfl, rfl⟩
      (try simp only [Act.put, List.setIfInBounds_toArray, List.set_cons_zero, List.set_cons_succ])
      refine' wpAnyH_take (i := 6) (oi := ?oi7) (v := undef) ?hi7 ?hs7 ?hf7 ?hr7 ?hQ7 ?hy7 ?hS7 ?rest7
      case hi7 => (simp only [List.getElem?_toArray, List.getElem?_cons_succ, List.getElem?_cons_zero]; rfl)
      case hs7 => kernel_rfl
      case hf7 => kernel_rfl
      case hr7 => kernel_rfl
      case hQ7 => exact fun _ _ _ h => h
      case hS7 => assumption
      case hy7 => exact Or.inr ⟨by rfl, rfl⟩
      (try simp only [Act.put, List.setIfInBounds_toArray, List.set_cons_zero, List.set_cons_succ])
      refine' wpAnyH_take (i := 7) (oi := ?oi8) (v := undef) ?hi8 ?hs8 ?hf8 ?hr8 ?hQ8 ?hy8 ?hS8 ?rest8
      case hi8 => (simp only [List.getElem?_toArray, List.getElem?_cons_succ, List.getElem?_cons_zero]; rfl)
      case hs8 => kernel_rfl
      case hf8 => kernel_rfl
      case hr8 => kernel_rfl
      case hQ8 => exact fun _ _ _ h => h
      case hS8 => assumption
      case hy8 => exact Or.inr ⟨by rfl, rfl⟩
      (try simp only [Act.put, List.setIfInBounds_toArray, List.set_cons_zero, List.set_cons_succ])
      refine' wpAnyH_take (i := 8) (oi := ?oi9) (v := ?v9) ?hi9 ?hs9 ?hf9 ?hr9 ?hQ9 ?hy9 ?hS9 ?rest9
      case hi9 => (simp only [List.getElem?_toArray, List.getElem?_cons_succ, List.getElem?_cons_zero]; rfl)
      case hs9 => kernel_rfl
      case hf9 => kernel_rfl
      case hr9 => kernel_rfl
      case hQ9 => exact fun _ _ _ h => h
      case hS9 => assumption
      case hy9 => (refine Or.inl ⟨by rfl, ?_⟩; intro w hSw; (try dsimp only at hSw); go_simp; all_goals with_reducible rfl)
      (try simp only [Act.put, List.setIfInBounds_toArray, List.set_cons_zero, List.set_cons_succ])
      refine' wpAnyH_take (i := 9) (oi := ?oi10) (v := ?v10) ?hi10 ?hs10 ?hf10 ?hr10 ?hQ10 ?hy10 ?hS10 ?rest10
      case hi10 => (simp only [List.getElem?_toArray, List.getElem?_cons_succ, List.getElem?_cons_zero]; rfl)
      case hs10 => kernel_rfl
      case hf10 => kernel_rfl
      case hr10 => kernel_rfl
      case hQ10 => exact fun _ _ _ h => h
      case hS10 => assumption
      case hy10 => (refine Or.inl ⟨by rfl, ?_⟩; intro w hSw; (try dsimp only at hSw); go_simp; all_goals with_reducible rfl)
      (try simp only [Act.put, List.setIfInBounds_toArray, List.set_cons_zero, List.set_cons_succ])
      refine' wpAnyH_take (i := 10) (oi := ?oi11) (v := ?v11) ?hi11 ?hs11 ?hf11 ?hr11 ?hQ11 ?hy11 ?hS11 ?rest11
      case hi11 => (simp only [List.getElem?_toArray, List.getElem?_cons_succ, List.getElem?_cons_zero]; rfl)
      case hs11 => kernel_rfl
      case hf11 => kernel_rfl
      case hr11 => kernel_rfl
      case hQ11 => exact fun _ _ _ h => h
      case hS11 => assumption
      case hy11 => (refine Or.inl ⟨by rfl, ?_⟩; intro w hSw; (try dsimp only at hSw); go_simp; all_goals with_reducible rfl)
      (try simp only [Act.put, List.setIfInBounds_toArray, List.set_cons_zero, List.set_cons_succ])
      refine' wpAnyH_take (i := 11) (oi := ?oi12) (v := ?v12) ?hi12 ?hs12 ?hf12 ?hr12 ?hQ12 ?hy12 ?hS12 ?rest12
      case hi12 => (simp only [List.getElem?_toArray, List.getElem?_cons_succ, List.getElem?_cons_zero]; rfl)
      case hs12 => kernel_rfl
      case hf12 => kernel_rfl
      case hr12 => kernel_rfl
      case hQ12 => exact fun _ _ _ h => h
      case hS12 => assumption
      case hy12 => (refine Or.inl ⟨by rfl, ?_⟩; intro w hSw; (try dsimp only at hSw); go_simp; all_goals with_reducible rfl)
      (try simp only [Act.put, List.setIfInBounds_toArray, List.set_cons_zero, List.set_cons_succ])
      refine' wpAnyH_take (i := 12) (oi := ?oi13) (v := ?v13) ?hi13 ?hs13 ?hf13 ?hr13 ?hQ13 ?hy13 ?hS13 ?rest13
      case hi13 => (simp only [List.getElem?_toArray, List.getElem?_cons_succ, List.getElem?_cons_zero]; rfl)
      case hs13 => kernel_rfl
      case hf13 => kernel_rfl
      case hr13 => kernel_rfl
      case hQ13 => exact fun _ _ _ h => h
      case hS13 => assumption
      case hy13 => (refine Or.inl ⟨by rfl, ?_⟩; intro w hSw; (try dsimp only at hSw); go_simp; all_goals with_reducible rfl)
      (try simp only [Act.put, List.setIfInBounds_toArray, List.set_cons_zero, List.set_cons_succ])
      refine' wpAnyH_take (i := 13) (oi := ?oi14) (v := ?v14) ?hi14 ?hs14 ?hf14 ?hr14 ?hQ14 ?hy14 ?hS14 ?rest14
      case hi14 => (simp only [List.getElem?_toArray, List.getElem?_cons_succ, List.getElem?_cons_zero]; rfl)
      case hs14 => kernel_rfl
      case hf14 => kernel_rfl
      case hr14 => kernel_rfl
      case hQ14 => exact fun _ _ _ h => h
      case hS14 => assumption
      case hy14 => (refine Or.inl ⟨by rfl, ?_⟩; intro w hSw; (try dsimp only at hSw); go_simp; all_goals with_reducible rfl)
      (try simp only [Act.put, List.setIfInBounds_toArray, List.set_cons_zero, List.set_cons_succ])
      refine' wpAnyH_take (i := 14) (oi := ?oi15) (v := ?v15) ?hi15 ?hs15 ?hf15 ?hr15 ?hQ15 ?hy15 ?hS15 ?rest15
      case hi15 => (simp only [List.getElem?_toArray, List.getElem?_cons_succ, List.getElem?_cons_zero]; rfl)
      case hs15 => kernel_rfl
      case hf15 => kernel_rfl
      case hr15 => kernel_rfl
      case hQ15 => exact fun _ _ _ h => h
      case hS15 => assumption
      case hy15 => (refine Or.inl ⟨by rfl, ?_⟩; intro w hSw; (try dsimp only at hSw); go_simp; all_goals with_reducible rfl)
      (try simp only [Act.put, List.setIfInBounds_toArray, List.set_cons_zero, List.set_cons_succ])
      refine' wpAnyH_take (i := 15) (oi := ?oi16) (v := ?v16) ?hi16 ?hs16 ?hf16 ?hr16 ?hQ16 ?hy16 ?hS16 ?rest16
      case hi16 => (simp only [List.getElem?_toArray, List.getElem?_cons_succ, List.getElem?_cons_zero]; rfl)
      case hs16 => kernel_rfl
      case hf16 => kernel_rfl
      case hr16 => kernel_rfl
      case hQ16 => exact fun _ _ _ h => h
      case hS16 => assumption
      case hy16 => (refine Or.inl ⟨by rfl, ?_⟩; intro w hSw; (try dsimp only at hSw); go_simp; all_goals with_reducible rfl)
      (try simp only [Act.put, List.setIfInBounds_toArray, List.set_cons_zero, List.set_cons_succ])
      refine' wpAnyH_take (i := 16) (oi := ?oi17) (v := ?v17) ?hi17 ?hs17 ?hf17 ?hr17 ?hQ17 ?hy17 ?hS17 ?rest17
      case hi17 => (simp only [List.getElem?_toArray, List.getElem?_cons_succ, List.getElem?_cons_zero]; rfl)
      case hs17 => kernel_rfl
      case hf17 => kernel_rfl
      case hr17 => kernel_rfl
      case hQ17 => exact fun _ _ _ h => h
      case hS17 => assumption
      case hy17 => (refine Or.inl ⟨by rfl, ?_⟩; intro w hSw; (try dsimp only at hSw); go_simp; all_goals with_reducible rfl)
      (try simp only [Act.put, List.setIfInBounds_toArray, List.set_cons_zero, List.set_cons_succ])
      refine' wpAnyH_take (i := 17) (oi := ?oi18) (v := ?v18) ?hi18 ?hs18 ?hf18 ?hr18 ?hQ18 ?hy18 ?hS18 ?rest18
      case hi18 => (simp only [List.getElem?_toArray, List.getElem?_cons_succ, List.getElem?_cons_zero]; rfl)
      case hs18 => kernel_rfl
      case hf18 => kernel_rfl
      case hr18 => kernel_rfl
      case hQ18 => exact fun _ _ _ h => h
      case hS18 => assumption
      case hy18 => (refine Or.inl ⟨by rfl, ?_⟩; intro w hSw; (try dsimp only at hSw); go_simp; all_goals with_reducible rfl)
      (try simp only [Act.put, List.setIfInBounds_toArray, List.set_cons_zero, List.set_cons_succ])
      refine' wpAnyH_take (i := 18) (oi := ?oi19) (v := ?v19) ?hi19 ?hs19 ?hf19 ?hr19 ?hQ19 ?hy19 ?hS19 ?rest19
      case hi19 => (simp only [List.getElem?_toArray, List.getElem?_cons_succ, List.getElem?_cons_zero]; rfl)
      case hs19 => kernel_rfl
      case hf19 => kernel_rfl
      case hr19 => kernel_rfl
      case hQ19 => exact fun _ _ _ h => h
      case hS19 => assumption
      case hy19 => (refine Or.inl ⟨by rfl, ?_⟩; intro w hSw; (try dsimp only at hSw); go_simp; all_goals with_reducible rfl)
      (try simp only [Act.put, List.setIfInBounds_toArray, List.set_cons_zero, List.set_cons_succ])
      refine' wpAnyH_take (i := 19) (oi := ?oi20) (v := ?v20) ?hi20 ?hs20 ?hf20 ?hr20 ?hQ20 ?hy20 ?hS20 ?rest20
      case hi20 => (simp only [List.getElem?_toArray, List.getElem?_cons_succ, List.getElem?_cons_zero]; rfl)
      case hs20 => kernel_rfl
      case hf20 => kernel_rfl
      case hr20 => kernel_rfl
      case hQ20 => exact fun _ _ _ h => h
      case hS20 => assumption
      case hy20 => (refine Or.inl ⟨by rfl, ?_⟩; intro w hSw; (try dsimp only at hSw); go_simp; all_goals with_reducible rfl)
      (try simp only [Act.put, List.setIfInBounds_toArray, List.set_cons_zero, List.set_cons_succ])
      refine' wpAnyH_take (i := 20) (oi := ?oi21) (v := ?v21) ?hi21 ?hs21 ?hf21 ?hr21 ?hQ21 ?hy21 ?hS21 ?rest21
      case hi21 => (simp only [List.getElem?_toArray, List.getElem?_cons_succ, List.getElem?_cons_zero]; rfl)
      case hs21 => kernel_rfl
      case hf21 => kernel_rfl
      case hr21 => kernel_rfl
      case hQ21 => exact fun _ _ _ h => h
      case hS21 => assumption
      case hy21 => (refine Or.inl ⟨by rfl, ?_⟩; intro w hSw; (try dsimp only at hSw); go_simp; all_goals with_reducible rfl)
      (try simp only [Act.put, List.setIfInBounds_toArray, List.set_cons_zero, List.set_cons_succ])
      refine' wpAnyH_take (i := 21) (oi := ?oi22) (v := ?v22) ?hi22 ?hs22 ?hf22 ?hr22 ?hQ22 ?hy22 ?hS22 ?rest22
      case hi22 => (simp only [List.getElem?_toArray, List.getElem?_cons_succ, List.getElem?_cons_zero]; rfl)
      case hs22 => kernel_rfl
      case hf22 => kernel_rfl
      case hr22 => kernel_rfl
      case hQ22 => exact fun _ _ _ h => h
      case hS22 => assumption
      case hy22 => (refine Or.inl ⟨by rfl, ?_⟩; intro w hSw; (try dsimp only at hSw); go_simp; all_goals with_reducible rfl)
      (try simp only [Act.put, List.setIfInBounds_toArray, List.set_cons_zero, List.set_cons_succ])
      refine' wpAnyH_take (i := 22) (oi := ?oi23) (v := ?v23) ?hi23 ?hs23 ?hf23 ?hr23 ?hQ23 ?hy23 ?hS23 ?rest23
      case hi23 => (simp only [List.getElem?_toArray, List.getElem?_cons_succ, List.getElem?_cons_zero]; rfl)
      case hs23 => kernel_rfl
      case hf23 => kernel_rfl
      case hr23 => kernel_rfl
      case hQ23 => exact fun _ _ _ h => h
      case hS23 => assumption
      case hy23 => (refine Or.inl ⟨by rfl, ?_⟩; intro w hSw; (try dsimp only at hSw); go_simp; all_goals with_reducible rfl)
      (try simp only [Act.put, List.setIfInBounds_toArray, List.set_cons_zero, List.set_cons_succ])
      refine' wpAnyH_take (i := 23) (oi := ?oi24) (v := ?v24) ?hi24 ?hs24 ?hf24 ?hr24 ?hQ24 ?hy24 ?hS24 ?rest24
      case hi24 => (simp only [List.getElem?_toArray, List.getElem?_cons_succ, List.getElem?_cons_zero]; rfl)
      case hs24 => kernel_rfl
      case hf24 => kernel_rfl
      case hr24 => kernel_rfl
      case hQ24 => exact fun _ _ _ h => h
      case hS24 => assumption
      case hy24 => (refine Or.inl ⟨by rfl, ?_⟩; intro w hSw; (try dsimp only at hSw); go_simp; all_goals with_reducible rfl)
      (try simp only [Act.put, List.setIfInBounds_toArray, List.set_cons_zero, List.set_cons_succ])
      refine' wpAnyH_take (i := 24) (oi := ?oi25) (v := ?v25) ?hi25 ?hs25 ?hf25 ?hr25 ?hQ25 ?hy25 ?hS25 ?rest25
      case hi25 => (simp only [List.getElem?_toArray, List.getElem?_cons_succ, List.getElem?_cons_zero]; rfl)
      case hs25 => kernel_rfl
      case hf25 => kernel_rfl
      case hr25 => kernel_rfl
      case hQ25 => exact fun _ _ _ h => h
      case hS25 => assumption
      case hy25 => (refine Or.inl ⟨by rfl, ?_⟩; intro w hSw; (try dsimp only at hSw); go_simp; all_goals with_reducible rfl)
      (try simp only [Act.put, List.setIfInBounds_toArray, List.set_cons_zero, List.set_cons_succ])
      refine' wpAnyH_take (i := 25) (oi := ?oi26) (v := ?v26) ?hi26 ?hs26 ?hf26 ?hr26 ?hQ26 ?hy26 ?hS26 ?rest26
      case hi26 => (simp only [List.getElem?_toArray, List.getElem?_cons_succ, List.getElem?_cons_zero]; rfl)
      case hs26 => kernel_rfl
      case hf26 => kernel_rfl
      case hr26 => kernel_rfl
      case hQ26 => exact fun _ _ _ h => h
      case hS26 => assumption
      case hy26 => (refine Or.inl ⟨by rfl, ?_⟩; intro w hSw; (try dsimp only at hSw); go_simp; all_goals with_reducible rfl)
      (try simp only [Act.put, List.setIfInBounds_toArray, List.set_cons_zero, List.set_cons_succ])
      refine' wpAnyH_take (i := 26) (oi := ?oi27) (v := ?v27) ?hi27 ?hs27 ?hf27 ?hr27 ?hQ27 ?hy27 ?hS27 ?rest27
      case hi27 => (simp only [List.getElem?_toArray, List.getElem?_cons_succ, List.getElem?_cons_zero]; rfl)
      case hs27 => kernel_rfl
      case hf27 => kernel_rfl
      case hr27 => kernel_rfl
      case hQ27 => exact fun _ _ _ h => h
      case hS27 => assumption
      case hy27 => (refine Or.inl ⟨by rfl, ?_⟩; intro w hSw; (try dsimp only at hSw); go_simp; all_goals with_reducible rfl)
      (try simp only [Act.put, List.setIfInBounds_toArray, List.set_cons_zero, List.set_cons_succ])
      refine' wpAnyH_take (i := 27) (oi := ?oi28) (v := ?v28) ?hi28 ?hs28 ?hf28 ?hr28 ?hQ28 ?hy28 ?hS28 ?rest28
      case hi28 => (simp only [List.getElem?_toArray, List.getElem?_cons_succ, List.getElem?_cons_zero]; rfl)
      case hs28 => kernel_rfl
      case hf28 => kernel_rfl
      case hr28 => kernel_rfl
      case hQ28 => exact fun _ _ _ h => h
      case hS28 => assumption
      case hy28 => (refine Or.inl ⟨by rfl, ?_⟩; intro w hSw; (try dsimp only at hSw); go_simp; all_goals with_reducible rfl)
      (try simp only [Act.put, List.setIfInBounds_toArray, List.set_cons_zero, List.set_cons_succ])
      refine' wpAnyH_take (i := 28) (oi := ?oi29) (v := ?v29) ?hi29 ?hs29 ?hf29 ?hr29 ?hQ29 ?hy29 ?hS29 ?rest29
      case hi29 => (simp only [List.getElem?_toArray, List.getElem?_cons_succ, List.getElem?_cons_zero]; rfl)
      case hs29 => kernel_rfl
      case hf29 => kernel_rfl
      case hr29 => kernel_rfl
      case hQ29 => exact fun _ _ _ h => h
      case hS29 => assumption
      case hy29 => (refine Or.inl ⟨by rfl, ?_⟩; intro w hSw; (try dsimp only at hSw); go_simp; all_goals with_reducible rfl)
      (try simp only [Act.put, List.setIfInBounds_toArray, List.set_cons_zero, List.set_cons_succ])
      refine' wpAnyH_take (i := 29) (oi := ?oi30) (v := ?v30) ?hi30 ?hs30 ?hf30 ?hr30 ?hQ30 ?hy30 ?hS30 ?rest30
      case hi30 => (simp only [List.getElem?_toArray, List.getElem?_cons_succ, List.getElem?_cons_zero]; rfl)
      case hs30 => kernel_rfl
      case hf30 => kernel_rfl
      case hr30 => kernel_rfl
      case hQ30 => exact fun _ _ _ h => h
      case hS30 => assumption
      case hy30 => (refine Or.inl ⟨by rfl, ?_⟩; intro w hSw; (try dsimp only at hSw); go_simp; all_goals with_reducible rfl)
      (try simp only [Act.put, List.setIfInBounds_toArray, List.set_cons_zero, List.set_cons_succ])
      refine' wpAnyH_take (i := 30) (oi := ?oi31) (v := ?v31) ?hi31 ?hs31 ?hf31 ?hr31 ?hQ31 ?hy31 ?hS31 ?rest31
      case hi31 => (simp only [List.getElem?_toArray, List.getElem?_cons_succ, List.getElem?_cons_zero]; rfl)
      case hs31 => kernel_rfl
      case hf31 => kernel_rfl
      case hr31 => kernel_rfl
      case hQ31 => exact fun _ _ _ h => h
      case hS31 => assumption
      case hy31 => (refine Or.inl ⟨by rfl, ?_⟩; intro w hSw; (try dsimp only at hSw); go_simp; all_goals with_reducible rfl)
      (try simp only [Act.put, List.setIfInBounds_toArray, List.set_cons_zero, List.set_cons_succ])
      refine' wpAnyH_take (i := 31) (oi := ?oi32) (v := ?v32) ?hi32 ?hs32 ?hf32 ?hr32 ?hQ32 ?hy32 ?hS32 ?rest32
      case hi32 => (simp only [List.getElem?_toArray, List.getElem?_cons_succ, List.getElem?_cons_zero]; rfl)
      case hs32 => kernel_rfl
      case hf32 => kernel_rfl
      case hr32 => kernel_rfl
      case hQ32 => exact fun _ _ _ h => h
      case hS32 => assumption
      case hy32 => (refine Or.inl ⟨by rfl, ?_⟩; intro w hSw; (try dsimp only at hSw); go_simp; all_goals with_reducible rfl)
      (try simp only [Act.put, List.setIfInBounds_toArray, List.set_cons_zero, List.set_cons_succ])
      refine' wpAnyH_take (i := 32) (oi := ?oi33) (v := ?v33) ?hi33 ?hs33 ?hf33 ?hr33 ?hQ33 ?hy33 ?hS33 ?rest33
      case hi33 => (simp only [List.getElem?_toArray, List.getElem?_cons_succ, List.getElem?_cons_zero]; rfl)
      case hs33 => kernel_rfl
      case hf33 => kernel_rfl
      case hr33 => kernel_rfl
      case hQ33 => exact fun _ _ _ h => h
      case hS33 => assumption
      case hy33 => (refine Or.inl ⟨by rfl, ?_⟩; intro w hSw; (try dsimp only at hSw); go_simp; all_goals with_reducible rfl)
      (try simp only [Act.put, List.setIfInBounds_toArray, List.set_cons_zero, List.set_cons_succ])
      refine' wpAnyH_take (i := 33) (oi := ?oi34) (v := ?v34) ?hi34 ?hs34 ?hf34 ?hr34 ?hQ34 ?hy34 ?hS34 ?rest34
      case hi34 => (simp only [List.getElem?_toArray, List.getElem?_cons_succ, List.getElem?_cons_zero]; rfl)
      case hs34 => kernel_rfl
      case hf34 => kernel_rfl
      case hr34 => kernel_rfl
      case hQ34 => exact fun _ _ _ h => h
      case hS34 => assumption
      case hy34 => (refine Or.inl ⟨by rfl, ?_⟩; intro w hSw; (try dsimp only at hSw); go_simp; all_goals with_reducible rfl)
      (try simp only [Act.put, List.setIfInBounds_toArray, List.set_cons_zero, List.set_cons_succ])
      refine' wpAnyH_take (i := 35) (oi := ?oi35) (v := ?v35) ?hi35 ?hs35 ?hf35 ?hr35 ?hQ35 ?hy35 ?hS35 ?rest35
      case hi35 => (simp only [List.getElem?_toArray, List.getElem?_cons_succ, List.getElem?_cons_zero]; rfl)
      case hs35 => kernel_rfl
      case hf35 => kernel_rfl
      case hr35 => kernel_rfl
      case hQ35 => exact fun _ _ _ h => h
      case hS35 => assumption
      case hy35 => (refine Or.inl ⟨by rfl, ?_⟩; intro w hSw; (try dsimp only at hSw); go_simp; all_goals with_reducible rfl)
      (try simp only [Act.put, List.setIfInBounds_toArray, List.set_cons_zero, List.set_cons_succ])
      refine wpAnyH_ready (rs := [34]) (by kernel_rfl) (by simp) ?_
      refine' AllReadyH.cons (o := ?oi36) ?hi36 (fun K hK => ?step36) AllReadyH.nil
      case hi36 => (simp only [List.getElem?_toArray, List.getElem?_cons_succ, List.getElem?_cons_zero]; rfl)
      rw [if_pos (by rfl)]
      go_simp
      (go_at_call 29; refine (orElse_i _ _ _).mono ?_; rintro e w' ⟨rfl, rfl⟩)
      all_goals (try go_wp2_with fail)
      refine hK.out _ _ ?_ (fun hHeld => ?_)
      · (refine ⟨HP.out _ ?_, HQ.out _ ?_, HU.out _ ?_, ?_⟩ <;> (repeat (first | exact H3.out | assumption | exact And.right (And.right (And.right (by assumption))) | (refine bel_call ?_ (by assumption)) | (refine bel_alloc ?_ _) | (refine Below.drew ?_) | (refine bel_drewN ?_ _))))
      clear hK K
      (try simp only [Act.put, List.setIfInBounds_toArray, List.set_cons_zero, List.set_cons_succ])
      refine wpAnyH_ready (rs := [36]) (by kernel_rfl) (by simp) ?_
      refine' AllReadyH.cons (o := ?oi37) ?hi37 (fun K hK => ?step37) AllReadyH.nil
      case hi37 => (simp only [List.getElem?_toArray, List.getElem?_cons_succ, List.getElem?_cons_zero]; rfl)
      rw [if_pos (by rfl)]
      go_simp
      (go_at_call 30; refine (orElse_s _ _ _).mono ?_; rintro e w' ⟨rfl, rfl⟩)
      all_goals (try go_wp2_with fail)
      refine hK.out _ _ ?_ (fun hHeld => ?_)
      · (refine ⟨HP.out _ ?_, HQ.out _ ?_, HU.out _ ?_, ?_⟩ <;> (repeat (first | exact H3.out | assumption | exact And.right (And.right (And.right (by assumption))) | (refine bel_call ?_ (by assumption)) | (refine bel_alloc ?_ _) | (refine Below.drew ?_) | (refine bel_drewN ?_ _))))
      clear hK K
      (try simp only [Act.put, List.setIfInBounds_toArray, List.set_cons_zero, List.set_cons_succ])
      refine' wpAnyH_take (i := 37) (oi := ?oi38) (v := ?v38) ?hi38 ?hs38 ?hf38 ?hr38 ?hQ38 ?hy38 ?hS38 ?rest38
      case hi38 => (simp only [List.getElem?_toArray, List.getElem?_cons_succ, List.getElem?_cons_zero]; rfl)
      case hs38 => kernel_rfl
      case hf38 => kernel_rfl
      case hr38 => kernel_rfl
      case hQ38 => exact fun _ _ _ h => h
      case hS38 => assumption
      case hy38 => (refine Or.inl ⟨by rfl, ?_⟩; intro w hSw; (try dsimp only at hSw); go_simp; all_goals with_reducible rfl)
      (try simp only [Act.put, List.setIfInBounds_toArray, List.set_cons_zero, List.set_cons_succ])
      refine' wpAnyH_take (i := 38) (oi := ?oi39) (v := ?v39) ?hi39 ?hs39 ?hf39 ?hr39 ?hQ39 ?hy39 ?hS39 ?rest39
      case hi39 => (simp only [List.getElem?_toArray, List.getElem?_cons_succ, List.getElem?_cons_zero]; rfl)
      case hs39 => kernel_rfl
      case hf39 => kernel_rfl
      case hr39 => kernel_rfl
      case hQ39 => exact fun _ _ _ h => h
      case hS39 => assumption
      case hy39 => (refine Or.inl ⟨by rfl, ?_⟩; intro w hSw; (try dsimp only at hSw); go_simp; all_goals with_reducible rfl)
      (try simp only [Act.put, List.setIfInBounds_toArray, List.set_cons_zero, List.set_cons_succ])
      refine' wpAnyH_take (i := 39) (oi := ?oi40) (v := ?v40) ?hi40 ?hs40 ?hf40 ?hr40 ?hQ40 ?hy40 ?hS40 ?rest40
      case hi40 => (simp only [List.getElem?_toArray, List.getElem?_cons_succ, List.getElem?_cons_zero]; rfl)
      case hs40 => kernel_rfl
      case hf40 => kernel_rfl
      case hr40 => kernel_rfl
      case hQ40 => exact fun _ _ _ h => h
      case hS40 => assumption
      case hy40 => (refine Or.inl ⟨by rfl, ?_⟩; intro w hSw; (try dsimp only at hSw); go_simp; all_goals with_reducible rfl)
      (try simp only [Act.put, List.setIfInBounds_toArray, List.set_cons_zero, List.set_cons_succ])
      refine' wpAnyH_take (i := 40) (oi := ?oi41) (v := ?v41) ?hi41 ?hs41 ?hf41 ?hr41 ?hQ41 ?hy41 ?hS41 ?rest41
      case hi41 => (simp only [List.getElem?_toArray, List.getElem?_cons_succ, List.getElem?_cons_zero]; rfl)
      case hs41 => kernel_rfl
      case hf41 => kernel_rfl
      case hr41 => kernel_rfl
      case hQ41 => exact fun _ _ _ h => h
      case hS41 => assumption
      case hy41 => (refine Or.inl ⟨by rfl, ?_⟩; intro w hSw; (try dsimp only at hSw); go_simp; all_goals with_reducible rfl)
      (try simp only [Act.put, List.setIfInBounds_toArray, List.set_cons_zero, List.set_cons_succ])
      refine' wpAnyH_take (i := 42) (oi := ?oi42) (v := ?v42) ?hi42 ?hs42 ?hf42 ?hr42 ?hQ42 ?hy42 ?hS42 ?rest42
      case hi42 => (simp only [List.getElem?_toArray, List.getElem?_cons_succ, List.getElem?_cons_zero]; rfl)
      case hs42 => kernel_rfl
      case hf42 => kernel_rfl
      case hr42 => kernel_rfl
      case hQ42 => exact fun _ _ _ h => h
      case hS42 => assumption
      case hy42 => (refine Or.inl ⟨by rfl, ?_⟩; intro w hSw; (try dsimp only at hSw); go_simp; all_goals with_reducible rfl)
      (try simp only [Act.put, List.setIfInBounds_toArray, List.set_cons_zero, List.set_cons_succ])
      refine wpAnyH_ready (rs := [41]) (by kernel_rfl) (by simp) ?_
      refine' AllReadyH.cons (o := ?oi43) ?hi43 (fun K hK => ?step43) AllReadyH.nil
      case hi43 => (simp only [List.getElem?_toArray, List.getElem?_cons_succ, List.getElem?_cons_zero]; rfl)
      rw [if_pos (by rfl)]
      go_simp
      (go_at_call 14; refine (valueText_i k n HN.out _ (HTB.out _ ?_)).mono ?_; (· (repeat (first | exact H3.out | assumption | exact And.right (And.right (And.right (by assumption))) | (refine bel_call ?_ (by assumption)) | (refine bel_alloc ?_ _) | (refine Below.drew ?_) | (refine bel_drewN ?_ _)))); rintro e w' ⟨rfl, hb⟩)
      all_goals (try go_wp2_with fail)
      refine hK.out _ _ ?_ (fun hHeld => ?_)
      · (refine ⟨HP.out _ ?_, HQ.out _ ?_, HU.out _ ?_, ?_⟩ <;> (repeat (first | exact H3.out | assumption | exact And.right (And.right (And.right (by assumption))) | (refine bel_call ?_ (by assumption)) | (refine bel_alloc ?_ _) | (refine Below.drew ?_) | (refine bel_drewN ?_ _))))
      clear hK K
      (try simp only [Act.put, List.setIfInBounds_toArray, List.set_cons_zero, List.set_cons_succ])
      refine wpAnyH_ready (rs := [43]) (by kernel_rfl) (by simp) ?_
      refine' AllReadyH.cons (o := ?oi44) ?hi44 (fun K hK => ?step44) AllReadyH.nil
      case hi44 => (simp only [List.getElem?_toArray, List.getElem?_cons_succ, List.getElem?_cons_zero]; rfl)
      rw [if_pos (by rfl)]
      go_simp
      (go_at_call 12; refine (valueText_s k n HN.out _).mono ?_; rintro e w' ⟨rfl, hb⟩)
      all_goals (try go_wp2_with fail)
      refine hK.out _ _ ?_ (fun hHeld => ?_)
      · (refine ⟨HP.out _ ?_, HQ.out _ ?_, HU.out _ ?_, ?_⟩ <;> (repeat (first | exact H3.out | assumption | exact And.right (And.right (And.right (by assumption))) | (refine bel_call ?_ (by assumption)) | (refine bel_alloc ?_ _) | (refine Below.drew ?_) | (refine bel_drewN ?_ _))))
      clear hK K
      (try simp only [Act.put, List.setIfInBounds_toArray, List.set_cons_zero, List.set_cons_succ])
      refine' wpAnyH_take (i := 44) (oi := ?oi45) (v := ?v45) ?hi45 ?hs45 ?hf45 ?hr45 ?hQ45 ?hy45 ?hS45 ?rest45
      case hi45 => (simp only [List.getElem?_toArray, List.getElem?_cons_succ, List.getElem?_cons_zero]; rfl)
      case hs45 => kernel_rfl
      case hf45 => kernel_rfl
      case hr45 => kernel_rfl
      case hQ45 => exact fun _ _ _ h => h
      case hS45 => assumption
      case hy45 => (refine Or.inl ⟨by rfl, ?_⟩; intro w hSw; (try dsimp only at hSw); go_simp; all_goals with_reducible rfl)
      (try simp only [Act.put, List.setIfInBounds_toArray, List.set_cons_zero, List.set_cons_succ])
      refine' wpAnyH_take (i := 45) (oi := ?oi46) (v := ?v46) ?hi46 ?hs46 ?hf46 ?hr46 ?hQ46 ?hy46 ?hS46 ?rest46
      case hi46 => (simp only [List.getElem?_toArray, List.getElem?_cons_succ, List.getElem?_cons_zero]; rfl)
      case hs46 => kernel_rfl
      case hf46 => kernel_rfl
      case hr46 => kernel_rfl
      case hQ46 => exact fun _ _ _ h => h
      case hS46 => assumption
      case hy46 => (refine Or.inl ⟨by rfl, ?_⟩; intro w hSw; (try dsimp only at hSw); go_simp; all_goals with_reducible rfl)
      (try simp only [Act.put, List.setIfInBounds_toArray, List.set_cons_zero, List.set_cons_succ])
      refine' wpAnyH_take (i := 46) (oi := ?oi47) (v := ?v47) ?hi47 ?hs47 ?hf47 ?hr47 ?hQ47 ?hy47 ?hS47 ?rest47
      case hi47 => (simp only [List.getElem?_toArray, List.getElem?_cons_succ, List.getElem?_cons_zero]; rfl)
      case hs47 => kernel_rfl
      case hf47 => kernel_rfl
      case hr47 => kernel_rfl
      case hQ47 => exact fun _ _ _ h => h
      case hS47 => assumption
      case hy47 => (refine Or.inl ⟨by rfl, ?_⟩; intro w hSw; (try dsimp only at hSw); go_simp; all_goals with_reducible rfl)
      (try simp only [Act.put, List.setIfInBounds_toArray, List.set_cons_zero, List.set_cons_succ])
      refine' wpAnyH_take (i := 47) (oi := ?oi48) (v := ?v48) ?hi48 ?hs48 ?hf48 ?hr48 ?hQ48 ?hy48 ?hS48 ?rest48
      case hi48 => (simp only [List.getElem?_toArray, List.getElem?_cons_succ, List.getElem?_cons_zero]; rfl)
      case hs48 => kernel_rfl
      case hf48 => kernel_rfl
      case hr48 => kernel_rfl
      case hQ48 => exact fun _ _ _ h => h
      case hS48 => assumption
      case hy48 => (refine Or.inl ⟨by rfl, ?_⟩; intro w hSw; (try dsimp only at hSw); go_simp; all_goals with_reducible rfl)
      (try simp only [Act.put, List.setIfInBounds_toArray, List.set_cons_zero, List.set_cons_succ])
      refine wpAnyH_ready (rs := [48]) (by kernel_rfl) (by simp) ?_
      refine' AllReadyH.cons (o := ?oi49) ?hi49 (fun K hK => ?step49) AllReadyH.nil
      case hi49 => (simp only [List.getElem?_toArray, List.getElem?_cons_succ, List.getElem?_cons_zero]; rfl)
      rw [if_pos (by rfl)]
      go_simp
      (go_at_call 14; refine (valueText_i 3 0 zero_in _ (HTB.out _ ?_)).mono ?_; (· (repeat (first | exact H3.out | assumption | exact And.right (And.right (And.right (by assumption))) | (refine bel_call ?_ (by assumption)) | (refine bel_alloc ?_ _) | (refine Below.drew ?_) | (refine bel_drewN ?_ _)))); rintro e w' ⟨rfl, hb⟩)
      all_goals (try go_wp2_with fail)
      refine hK.out _ _ ?_ (fun hHeld => ?_)
      · (refine ⟨HP.out _ ?_, HQ.out _ ?_, HU.out _ ?_, ?_⟩ <;> (repeat (first | exact H3.out | assumption | exact And.right (And.right (And.right (by assumption))) | (refine bel_call ?_ (by assumption)) | (refine bel_alloc ?_ _) | (refine Below.drew ?_) | (refine bel_drewN ?_ _))))
      clear hK K
      (try simp only [Act.put, List.setIfInBounds_toArray, List.set_cons_zero, List.set_cons_succ])
      refine' wpAnyH_take (i := 49) (oi := ?oi50) (v := ?v50) ?hi50 ?hs50 ?hf50 ?hr50 ?hQ50 ?hy50 ?hS50 ?rest50
      case hi50 => (simp only [List.getElem?_toArray, List.getElem?_cons_succ, List.getElem?_cons_zero]; rfl)
      case hs50 => kernel_rfl
      case hf50 => kernel_rfl
      case hr50 => kernel_rfl
      case hQ50 => exact fun _ _ _ h => h
      case hS50 => assumption
      case hy50 => (refine Or.inl ⟨by rfl, ?_⟩; intro w hSw; (try dsimp only at hSw); go_simp; all_goals with_reducible rfl)
      (try simp only [Act.put, List.setIfInBounds_toArray, List.set_cons_zero, List.set_cons_succ])
      refine' wpAnyH_take (i := 50) (oi := ?oi51) (v := ?v51) ?hi51 ?hs51 ?hf51 ?hr51 ?hQ51 ?hy51 ?hS51 ?rest51
      case hi51 => (simp only [List.getElem?_toArray, List.getElem?_cons_succ, List.getElem?_cons_zero]; rfl)
      case hs51 => kernel_rfl
      case hf51 => kernel_rfl
      case hr51 => kernel_rfl
      case hQ51 => exact fun _ _ _ h => h
      case hS51 => assumption
      case hy51 => (refine Or.inl ⟨by rfl, ?_⟩; intro w hSw; (try dsimp only at hSw); go_simp; all_goals with_reducible rfl)
      (try simp only [Act.put, List.setIfInBounds_toArray, List.set_cons_zero, List.set_cons_succ])
      refine' wpAnyH_take (i := 51) (oi := ?oi52) (v := ?v52) ?hi52 ?hs52 ?hf52 ?hr52 ?hQ52 ?hy52 ?hS52 ?rest52
      case hi52 => (simp only [List.getElem?_toArray, List.getElem?_cons_succ, List.getElem?_cons_zero]; rfl)
      case hs52 => kernel_rfl
      case hf52 => kernel_rfl
      case hr52 => kernel_rfl
      case hQ52 => exact fun _ _ _ h => h
      case hS52 => assumption
      case hy52 => (refine Or.inl ⟨by rfl, ?_⟩; intro w hSw; (try dsimp only at hSw); go_simp; all_goals with_reducible rfl)
      (try simp only [Act.put, List.setIfInBounds_toArray, List.set_cons_zero, List.set_cons_succ])
      refine wpAnyH_done (by kernel_rfl) ?_ _
      go_wp2
      go_ret
      exact ⟨rfl, bel_call HB.out hHeld.2.2.2⟩
    · rw [f1, f2, f3]
      clear f1 f2 f3
      refine wp_region_held_drew (S := (fun w' => w'.cell? ⟨gp, 0, none⟩ = some (.int .i64 (p 0)) ∧ w'.cell? ⟨b, 0, none⟩ = some (.int .i64 k) ∧ w'.cell? ⟨b, 1, none⟩ = some (.int .i64 n) ∧ Below B.heap.size B w')) (by kernel_rfl) ?_ (fun hHeld => ?_)
      · (refine ⟨HP.out _ ?_, HQ.out _ ?_, HU.out _ ?_, ?_⟩ <;> (repeat (first | exact H3.out | assumption | exact And.right (And.right (And.right (by assumption))) | (refine bel_call ?_ (by assumption)) | (refine bel_alloc ?_ _) | (refine Below.drew ?_) | (refine bel_drewN ?_ _))))
      refine' wpAnyH_take (i := 0) (oi := ?oi53) (v := ?v53) ?hi53 ?hs53 ?hf53 ?hr53 ?hQ53 ?hy53 ?hS53 ?rest53
      case hi53 => (simp only [List.getElem?_toArray, List.getElem?_cons_zero]; rfl)
      case hs53 => kernel_rfl
      case hf53 => kernel_rfl
      case hr53 => kernel_rfl
      case hQ53 => exact fun _ _ _ h => h
      case hS53 => assumption
      case hy53 => (refine Or.inl ⟨by rfl, ?_⟩; intro w hSw; (try dsimp only at hSw); go_simp; all_goals with_reducible rfl)
      (try simp only [Act.put, List.setIfInBounds_toArray, List.set_cons_zero, List.set_cons_succ])
      refine' wpAnyH_take (i := 1) (oi := ?oi54) (v := ?v54) ?hi54 ?hs54 ?hf54 ?hr54 ?hQ54 ?hy54 ?hS54 ?rest54
      case hi54 => (simp only [List.getElem?_toArray, List.getElem?_cons_succ, List.getElem?_cons_zero]; rfl)
      case hs54 => kernel_rfl
      case hf54 => kernel_rfl
      case hr54 => kernel_rfl
      case hQ54 => exact fun _ _ _ h => h
      case hS54 => assumption
      case hy54 => (refine Or.inl ⟨by rfl, ?_⟩; intro w hSw; (try dsimp only at hSw); go_simp; all_goals with_reducible rfl)
      (try simp only [Act.put, List.setIfInBounds_toArray, List.set_cons_zero, List.set_cons_succ])
      refine' wpAnyH_take (i := 2) (oi := ?oi55) (v := ?v55) ?hi55 ?hs55 ?hf55 ?hr55 ?hQ55 ?hy55 ?hS55 ?rest55
      case hi55 => (simp only [List.getElem?_toArray, List.getElem?_cons_succ, List.getElem?_cons_zero]; rfl)
      case hs55 => kernel_rfl
      case hf55 => kernel_rfl
      case hr55 => kernel_rfl
      case hQ55 => exact fun _ _ _ h => h
      case hS55 => assumption
      case hy55 => (refine Or.inl ⟨by rfl, ?_⟩; intro w hSw; (try dsimp only at hSw); go_simp; all_goals with_reducible rfl)
      (try simp only [Act.put, List.setIfInBounds_toArray, List.set_cons_zero, List.set_cons_succ])
      refine' wpAnyH_take (i := 3) (oi := ?oi56) (v := ?v56) ?hi56 ?hs56 ?hf56 ?hr56 ?hQ56 ?hy56 ?hS56 ?rest56
      case hi56 => (simp only [List.getElem?_toArray, List.getElem?_cons_succ, List.getElem?_cons_zero]; rfl)
      case hs56 => kernel_rfl
      case hf56 => kernel_rfl
      case hr56 => kernel_rfl
      case hQ56 => exact fun _ _ _ h => h
      case hS56 => assumption
      case hy56 => (refine Or.inl ⟨by rfl, ?_⟩; intro w hSw; (try dsimp only at hSw); go_simp; all_goals with_reducible rfl)
      (try simp only [Act.put, List.setIfInBounds_toArray, List.set_cons_zero, List.set_cons_succ])
      refine' wpAnyH_take (i := 4) (oi := ?oi57) (v := ?v57) ?hi57 ?hs57 ?hf57 ?hr57 ?hQ57 ?hy57 ?hS57 ?rest57
      case hi57 => (simp only [List.getElem?_toArray, List.getElem?_cons_succ, List.getElem?_cons_zero]; rfl)
      case hs57 => kernel_rfl
      case hf57 => kernel_rfl
      case hr57 => kernel_rfl
      case hQ57 => exact fun _ _ _ h => h
      case hS57 => assumption
      case hy57 => (refine Or.inl ⟨by rfl, ?_⟩; intro w hSw; (try dsimp only at hSw); go_simp; all_goals with_reducible rfl)
      (try simp only [Act.put, List.setIfInBounds_toArray, List.set_cons_zero, List.set_cons_succ])
      refine' wpAnyH_take (i := 5) (oi := ?oi58) (v := ?v58) ?hi58 ?hs58 ?hf58 ?hr58 ?hQ58 ?hy58 ?hS58 ?rest58
      case hi58 => (simp only [List.getElem?_toArray, List.getElem?_cons_succ, List.getElem?_cons_zero]; rfl)
      case hs58 => kernel_rfl
      case hf58 => kernel_rfl
      case hr58 => kernel_rfl
      case hQ58 => exact fun _ _ _ h => h
      case hS58 => assumption
      case hy58 => (refine Or.inl ⟨by rfl, ?_⟩; intro w hSw; (try dsimp only at hSw); go_simp; all_goals with_reducible rfl)
      (try simp only [Act.put, List.setIfInBounds_toArray, List.set_cons_zero, List.set_cons_succ])
      refine' wpAnyH_take (i := 6) (oi := ?oi59) (v := ?v59) ?hi59 ?hs59 ?hf59 ?hr59 ?hQ59 ?hy59 ?hS59 ?rest59
      case hi59 => (simp only [List.getElem?_toArray, List.getElem?_cons_succ, List.getElem?_cons_zero]; rfl)
      case hs59 => kernel_rfl
      case hf59 => kernel_rfl
      case hr59 => kernel_rfl
      case hQ59 => exact fun _ _ _ h => h
      case hS59 => assumption
      case hy59 => (refine Or.inl ⟨by rfl, ?_⟩; intro w hSw; (try dsimp only at hSw); go_simp; all_goals with_reducible rfl)
      (try simp only [Act.put, List.setIfInBounds_toArray, List.set_cons_zero, List.set_cons_succ])
      refine' wpAnyH_take (i := 7) (oi := ?oi60) (v := ?v60) ?hi60 ?hs60 ?hf60 ?hr60 ?hQ60 ?hy60 ?hS60 ?rest60
      case hi60 => (simp only [List.getElem?_toArray, List.getElem?_cons_succ, List.getElem?_cons_zero]; rfl)
      case hs60 => kernel_rfl
      case hf60 => kernel_rfl
      case hr60 => kernel_rfl
      case hQ60 => exact fun _ _ _ h => h
      case hS60 => assumption
      case hy60 => (refine Or.inl ⟨by rfl, ?_⟩; intro w hSw; (try dsimp only at hSw); go_simp; all_goals with_reducible rfl)
      (try simp only [Act.put, List.setIfInBounds_toArray, List.set_cons_zero, List.set_cons_succ])
      refine' wpAnyH_take (i := 8) (oi := ?oi61) (v := ?v61) ?hi61 ?hs61 ?hf61 ?hr61 ?hQ61 ?hy61 ?hS61 ?rest61
      case hi61 => (simp only [List.getElem?_toArray, List.getElem?_cons_succ, List.getElem?_cons_zero]; rfl)
      case hs61 => kernel_rfl
      case hf61 => kernel_rfl
      case hr61 => kernel_rfl
      case hQ61 => exact fun _ _ _ h => h
      case hS61 => assumption
      case hy61 => (refine Or.inl ⟨by rfl, ?_⟩; intro w hSw; (try dsimp only at hSw); go_simp; all_goals with_reducible rfl)
      (try simp only [Act.put, List.setIfInBounds_toArray, List.set_cons_zero, List.set_cons_succ])
      refine' wpAnyH_take (i := 9) (oi := ?oi62) (v := ?v62) ?hi62 ?hs62 ?hf62 ?hr62 ?hQ62 ?hy62 ?hS62 ?rest62
      case hi62 => (simp only [List.getElem?_toArray, List.getElem?_cons_succ, List.getElem?_cons_zero]; rfl)
      case hs62 => kernel_rfl
      case hf62 => kernel_rfl
      case hr62 => kernel_rfl
      case hQ62 => exact fun _ _ _ h => h
      case hS62 => assumption
      case hy62 => (refine Or.inl ⟨by rfl, ?_⟩; intro w hSw; (try dsimp only at hSw); go_simp; all_goals with_reducible rfl)
      (try simp only [Act.put, List.setIfInBounds_toArray, List.set_cons_zero, List.set_cons_succ])
      refine' wpAnyH_take (i := 10) (oi := ?oi63) (v := ?v63) ?hi63 ?hs63 ?hf63 ?hr63 ?hQ63 ?hy63 ?hS63 ?rest63
      case hi63 => (simp only [List.getElem?_toArray, List.getElem?_cons_succ, List.getElem?_cons_zero]; rfl)
      case hs63 => kernel_rfl
      case hf63 => kernel_rfl
      case hr63 => kernel_rfl
      case hQ63 => exact fun _ _ _ h => h
      case hS63 => assumption
      case hy63 => (refine Or.inl ⟨by rfl, ?_⟩; intro w hSw; (try dsimp only at hSw); go_simp; all_goals with_reducible rfl)
      (try simp only [Act.put, List.setIfInBounds_toArray, List.set_cons_zero, List.set_cons_succ])
      refine' wpAnyH_take (i := 11) (oi := ?oi64) (v := ?v64) ?hi64 ?hs64 ?hf64 ?hr64 ?hQ64 ?hy64 ?hS64 ?rest64
      case hi64 => (simp only [List.getElem?_toArray, List.getElem?_cons_succ, List.getElem?_cons_zero]; rfl)
      case hs64 => kernel_rfl
      case hf64 => kernel_rfl
      case hr64 => kernel_rfl
      case hQ64 => exact fun _ _ _ h => h
      case hS64 => assumption
      case hy64 => (refine Or.inl ⟨by rfl, ?_⟩; intro w hSw; (try dsimp only at hSw); go_simp; all_goals with_reducible rfl)
      (try simp only [Act.put, List.setIfInBounds_toArray, List.set_cons_zero, List.set_cons_succ])
      refine' wpAnyH_take (i := 12) (oi := ?oi65) (v := ?v65) ?hi65 ?hs65 ?hf65 ?hr65 ?hQ65 ?hy65 ?hS65 ?rest65
      case hi65 => (simp only [List.getElem?_toArray, List.getElem?_cons_succ, List.getElem?_cons_zero]; rfl)
      case hs65 => kernel_rfl
      case hf65 => kernel_rfl
      case hr65 => kernel_rfl
      case hQ65 => exact fun _ _ _ h => h
      case hS65 => assumption
      case hy65 => (refine Or.inl ⟨by rfl, ?_⟩; intro w hSw; (try dsimp only at hSw); go_simp; all_goals with_reducible rfl)
      (try simp only [Act.put, List.setIfInBounds_toArray, List.set_cons_zero, List.set_cons_succ])
      refine' wpAnyH_take (i := 13) (oi := ?oi66) (v := undef) ?hi66 ?hs66 ?hf66 ?hr66 ?hQ66 ?hy66 ?hS66 ?rest66
      case hi66 => (simp only [List.getElem?_toArray, List.getElem?_cons_succ, List.getElem?_cons_zero]; rfl)
      case hs66 => kernel_rfl
      case hf66 => kernel_rfl
      case hr66 => kernel_rfl
      case hQ66 => exact fun _ _ _ h => h
      case hS66 => assumption
      case hy66 => exact Or.inr ⟨by rfl, rfl⟩
      (try simp only [Act.put, List.setIfInBounds_toArray, List.set_cons_zero, List.set_cons_succ])
      refine' wpAnyH_take (i := 14) (oi := ?oi67) (v := undef) ?hi67 ?hs67 ?hf67 ?hr67 ?hQ67 ?hy67 ?hS67 ?rest67
      case hi67 => (simp only [List.getElem?_toArray, List.getElem?_cons_succ, List.getElem?_cons_zero]; rfl)
      case hs67 => kernel_rfl
      case hf67 => kernel_rfl
      case hr67 => kernel_rfl
      case hQ67 => exact fun _ _ _ h => h
      case hS67 => assumption
      case hy67 => exact Or.inr ⟨by rfl, rfl⟩
      (try simp only [Act.put, List.setIfInBounds_toArray, List.set_cons_zero, List.set_cons_succ])
      refine' wpAnyH_take (i := 15) (oi := ?oi68) (v := ?v68) ?hi68 ?hs68 ?hf68 ?hr68 ?hQ68 ?hy68 ?hS68 ?rest68
      case hi68 => (simp only [List.getElem?_toArray, List.getElem?_cons_succ, List.getElem?_cons_zero]; rfl)
      case hs68 => kernel_rfl
      case hf68 => kernel_rfl
      case hr68 => kernel_rfl
      case hQ68 => exact fun _ _ _ h => h
      case hS68 => assumption
      case hy68 => (refine Or.inl ⟨by rfl, ?_⟩; intro w hSw; (try dsimp only at hSw); go_simp; all_goals with_reducible rfl)
      (try simp only [Act.put, List.setIfInBounds_toArray, List.set_cons_zero, List.set_cons_succ])
      refine' wpAnyH_take (i := 16) (oi := ?oi69) (v := ?v69) ?hi69 ?hs69 ?hf69 ?hr69 ?hQ69 ?hy69 ?hS69 ?rest69
      case hi69 => (simp only [List.getElem?_toArray, List.getElem?_cons_succ, List.getElem?_cons_zero]; rfl)
      case hs69 => kernel_rfl
      case hf69 => kernel_rfl
      case hr69 => kernel_rfl
      case hQ69 => exact fun _ _ _ h => h
      case hS69 => assumption
      case hy69 => (refine Or.inl ⟨by rfl, ?_⟩; intro w hSw; (try dsimp only at hSw); go_simp; all_goals with_reducible rfl)
      (try simp only [Act.put, List.setIfInBounds_toArray, List.set_cons_zero, List.set_cons_succ])
      refine' wpAnyH_take (i := 17) (oi := ?oi70) (v := ?v70) ?hi70 ?hs70 ?hf70 ?hr70 ?hQ70 ?hy70 ?hS70 ?rest70
      case hi70 => (simp only [List.getElem?_toArray, List.getElem?_cons_succ, List.getElem?_cons_zero]; rfl)
      case hs70 => kernel_rfl
      case hf70 => kernel_rfl
      case hr70 => kernel_rfl
      case hQ70 => exact fun _ _ _ h => h
      case hS70 => assumption
      case hy70 => (refine Or.inl ⟨by rfl, ?_⟩; intro w hSw; (try dsimp only at hSw); go_simp; all_goals with_reducible rfl)
      (try simp only [Act.put, List.setIfInBounds_toArray, List.set_cons_zero, List.set_cons_succ])
      refine' wpAnyH_take (i := 18) (oi := ?oi71) (v := ?v71) ?hi71 ?hs71 ?hf71 ?hr71 ?hQ71 ?hy71 ?hS71 ?rest71
      case hi71 => (simp only [List.getElem?_toArray, List.getElem?_cons_succ, List.getElem?_cons_zero]; rfl)
      case hs71 => kernel_rfl
      case hf71 => kernel_rfl
      case hr71 => kernel_rfl
      case hQ71 => exact fun _ _ _ h => h
      case hS71 => assumption
      case hy71 => (refine Or.inl ⟨by rfl, ?_⟩; intro w hSw; (try dsimp only at hSw); go_simp; all_goals with_reducible rfl)
      (try simp only [Act.put, List.setIfInBounds_toArray, List.set_cons_zero, List.set_cons_succ])
      refine' wpAnyH_take (i := 19) (oi := ?oi72) (v := ?v72) ?hi72 ?hs72 ?hf72 ?hr72 ?hQ72 ?hy72 ?hS72 ?rest72
      case hi72 => (simp only [List.getElem?_toArray, List.getElem?_cons_succ, List.getElem?_cons_zero]; rfl)
      case hs72 => kernel_rfl
      case hf72 => kernel_rfl
      case hr72 => kernel_rfl
      case hQ72 => exact fun _ _ _ h => h
      case hS72 => assumption
      case hy72 => (refine Or.inl ⟨by rfl, ?_⟩; intro w hSw; (try dsimp only at hSw); go_simp; all_goals with_reducible rfl)
      (try simp only [Act.put, List.setIfInBounds_toArray, List.set_cons_zero, List.set_cons_succ])
      refine' wpAnyH_take (i := 20) (oi := ?oi73) (v := ?v73) ?hi73 ?hs73 ?hf73 ?hr73 ?hQ73 ?hy73 ?hS73 ?rest73
      case hi73 => (simp only [List.getElem?_toArray, List.getElem?_cons_succ, List.getElem?_cons_zero]; rfl)
      case hs73 => kernel_rfl
      case hf73 => kernel_rfl
      case hr73 => kernel_rfl
      case hQ73 => exact fun _ _ _ h => h
      case hS73 => assumption
      case hy73 => (refine Or.inl ⟨by rfl, ?_⟩; intro w hSw; (try dsimp only at hSw); go_simp; all_goals with_reducible rfl)
      (try simp only [Act.put, List.setIfInBounds_toArray, List.set_cons_zero, List.set_cons_succ])
      refine' wpAnyH_take (i := 21) (oi := ?oi74) (v := ?v74) ?hi74 ?hs74 ?hf74 ?hr74 ?hQ74 ?hy74 ?hS74 ?rest74
      case hi74 => (simp only [List.getElem?_toArray, List.getElem?_cons_succ, List.getElem?_cons_zero]; rfl)
      case hs74 => kernel_rfl
      case hf74 => kernel_rfl
      case hr74 => kernel_rfl
      case hQ74 => exact fun _ _ _ h => h
      case hS74 => assumption
      case hy74 => (refine Or.inl ⟨by rfl, ?_⟩; intro w hSw; (try dsimp only at hSw); go_simp; all_goals with_reducible rfl)
      (try simp only [Act.put, List.setIfInBounds_toArray, List.set_cons_zero, List.set_cons_succ])
      refine' wpAnyH_take (i := 22) (oi := ?oi75) (v := ?v75) ?hi75 ?hs75 ?hf75 ?hr75 ?hQ75 ?hy75 ?hS75 ?rest75
      case hi75 => (simp only [List.getElem?_toArray, List.getElem?_cons_succ, List.getElem?_cons_zero]; rfl)
      case hs75 => kernel_rfl
      case hf75 => kernel_rfl
      case hr75 => kernel_rfl
      case hQ75 => exact fun _ _ _ h => h
      case hS75 => assumption
      case hy75 => (refine Or.inl ⟨by rfl, ?_⟩; intro w hSw; (try dsimp only at hSw); go_simp; all_goals with_reducible rfl)
      (try simp only [Act.put, List.setIfInBounds_toArray, List.set_cons_zero, List.set_cons_succ])
      refine' wpAnyH_take (i := 23) (oi := ?oi76) (v := ?v76) ?hi76 ?hs76 ?hf76 ?hr76 ?hQ76 ?hy76 ?hS76 ?rest76
      case hi76 => (simp only [List.getElem?_toArray, List.getElem?_cons_succ, List.getElem?_cons_zero]; rfl)
      case hs76 => kernel_rfl
      case hf76 => kernel_rfl
      case hr76 => kernel_rfl
      case hQ76 => exact fun _ _ _ h => h
      case hS76 => assumption
      case hy76 => (refine Or.inl ⟨by rfl, ?_⟩; intro w hSw; (try dsimp only at hSw); go_simp; all_goals with_reducible rfl)
      (try simp only [Act.put, List.setIfInBounds_toArray, List.set_cons_zero, List.set_cons_succ])
      refine' wpAnyH_take (i := 24) (oi := ?oi77) (v := ?v77) ?hi77 ?hs77 ?hf77 ?hr77 ?hQ77 ?hy77 ?hS77 ?rest77
      case hi77 => (simp only [List.getElem?_toArray, List.getElem?_cons_succ, List.getElem?_cons_zero]; rfl)
      case hs77 => kernel_rfl
      case hf77 => kernel_rfl
      case hr77 => kernel_rfl
      case hQ77 => exact fun _ _ _ h => h
      case hS77 => assumption
      case hy77 => (refine Or.inl ⟨by rfl, ?_⟩; intro w hSw; (try dsimp only at hSw); go_simp; all_goals with_reducible rfl)
      (try simp only [Act.put, List.setIfInBounds_toArray, List.set_cons_zero, List.set_cons_succ])
      refine' wpAnyH_take (i := 25) (oi := ?oi78) (v := ?v78) ?hi78 ?hs78 ?hf78 ?hr78 ?hQ78 ?hy78 ?hS78 ?rest78
      case hi78 => (simp only [List.getElem?_toArray, List.getElem?_cons_succ, List.getElem?_cons_zero]; rfl)
      case hs78 => kernel_rfl
      case hf78 => kernel_rfl
      case hr78 => kernel_rfl
      case hQ78 => exact fun _ _ _ h => h
      case hS78 => assumption
      case hy78 => (refine Or.inl ⟨by rfl, ?_⟩; intro w hSw; (try dsimp only at hSw); go_simp; all_goals with_reducible rfl)
      (try simp only [Act.put, List.setIfInBounds_toArray, List.set_cons_zero, List.set_cons_succ])
      refine' wpAnyH_take (i := 26) (oi := ?oi79) (v := ?v79) ?hi79 ?hs79 ?hf79 ?hr79 ?hQ79 ?hy79 ?hS79 ?rest79
      case hi79 => (simp only [List.getElem?_toArray, List.getElem?_cons_succ, List.getElem?_cons_zero]; rfl)
      case hs79 => kernel_rfl
      case hf79 => kernel_rfl
      case hr79 => kernel_rfl
      case hQ79 => exact fun _ _ _ h => h
      case hS79 => assumption
      case hy79 => (refine Or.inl ⟨by rfl, ?_⟩; intro w hSw; (try dsimp only at hSw); go_simp; all_goals with_reducible rfl)
      (try simp only [Act.put, List.setIfInBounds_toArray, List.set_cons_zero, List.set_cons_succ])
      refine' wpAnyH_take (i := 27) (oi := ?oi80) (v := ?v80) ?hi80 ?hs80 ?hf80 ?hr80 ?hQ80 ?hy80 ?hS80 ?rest80
      case hi80 => (simp only [List.getElem?_toArray, List.getElem?_cons_succ, List.getElem?_cons_zero]; rfl)
      case hs80 => kernel_rfl
      case hf80 => kernel_rfl
      case hr80 => kernel_rfl
      case hQ80 => exact fun _ _ _ h => h
      case hS80 => assumption
      case hy80 => (refine Or.inl ⟨by rfl, ?_⟩; intro w hSw; (try dsimp only at hSw); go_simp; all_goals with_reducible rfl)
      (try simp only [Act.put, List.setIfInBounds_toArray, List.set_cons_zero, List.set_cons_succ])
      refine' wpAnyH_take (i := 28) (oi := ?oi81) (v := ?v81) ?hi81 ?hs81 ?hf81 ?hr81 ?hQ81 ?hy81 ?hS81 ?rest81
      case hi81 => (simp only [List.getElem?_toArray, List.getElem?_cons_succ, List.getElem?_cons_zero]; rfl)
      case hs81 => kernel_rfl
      case hf81 => kernel_rfl
      case hr81 => kernel_rfl
      case hQ81 => exact fun _ _ _ h => h
      case hS81 => assumption
      case hy81 => (refine Or.inl ⟨by rfl, ?_⟩; intro w hSw; (try dsimp only at hSw); go_simp; all_goals with_reducible rfl)
      (try simp only [Act.put, List.setIfInBounds_toArray, List.set_cons_zero, List.set_cons_succ])
      refine' wpAnyH_take (i := 29) (oi := ?oi82) (v := ?v82) ?hi82 ?hs82 ?hf82 ?hr82 ?hQ82 ?hy82 ?hS82 ?rest82
      case hi82 => (simp only [List.getElem?_toArray, List.getElem?_cons_succ, List.getElem?_cons_zero]; rfl)
      case hs82 => kernel_rfl
      case hf82 => kernel_rfl
      case hr82 => kernel_rfl
      case hQ82 => exact fun _ _ _ h => h
      case hS82 => assumption
      case hy82 => (refine Or.inl ⟨by rfl, ?_⟩; intro w hSw; (try dsimp only at hSw); go_simp; all_goals with_reducible rfl)
      (try simp only [Act.put, List.setIfInBounds_toArray, List.set_cons_zero, List.set_cons_succ])
      refine' wpAnyH_take (i := 30) (oi := ?oi83) (v := ?v83) ?hi83 ?hs83 ?hf83 ?hr83 ?hQ83 ?hy83 ?hS83 ?rest83
      case hi83 => (simp only [List.getElem?_toArray, List.getElem?_cons_succ, List.getElem?_cons_zero]; rfl)
      case hs83 => kernel_rfl
      case hf83 => kernel_rfl
      case hr83 => kernel_rfl
      case hQ83 => exact fun _ _ _ h => h
      case hS83 => assumption
      case hy83 => (refine Or.inl ⟨by rfl, ?_⟩; intro w hSw; (try dsimp only at hSw); go_simp; all_goals with_reducible rfl)
      (try simp only [Act.put, List.setIfInBounds_toArray, List.set_cons_zero, List.set_cons_succ])
      refine' wpAnyH_take (i := 31) (oi := ?oi84) (v := ?v84) ?hi84 ?hs84 ?hf84 ?hr84 ?hQ84 ?hy84 ?hS84 ?rest84
      case hi84 => (simp only [List.getElem?_toArray, List.getElem?_cons_succ, List.getElem?_cons_zero]; rfl)
      case hs84 => kernel_rfl
      case hf84 => kernel_rfl
      case hr84 => kernel_rfl
      case hQ84 => exact fun _ _ _ h => h
      case hS84 => assumption
      case hy84 => (refine Or.inl ⟨by rfl, ?_⟩; intro w hSw; (try dsimp only at hSw); go_simp; all_goals with_reducible rfl)
      (try simp only [Act.put, List.setIfInBounds_toArray, List.set_cons_zero, List.set_cons_succ])
      refine' wpAnyH_take (i := 32) (oi := ?oi85) (v := ?v85) ?hi85 ?hs85 ?hf85 ?hr85 ?hQ85 ?hy85 ?hS85 ?rest85
      case hi85 => (simp only [List.getElem?_toArray, List.getElem?_cons_succ, List.getElem?_cons_zero]; rfl)
      case hs85 => kernel_rfl
      case hf85 => kernel_rfl
      case hr85 => kernel_rfl
      case hQ85 => exact fun _ _ _ h => h
      case hS85 => assumption
      case hy85 => (refine Or.inl ⟨by rfl, ?_⟩; intro w hSw; (try dsimp only at hSw); go_simp; all_goals with_reducible rfl)
      (try simp only [Act.put, List.setIfInBounds_toArray, List.set_cons_zero, List.set_cons_succ])
      refine' wpAnyH_take (i := 33) (oi := ?oi86) (v := ?v86) ?hi86 ?hs86 ?hf86 ?hr86 ?hQ86 ?hy86 ?hS86 ?rest86
      case hi86 => (simp only [List.getElem?_toArray, List.getElem?_cons_succ, List.getElem?_cons_zero]; rfl)
      case hs86 => kernel_rfl
      case hf86 => kernel_rfl
      case hr86 => kernel_rfl
      case hQ86 => exact fun _ _ _ h => h
      case hS86 => assumption
      case hy86 => (refine Or.inl ⟨by rfl, ?_⟩; intro w hSw; (try dsimp only at hSw); go_simp; all_goals with_reducible rfl)
      (try simp only [Act.put, List.setIfInBounds_toArray, List.set_cons_zero, List.set_cons_succ])
      refine' wpAnyH_take (i := 35) (oi := ?oi87) (v := ?v87) ?hi87 ?hs87 ?hf87 ?hr87 ?hQ87 ?hy87 ?hS87 ?rest87
      case hi87 => (simp only [List.getElem?_toArray, List.getElem?_cons_succ, List.getElem?_cons_zero]; rfl)
      case hs87 => kernel_rfl
      case hf87 => kernel_rfl
      case hr87 => kernel_rfl
      case hQ87 => exact fun _ _ _ h => h
      case hS87 => assumption
      case hy87 => (refine Or.inl ⟨by rfl, ?_⟩; intro w hSw; (try dsimp only at hSw); go_simp; all_goals with_reducible rfl)
      (try simp only [Act.put, List.setIfInBounds_toArray, List.set_cons_zero, List.set_cons_succ])
      refine wpAnyH_ready (rs := [34]) (by kernel_rfl) (by simp) ?_
      refine' AllReadyH.cons (o := ?oi88) ?hi88 (fun K hK => ?step88) AllReadyH.nil
      case hi88 => (simp only [List.getElem?_toArray, List.getElem?_cons_succ, List.getElem?_cons_zero]; rfl)
      rw [if_pos (by rfl)]
      go_simp
      (go_at_call 29; refine (orElse_i _ _ _).mono ?_; rintro e w' ⟨rfl, rfl⟩)
      all_goals (try go_wp2_with fail)
      refine hK.out _ _ ?_ (fun hHeld => ?_)
      · (refine ⟨HP.out _ ?_, HQ.out _ ?_, HU.out _ ?_, ?_⟩ <;> (repeat (first | exact H3.out | assumption | exact And.right (And.right (And.right (by assumption))) | (refine bel_call ?_ (by assumption)) | (refine bel_alloc ?_ _) | (refine Below.drew ?_) | (refine bel_drewN ?_ _))))
      clear hK K
      (try simp only [Act.put, List.setIfInBounds_toArray, List.set_cons_zero, List.set_cons_succ])
      refine wpAnyH_ready (rs := [36]) (by kernel_rfl) (by simp) ?_
      refine' AllReadyH.cons (o := ?oi89) ?hi89 (fun K hK => ?step89) AllReadyH.nil
      case hi89 => (simp only [List.getElem?_toArray, List.getElem?_cons_succ, List.getElem?_cons_zero]; rfl)
      rw [if_pos (by rfl)]
      go_simp
      (go_at_call 30; refine (orElse_s _ _ _).mono ?_; rintro e w' ⟨rfl, rfl⟩)
      all_goals (try go_wp2_with fail)
      refine hK.out _ _ ?_ (fun hHeld => ?_)
      · (refine ⟨HP.out _ ?_, HQ.out _ ?_, HU.out _ ?_, ?_⟩ <;> (repeat (first | exact H3.out | assumption | exact And.right (And.right (And.right (by assumption))) | (refine bel_call ?_ (by assumption)) | (refine bel_alloc ?_ _) | (refine Below.drew ?_) | (refine bel_drewN ?_ _))))
      clear hK K
      (try simp only [Act.put, List.setIfInBounds_toArray, List.set_cons_zero, List.set_cons_succ])
      refine' wpAnyH_take (i := 37) (oi := ?oi90) (v := ?v90) ?hi90 ?hs90 ?hf90 ?hr90 ?hQ90 ?hy90 ?hS90 ?rest90
      case hi90 => (simp only [List.getElem?_toArray, List.getElem?_cons_succ, List.getElem?_cons_zero]; rfl)
      case hs90 => kernel_rfl
      case hf90 => kernel_rfl
      case hr90 => kernel_rfl
      case hQ90 => exact fun _ _ _ h => h
      case hS90 => assumption
      case hy90 => (refine Or.inl ⟨by rfl, ?_⟩; intro w hSw; (try dsimp only at hSw); go_simp; all_goals with_reducible rfl)
      (try simp only [Act.put, List.setIfInBounds_toArray, List.set_cons_zero, List.set_cons_succ])
      refine' wpAnyH_take (i := 38) (oi := ?oi91) (v := ?v91) ?hi91 ?hs91 ?hf91 ?hr91 ?hQ91 ?hy91 ?hS91 ?rest91
      case hi91 => (simp only [List.getElem?_toArray, List.getElem?_cons_succ, List.getElem?_cons_zero]; rfl)
      case hs91 => kernel_rfl
      case hf91 => kernel_rfl
      case hr91 => kernel_rfl
      case hQ91 => exact fun _ _ _ h => h
      case hS91 => assumption
      case hy91 => (refine Or.inl ⟨by rfl, ?_⟩; intro w hSw; (try dsimp only at hSw); go_simp; all_goals with_reducible rfl)
      (try simp only [Act.put, List.setIfInBounds_toArray, List.set_cons_zero, List.set_cons_succ])
      refine' wpAnyH_take (i := 39) (oi := ?oi92) (v := ?v92) ?hi92 ?hs92 ?hf92 ?hr92 ?hQ92 ?hy92 ?hS92 ?rest92
      case hi92 => (simp only [List.getElem?_toArray, List.getElem?_cons_succ, List.getElem?_cons_zero]; rfl)
      case hs92 => kernel_rfl
      case hf92 => kernel_rfl
      case hr92 => kernel_rfl
      case hQ92 => exact fun _ _ _ h => h
      case hS92 => assumption
      case hy92 => (refine Or.inl ⟨by rfl, ?_⟩; intro w hSw; (try dsimp only at hSw); go_simp; all_goals with_reducible rfl)
      (try simp only [Act.put, List.setIfInBounds_toArray, List.set_cons_zero, List.set_cons_succ])
      refine' wpAnyH_take (i := 40) (oi := ?oi93) (v := ?v93) ?hi93 ?hs93 ?hf93 ?hr93 ?hQ93 ?hy93 ?hS93 ?rest93
      case hi93 => (simp only [List.getElem?_toArray, List.getElem?_cons_succ, List.getElem?_cons_zero]; rfl)
      case hs93 => kernel_rfl
      case hf93 => kernel_rfl
      case hr93 => kernel_rfl
      case hQ93 => exact fun _ _ _ h => h
      case hS93 => assumption
      case hy93 => (refine Or.inl ⟨by rfl, ?_⟩; intro w hSw; (try dsimp only at hSw); go_simp; all_goals with_reducible rfl)
      (try simp only [Act.put, List.setIfInBounds_toArray, List.set_cons_zero, List.set_cons_succ])
      refine' wpAnyH_take (i := 42) (oi := ?oi94) (v := ?v94) ?hi94 ?hs94 ?hf94 ?hr94 ?hQ94 ?hy94 ?hS94 ?rest94
      case hi94 => (simp only [List.getElem?_toArray, List.getElem?_cons_succ, List.getElem?_cons_zero]; rfl)
      case hs94 => kernel_rfl
      case hf94 => kernel_rfl
      case hr94 => kernel_rfl
      case hQ94 => exact fun _ _ _ h => h
      case hS94 => assumption
      case hy94 => (refine Or.inl ⟨by rfl, ?_⟩; intro w hSw; (try dsimp only at hSw); go_simp; all_goals with_reducible rfl)
      (try simp only [Act.put, List.setIfInBounds_toArray, List.set_cons_zero, List.set_cons_succ])
      refine wpAnyH_ready (rs := [41]) (by kernel_rfl) (by simp) ?_
      refine' AllReadyH.cons (o := ?oi95) ?hi95 (fun K hK => ?step95) AllReadyH.nil
      case hi95 => (simp only [List.getElem?_toArray, List.getElem?_cons_succ, List.getElem?_cons_zero]; rfl)
      rw [if_pos (by rfl)]
      go_simp
      (go_at_call 14; refine (valueText_i k n HN.out _ (HTB.out _ ?_)).mono ?_; (· (repeat (first | exact H3.out | assumption | exact And.right (And.right (And.right (by assumption))) | (refine bel_call ?_ (by assumption)) | (refine bel_alloc ?_ _) | (refine Below.drew ?_) | (refine bel_drewN ?_ _)))); rintro e w' ⟨rfl, hb⟩)
      all_goals (try go_wp2_with fail)
      refine hK.out _ _ ?_ (fun hHeld => ?_)
      · (refine ⟨HP.out _ ?_, HQ.out _ ?_, HU.out _ ?_, ?_⟩ <;> (repeat (first | exact H3.out | assumption | exact And.right (And.right (And.right (by assumption))) | (refine bel_call ?_ (by assumption)) | (refine bel_alloc ?_ _) | (refine Below.drew ?_) | (refine bel_drewN ?_ _))))
      clear hK K
      (try simp only [Act.put, List.setIfInBounds_toArray, List.set_cons_zero, List.set_cons_succ])
      refine wpAnyH_ready (rs := [43]) (by kernel_rfl) (by simp) ?_
      refine' AllReadyH.cons (o := ?oi96) ?hi96 (fun K hK => ?step96) AllReadyH.nil
      case hi96 => (simp only [List.getElem?_toArray, List.getElem?_cons_succ, List.getElem?_cons_zero]; rfl)
      rw [if_pos (by rfl)]
      go_simp
      (go_at_call 12; refine (valueText_s k n HN.out _).mono ?_; rintro e w' ⟨rfl, hb⟩)
      all_goals (try go_wp2_with fail)
      refine hK.out _ _ ?_ (fun hHeld => ?_)
      · (refine ⟨HP.out _ ?_, HQ.out _ ?_, HU.out _ ?_, ?_⟩ <;> (repeat (first | exact H3.out | assumption | exact And.right (And.right (And.right (by assumption))) | (refine bel_call ?_ (by assumption)) | (refine bel_alloc ?_ _) | (refine Below.drew ?_) | (refine bel_drewN ?_ _))))
      clear hK K
      (try simp only [Act.put, List.setIfInBounds_toArray, List.set_cons_zero, List.set_cons_succ])
      refine' wpAnyH_take (i := 44) (oi := ?oi97) (v := ?v97) ?hi97 ?hs97 ?hf97 ?hr97 ?hQ97 ?hy97 ?hS97 ?rest97
      case hi97 => (simp only [List.getElem?_toArray, List.getElem?_cons_succ, List.getElem?_cons_zero]; rfl)
      case hs97 => kernel_rfl
      case hf97 => kernel_rfl
      case hr97 => kernel_rfl
      case hQ97 => exact fun _ _ _ h => h
      case hS97 => assumption
      case hy97 => (refine Or.inl ⟨by rfl, ?_⟩; intro w hSw; (try dsimp only at hSw); go_simp; all_goals with_reducible rfl)
      (try simp only [Act.put, List.setIfInBounds_toArray, List.set_cons_zero, List.set_cons_succ])
      refine' wpAnyH_take (i := 45) (oi := ?oi98) (v := ?v98) ?hi98 ?hs98 ?hf98 ?hr98 ?hQ98 ?hy98 ?hS98 ?rest98
      case hi98 => (simp only [List.getElem?_toArray, List.getElem?_cons_succ, List.getElem?_cons_zero]; rfl)
      case hs98 => kernel_rfl
      case hf98 => kernel_rfl
      case hr98 => kernel_rfl
      case hQ98 => exact fun _ _ _ h => h
      case hS98 => assumption
      case hy98 => (refine Or.inl ⟨by rfl, ?_⟩; intro w hSw; (try dsimp only at hSw); go_simp; all_goals with_reducible rfl)
      (try simp only [Act.put, List.setIfInBounds_toArray, List.set_cons_zero, List.set_cons_succ])
      refine' wpAnyH_take (i := 46) (oi := ?oi99) (v := ?v99) ?hi99 ?hs99 ?hf99 ?hr99 ?hQ99 ?hy99 ?hS99 ?rest99
      case hi99 => (simp only [List.getElem?_toArray, List.getElem?_cons_succ, List.getElem?_cons_zero]; rfl)
      case hs99 => kernel_rfl
      case hf99 => kernel_rfl
      case hr99 => kernel_rfl
      case hQ99 => exact fun _ _ _ h => h
      case hS99 => assumption
      case hy99 => (refine Or.inl ⟨by rfl, ?_⟩; intro w hSw; (try dsimp only at hSw); go_simp; all_goals with_reducible rfl)
      (try simp only [Act.put, List.setIfInBounds_toArray, List.set_cons_zero, List.set_cons_succ])
      refine' wpAnyH_take (i := 47) (oi := ?oi100) (v := ?v100) ?hi100 ?hs100 ?hf100 ?hr100 ?hQ100 ?hy100 ?hS100 ?rest100
      case hi100 => (simp only [List.getElem?_toArray, List.getElem?_cons_succ, List.getElem?_cons_zero]; rfl)
      case hs100 => kernel_rfl
      case hf100 => kernel_rfl
      case hr100 => kernel_rfl
      case hQ100 => exact fun _ _ _ h => h
      case hS100 => assumption
      case hy100 => (refine Or.inl ⟨by rfl, ?_⟩; intro w hSw; (try dsimp only at hSw); go_simp; all_goals with_reducible rfl)
      (try simp only [Act.put, List.setIfInBounds_toArray, List.set_cons_zero, List.set_cons_succ])
      refine wpAnyH_ready (rs := [48]) (by kernel_rfl) (by simp) ?_
      refine' AllReadyH.cons (o := ?oi101) ?hi101 (fun K hK => ?step101) AllReadyH.nil
      case hi101 => (simp only [List.getElem?_toArray, List.getElem?_cons_succ, List.getElem?_cons_zero]; rfl)
      rw [if_pos (by rfl)]
      go_simp
      (go_at_call 14; refine (valueText_i 3 0 zero_in _ (HTB.out _ ?_)).mono ?_; (· (repeat (first | exact H3.out | assumption | exact And.right (And.right (And.right (by assumption))) | (refine bel_call ?_ (by assumption)) | (refine bel_alloc ?_ _) | (refine Below.drew ?_) | (refine bel_drewN ?_ _)))); rintro e w' ⟨rfl, hb⟩)
      all_goals (try go_wp2_with fail)
      refine hK.out _ _ ?_ (fun hHeld => ?_)
      · (refine ⟨HP.out _ ?_, HQ.out _ ?_, HU.out _ ?_, ?_⟩ <;> (repeat (first | exact H3.out | assumption | exact And.right (And.right (And.right (by assumption))) | (refine bel_call ?_ (by assumption)) | (refine bel_alloc ?_ _) | (refine Below.drew ?_) | (refine bel_drewN ?_ _))))
      clear hK K
      (try simp only [Act.put, List.setIfInBounds_toArray, List.set_cons_zero, List.set_cons_succ])
      refine' wpAnyH_take (i := 49) (oi := ?oi102) (v := ?v102) ?hi102 ?hs102 ?hf102 ?hr102 ?hQ102 ?hy102 ?hS102 ?rest102
      case hi102 => (simp only [List.getElem?_toArray, List.getElem?_cons_succ, List.getElem?_cons_zero]; rfl)
      case hs102 => kernel_rfl
      case hf102 => kernel_rfl
      case hr102 => kernel_rfl
      case hQ102 => exact fun _ _ _ h => h
      case hS102 => assumption
      case hy102 => (refine Or.inl ⟨by rfl, ?_⟩; intro w hSw; (try dsimp only at hSw); go_simp; all_goals with_reducible rfl)
      (try simp only [Act.put, List.setIfInBounds_toArray, List.set_cons_zero, List.set_cons_succ])
      refine' wpAnyH_take (i := 50) (oi := ?oi103) (v := ?v103) ?hi103 ?hs103 ?hf103 ?hr103 ?hQ103 ?hy103 ?hS103 ?rest103
      case hi103 => (simp only [List.getElem?_toArray, List.getElem?_cons_succ, List.getElem?_cons_zero]; rfl)
      case hs103 => kernel_rfl
      case hf103 => kernel_rfl
      case hr103 => kernel_rfl
      case hQ103 => exact fun _ _ _ h => h
      case hS103 => assumption
      case hy103 => (refine Or.inl ⟨by rfl, ?_⟩; intro w hSw; (try dsimp only at hSw); go_simp; all_goals with_reducible rfl)
      (try simp only [Act.put, List.setIfInBounds_toArray, List.set_cons_zero, List.set_cons_succ])
      refine' wpAnyH_take (i := 51) (oi := ?oi104) (v := ?v104) ?hi104 ?hs104 ?hf104 ?hr104 ?hQ104 ?hy104 ?hS104 ?rest104
      case hi104 => (simp only [List.getElem?_toArray, List.getElem?_cons_succ, List.getElem?_cons_zero]; rfl)
      case hs104 => kernel_rfl
      case hf104 => kernel_rfl
      case hr104 => kernel_rfl
      case hQ104 => exact fun _ _ _ h => h
      case hS104 => assumption
      case hy104 => (refine Or.inl ⟨by rfl, ?_⟩; intro w hSw; (try dsimp only at hSw); go_simp; all_goals with_reducible rfl)
      (try simp only [Act.put, List.setIfInBounds_toArray, List.set_cons_zero, List.set_cons_succ])
      refine wpAnyH_done (by kernel_rfl) ?_ _
      go_wp2
      go_ret
      exact ⟨rfl, bel_call HB.out hHeld.2.2.2⟩
  · have hbig : (1048576 : Int) < ↑l.length := by omega
    go_enter Tryd.func7, Tryd.ntmps7
    go_wp2_with ((go_at_call 15; refine (big_l _ _ _ _).mono ?_; rintro e w' ⟨rfl, rfl⟩))
    go_ret
    exact ⟨rfl, Below.refl _ _⟩
theorem FnValues_door (os : Os) (args : Array Value) : laidMetH Tryd.prog Rows.fnValuesRow.laid ((World.doorLaid Tryd.prog 62 os).forCall (fun _ _ => 0) ⟨#[], args, []⟩).memory :=
  laidMetH_of_parts3 (fuel := 8) (laidMet_of_run' 8 (by kernel_rfl) (by kernel_rfl)) (by kernel_rfl) (by kernel_rfl)
set_option maxRecDepth 100000 in
theorem FnValues_lifted (os : Os) (started : os.Started) (H : Type) (enc : TypeId × Value → H) :
    ReturnsInHanded {} Tryd.checked os 7 .any (fun w args => (Rows.fnValuesSpec.pre enc Tryd.prog Tryd.f7 [] false w args ∧ laidMetH Tryd.prog Rows.fnValuesRow.laid w) ∧ sizedMet enc Tryd.prog Tryd.f7 (OpenSpec.ofChange Rows.fnValuesSpec) false w args) (Rows.fnValuesSpec.post enc Tryd.prog Tryd.f7 false true false false) := by
  refine returnsInHanded_of_change_and (C := Tryd.checked) (X := fun w _ => laidMetH Tryd.prog Rows.fnValuesRow.laid w) (fun _ _ _ hh h => h.of_heap hh) own started (by kernel_rfl) Tryd.func7
    (ChangeSpec.witness_shaped (enc := enc) (C := Tryd.checked) (os := os) (X := fun w _ => laidMetH Tryd.prog Rows.fnValuesRow.laid w) false (World.doorLaid Tryd.prog 62 os) #[.slice none 0 0] 8 rfl (World.shaped_of_RefB (by kernel_rfl) (by kernel_rfl)) (by kernel_rfl) (by kernel_rfl) (by kernel_rfl) (FnValues_door os _)) ?_
  intro W base args ds gs before hval0 hW _ _ hL0 _
  have hL := laid_plain3 hL0
  have hval : ∀ (j : Nat) t v, Tryd.f7.params[j]? = some t → args[j]? = some v → Value.okWide Tryd.prog W .any base t v := hval0
  have hW' := hW
  obtain ⟨p, q, hA0, hV, rfl, hfz, hnd⟩ := hW
  have hA : DataW.TrodAll enc Tryd.prog W 0 (fun _ => true) true Tryd.f7.params.toList args.toList ds p := hA0
  rw [Tryd.params7] at hA hval
  obtain ⟨v0, vs0, d0, ds0, p0, q0, hargs, rfl, rfl, h0, r0⟩ := trodAll_cons hA
  obtain ⟨rfl, rfl, rfl⟩ := trodAll_nil r0
  obtain rfl : args = #[v0] := by cases args; simp_all
  obtain ⟨rfl, rfl⟩ := trodVars_none hV
  have k0 := h0
  have lt0 : ∀ x ∈ p0, x.block < W.heap.size := by obtain ⟨m, hm⟩ := k0; exact DataW.trod_lt m _ _ _ hm
  obtain ⟨b0, len0, cap0, rfl⟩ := okWide_slice Tryd.underlying33 (hval 0 33 v0 rfl rfl)
  obtain ⟨z0, w0⟩ : ∃ zs, IsRow .u8 W b0 len0 cap0 zs := by
    obtain ⟨fuel, hf⟩ := h0
    rcases open_ints Tryd.underlying33 Tryd.underlying5 (by kernel_rfl) hf with ⟨hcs, _⟩ | ⟨x, l, c, zs, hcs, _, hl, hm, hz, _, hcell, hwz⟩
    · simp [Value.cells] at hcs
      obtain ⟨rfl, rfl, rfl⟩ := hcs
      exact ⟨[], .inl ⟨rfl, rfl, rfl, rfl⟩⟩
    · simp [Value.cells] at hcs
      obtain ⟨rfl, rfl, rfl⟩ := hcs
      exact ⟨zs, .inr ⟨_, rfl, hl, hm, by simpa using hz, hcell, hwz⟩⟩
  clear hA0 hval0
  refine (law_FnValues b0 len0 cap0 z0 W w0 (pow3 hL)).mono fun e W' ⟨he, bel⟩ => ?_
  subst he
  exact ⟨_, rfl, _, _, _, [], _, [], hW', trodAll_mk1 (shut_bool Tryd.underlying4 _), (trodAll_cons_mk (Below.trod laidOut (by kernel_rfl) (of_decide_eq_true (by kernel_rfl)) k0 bel lt0) trodAll_mk0), rfl, bel.frame _, fun h => by cases h⟩

/-- The law 'FnValues' returns true for every input, and each argument reads afterwards as it read before. -/
theorem FnValues_row : Rows.FnValuesSaid :=
  OpenClaim.holds_of_wide 7 Tryd.f7 rfl rfl rfl rfl rfl rfl rfl ⟨rfl, rfl, rfl, rfl, rfl⟩ rfl rfl rfl rfl rfl (by kernel_rfl) Tryd.func7 (by kernel_rfl)
    (of_decide_eq_true (by kernel_rfl)) (by unfold Func.isWrapper; first | (rw [if_pos (by decide +kernel)]; kernel_rfl) | (rw [if_neg (by decide +kernel)]; exact ⟨rfl, rfl⟩))
    (fun os started H enc _ => FnValues_lifted os started H enc)
/-- The tied card of the law. -/
theorem FnValues_holds : Rows.FnValuesCardSaid :=
  Claim7.holds_tied_plain_at .later [] [.data, .data, .data] true (true, "3c23225ef822164df6447e70027ca7ed50a225710e4b9b3feeb43429bc70ec90") true
    FnValues_row (fun _ h => by cases h) (by kernel_rfl) (fun _ h => by cases h) fnValues_row_tie rfl ⟨rfl, rfl⟩ (by kernel_rfl) rfl
    (fun f fn hf hfn => by
      obtain rfl : f = 7 := Option.some.inj ((show Tryd.prog.funcNamed "loop.example/g00972/laws.FnValues" = some 7 by kernel_rfl).symm.trans hf) |>.symm
      obtain rfl : fn = Tryd.f7 := (Option.some.inj (Tryd.func7.symm.trans hfn)).symm
      exact ⟨by kernel_rfl, fun j t ht => by
        rw [Tryd.params7] at ht
        have hm : t ∈ Tryd.f7.params.toList := by rw [Tryd.params7]; simpa using Array.mem_of_getElem? ht
        have hall : (Tryd.f7.params.toList.all fun u => !Tryd.prog.wantsStandIn u) = true := by kernel_rfl
        exact (show Tryd.prog.wantsStandIn t = false by simpa using List.all_eq_true.1 hall t hm)⟩)
    (by kernel_rfl)
#print axioms FnValues_holds

end Go.Proofs.YtdkinllmmdlpiaaDoor
