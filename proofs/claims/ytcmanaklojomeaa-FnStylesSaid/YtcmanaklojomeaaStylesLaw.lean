/- The law FnStyles returns true for every input: a new style is right; what is not right is told; a frame is pad and border together. Conditions: none. -/
import Derived.Test.YtcmanaklojomeaaDrawSame
import Derived.Test.YtcmanaklojomeaaLw
import Derived.Test.YtcmanaklojomeaaLawM
import Derived.Test.YtcmanaklojomeaaStyNew
import Derived.Test.YtcmanaklojomeaaStyLess
import Derived.Test.YtcmanaklojomeaaStyOkI
import Derived.Test.YtcmanaklojomeaaStyFr
import Derived.Test.YtcmanaklojomeaaSame
import Derived.Deep.RegionHeld3
namespace Go.Proofs.Ytcmanaklojomeaa
open Go.ChangeShapes Go.WideShapes Go.ChangeAt Go.RowKit Go.Deep
set_option linter.unusedVariables false
set_option maxRecDepth 20000
theorem exec_eqY {W : World} {ev : Operand → Value} {x y : Operand} {u ty : TypeId} {ps : String} {dst : Option Tmp} {af : Array Edge} {gd : Option (Tmp × Bool)} {g k : Nat → Int} {q r : Nat → Bool} (hx : ev x = .agg (syA g q)) (hy : ev y = .agg (syA k r)) :
    (execOp ev { dst := dst, op := .binOp .eql 40 x y u, type := ty, pos := ps, after := af, guard := gd }).run Try.prog W = .ok (.value (.bool (sameB g q k r))) W := by
  have hm : Try.prog.eqGuardType Try.prog.depth 40 = false := by kernel_rfl
  unfold execOp
  simp only [hx, hy, Sem.run_bind, run_eqGuard_agg _ _ _ _ _ _ _ hm, run_eql_struct, eq_style, Result.andThen_ok, Sem.run_pure]
theorem same_self (g : Nat → Int) (q : Nat → Bool) : sameB g q g q = true := by simp [sameB, eqV, eqS, eqE]
theorem exec_eqYY {W : World} {ev : Operand → Value} {x y : Operand} {u ty : TypeId} {ps : String} {dst : Option Tmp} {af : Array Edge} {gd : Option (Tmp × Bool)} {g : Nat → Int} {q : Nat → Bool} (hx : ev x = .agg (syA g q)) (hy : ev y = .agg (syA g q)) :
    (execOp ev { dst := dst, op := .binOp .eql 40 x y u, type := ty, pos := ps, after := af, guard := gd }).run Try.prog W = .ok (.value (.bool true)) W := by
  rw [exec_eqY hx hy, same_self]
theorem less_less (g : Nat → Int) : lessG (lessG g) = lessG g := by
  funext i
  unfold lessG
  split <;> rfl
theorem new_ok : styleOkB newG = true := by decide
theorem zszY (g : Nat → Int) (q : Nat → Bool) : (Value.agg (syA (fun _ => 0) (fun _ => false))).cells.size = (syA g q).size := by
  rw [syA_size]
  exact syA_size _ _
set_option maxHeartbeats 6400000 in
theorem law_FnStyles (a : Option Addr) (len cap : Nat) (zs : List Int) (w : World) (h : IsRow .u8 w a len cap zs) :
    Calls Try.prog 7 #[.slice a len cap] w fun e w' => e = .returned (.bool true) ∧ Below w.heap.size w w' := by
  obtain ⟨l, rfl, hr⟩ := RdB.of_row h
  clear h
  by_cases hle : l.length ≤ 1048576
  · have HR := Lib.hid hr
    have hbig : ¬ (1048576 : Int) < ↑l.length := by omega
    clear hr
    go_enter Try.func7, Try.ntmps7
    go_wp2_with ((go_at_call 8; refine (big_l _ _ _ _).mono ?_; rintro e w' ⟨rfl, rfl⟩))
    refine (drawStyleOk_s w a cap l hle HR.out).mono ?_
    rintro e w1 ⟨g, q, hg, rfl, hb⟩
    have HL := Lib.hid (Lw.start hb)
    clear hb hg
    have HNO := Lib.hid new_ok
    have HLL := Lib.hid (less_less g)
    have HFO := Lib.hid (frame_ok (g 50) (g 51) (g 52) (g 53) (g 54) (g 55) (g 56) (g 57))
    go_upto_region 4 with (first | (refine Lw.wp_alloc HL.out rfl 40 rfl (.agg (syA (fun _ => 0) (fun _ => false))) (by kernel_rfl) ?_; intro b W' hL; replace HL := Lib.hid hL; clear hL) | (refine Lw.wp_put HL.out rfl 40 _ _ rfl _ rfl rfl (zszY _ _) (syA_one _ _) (syA_info_v _ _) ?_; intro W' hL; replace HL := Lib.hid hL; clear hL))
    obtain ⟨bs, hbs⟩ : ∃ x, x = b := ⟨_, rfl⟩
    subst hbs
    go_upto_region 5 with (first | (go_at_call 59; refine (styleNew_i _).mono ?_; rintro e w' ⟨rfl, hb⟩; replace HL := Lib.hid (HL.out.called hb); clear hb) | (first | (refine Lw.wp_alloc HL.out rfl 40 rfl (.agg (syA (fun _ => 0) (fun _ => false))) (by kernel_rfl) ?_; intro b W' hL; replace HL := Lib.hid hL; clear hL) | (refine Lw.wp_put HL.out rfl 40 _ _ rfl _ rfl rfl (zszY _ _) (syA_one _ _) (syA_info_v _ _) ?_; intro W' hL; replace HL := Lib.hid hL; clear hL)))
    obtain ⟨bn, hbs⟩ : ∃ x, x = b := ⟨_, rfl⟩
    subst hbs
    go_upto_region 6 with (first | (go_at_call 60; refine (frameOf_i g q _).mono ?_; rintro e w' ⟨rfl, hb⟩; replace HL := Lib.hid (HL.out.called hb); clear hb) | (refine Lw.wp_load HL.out rfl 40 _ rfl _ rfl _ _ (by first | exact List.mem_cons_self | exact List.mem_cons_of_mem _ List.mem_cons_self | exact List.mem_cons_of_mem _ (List.mem_cons_of_mem _ List.mem_cons_self)) _ Try.underlying40 rfl (syA_info_v _ _) ?_) | (first | (refine Lw.wp_alloc HL.out rfl 38 rfl (.agg #[.int .i64 0, .int .i64 0, .int .i64 0, .int .i64 0]) (by kernel_rfl) ?_; intro b W' hL; replace HL := Lib.hid hL; clear hL) | (refine Lw.wp_put HL.out rfl 38 _ _ rfl _ rfl rfl (by rfl) (by first | exact one2 _ _ | exact one4 _ _ _ _ | exact syA_one _ _ | exact sdA_one _ _) (by kernel_rfl) ?_; intro W' hL; replace HL := Lib.hid hL; clear hL) | (refine Lw.wp_put HL.out.swap rfl 38 _ _ rfl _ rfl rfl (by rfl) (by first | exact one2 _ _ | exact one4 _ _ _ _ | exact syA_one _ _ | exact sdA_one _ _) (by kernel_rfl) ?_; intro W' hL; replace HL := Lib.hid hL; clear hL) | (refine Lw.wp_load HL.out rfl 38 _ rfl _ rfl _ _ (by (first | exact List.mem_cons_self | exact List.mem_cons_of_mem _ List.mem_cons_self | exact List.mem_cons_of_mem _ (List.mem_cons_of_mem _ List.mem_cons_self))) _ Try.underlying38 rfl (by kernel_rfl) ?_)))
    obtain ⟨bf, hbs⟩ : ∃ x, x = b := ⟨_, rfl⟩
    subst hbs
    go_upto_region 7 with (first | (go_at_call 61; refine (styleLess_i g q _).mono ?_; rintro e w' ⟨rfl, hb⟩; replace HL := Lib.hid (HL.out.called hb); clear hb) | (refine Lw.wp_load HL.out rfl 40 _ rfl _ rfl _ _ (by first | exact List.mem_cons_self | exact List.mem_cons_of_mem _ List.mem_cons_self | exact List.mem_cons_of_mem _ (List.mem_cons_of_mem _ List.mem_cons_self)) _ Try.underlying40 rfl (syA_info_v _ _) ?_) | (first | (refine Lw.wp_alloc HL.out rfl 40 rfl (.agg (syA (fun _ => 0) (fun _ => false))) (by kernel_rfl) ?_; intro b W' hL; replace HL := Lib.hid hL; clear hL) | (refine Lw.wp_put HL.out rfl 40 _ _ rfl _ rfl rfl (zszY _ _) (syA_one _ _) (syA_info_v _ _) ?_; intro W' hL; replace HL := Lib.hid hL; clear hL)))
    obtain ⟨bl, hbs⟩ : ∃ x, x = b := ⟨_, rfl⟩
    subst hbs
    go_wp2_with fail
    refine (drawSameStyle_s _ a cap l hle (HR.out.below HL.out.bel)).mono ?_
    rintro e w3 ⟨g7, q7, g8, q8, hg7, hg8, rfl, hb⟩
    replace HL := Lib.hid (HL.out.called hb)
    clear hb hg7 hg8
    go_upto_region 8 with (first | ((fail_if_success (have hh := bu)); refine Lw.wp_alloc HL.out rfl 40 rfl (.agg (syA (fun _ => 0) (fun _ => false))) (by kernel_rfl) ?_; intro bu W' hL; replace HL := Lib.hid hL; clear hL) | (refine Lw.wp_alloc HL.out rfl 40 rfl (.agg (syA (fun _ => 0) (fun _ => false))) (by kernel_rfl) ?_; intro b W' hL; replace HL := Lib.hid hL; clear hL) | (refine Lw.wp_put HL.out.swap rfl 40 _ _ rfl (syA g7 q7) rfl rfl (zszY _ _) (syA_one _ _) (syA_info_v _ _) ?_; intro W' hL; replace HL := Lib.hid hL; clear hL) | (refine Lw.wp_put HL.out.swap rfl 40 _ _ rfl (syA g8 q8) rfl rfl (zszY _ _) (syA_one _ _) (syA_info_v _ _) ?_; intro W' hL; replace HL := Lib.hid hL; clear hL))
    have HYb : Hid (∀ W, Below W'.heap.size W' W → W.rangeAt b 0 (syA g8 q8).toList) := Lib.hid (fun W h j v hj => by
      rw [Nat.zero_add, (HL.out.called h).cell (List.mem_cons_self)]
      simpa using hj)
    have HYa : Hid (∀ W, Below W'.heap.size W' W → W.rangeAt bu 0 (syA g7 q7).toList) := Lib.hid (fun W h j v hj => by
      rw [Nat.zero_add, (HL.out.called h).cell (List.mem_cons_of_mem _ (List.mem_cons_self))]
      simpa using hj)
    have HYl : Hid (∀ W, Below W'.heap.size W' W → W.rangeAt bl 0 (syA (lessG g) newQ).toList) := Lib.hid (fun W h j v hj => by
      rw [Nat.zero_add, (HL.out.called h).cell (List.mem_cons_of_mem _ (List.mem_cons_of_mem _ (List.mem_cons_self)))]
      simpa using hj)
    have HYf : Hid (∀ W, Below W'.heap.size W' W → W.rangeAt bf 0 (#[Value.int .i64 (addEdges (g 50) (g 54)), Value.int .i64 (addEdges (g 51) (g 55)), Value.int .i64 (addEdges (g 52) (g 56)), Value.int .i64 (addEdges (g 53) (g 57))]).toList) := Lib.hid (fun W h j v hj => by
      rw [Nat.zero_add, (HL.out.called h).cell (List.mem_cons_of_mem _ (List.mem_cons_of_mem _ (List.mem_cons_of_mem _ (List.mem_cons_self))))]
      simpa using hj)
    have HYn : Hid (∀ W, Below W'.heap.size W' W → W.rangeAt bn 0 (syA newG newQ).toList) := Lib.hid (fun W h j v hj => by
      rw [Nat.zero_add, (HL.out.called h).cell (List.mem_cons_of_mem _ (List.mem_cons_of_mem _ (List.mem_cons_of_mem _ (List.mem_cons_of_mem _ (List.mem_cons_self)))))]
      simpa using hj)
    have HYs : Hid (∀ W, Below W'.heap.size W' W → W.rangeAt bs 0 (syA g q).toList) := Lib.hid (fun W h j v hj => by
      rw [Nat.zero_add, (HL.out.called h).cell (List.mem_cons_of_mem _ (List.mem_cons_of_mem _ (List.mem_cons_of_mem _ (List.mem_cons_of_mem _ (List.mem_cons_of_mem _ (List.mem_cons_self))))))]
      simpa using hj)
    refine wp_region_held_drew (S := (fun w' => Below W'.heap.size W' w')) (by kernel_rfl) ?_ (fun hHeld => ?_)
    · (repeat (first | exact Below.refl _ _ | assumption | (refine bel_call ?_ (by assumption)) | (refine bel_alloc ?_ _) | (refine Below.drew ?_) | (refine bel_drewN ?_ _)))
    refine' wpAnyH_take (i := 0) (oi := ?oi1) (v := .agg (syA g q)) ?hi1 ?hs1 ?hf1 ?hr1 ?hQ1 ?hy1 ?hS1 ?rest1
    case hi1 => (simp only [List.getElem?_toArray, List.getElem?_cons_zero]; rfl)
    case hs1 => kernel_rfl
    case hf1 => kernel_rfl
    case hr1 => kernel_rfl
    case hQ1 => exact fun _ _ _ h => h
    case hS1 => assumption
    case hy1 => exact yieldsIf_load_mid (by rfl) _ _ rfl _ 0 rfl ((syA g q)).toList _ (fun w hSw => HYs.out w hSw) Try.underlying40 rfl (by rw [Array.length_toList]; exact syA_info_v _ _)
    (try simp only [Act.put, List.setIfInBounds_toArray, List.set_cons_zero, List.set_cons_succ])
    refine' wpAnyH_take (i := 2) (oi := ?oi2) (v := .agg (syA g q)) ?hi2 ?hs2 ?hf2 ?hr2 ?hQ2 ?hy2 ?hS2 ?rest2
    case hi2 => (simp only [List.getElem?_toArray, List.getElem?_cons_succ, List.getElem?_cons_zero]; rfl)
    case hs2 => kernel_rfl
    case hf2 => kernel_rfl
    case hr2 => kernel_rfl
    case hQ2 => exact fun _ _ _ h => h
    case hS2 => assumption
    case hy2 => exact yieldsIf_load_mid (by rfl) _ _ rfl _ 0 rfl ((syA g q)).toList _ (fun w hSw => HYs.out w hSw) Try.underlying40 rfl (by rw [Array.length_toList]; exact syA_info_v _ _)
    (try simp only [Act.put, List.setIfInBounds_toArray, List.set_cons_zero, List.set_cons_succ])
    refine wpAnyH_ready (rs := [1]) (by kernel_rfl) (by simp) ?_
    refine' AllReadyH.cons (o := ?oi3) ?hi3 (fun K hK => ?step3) AllReadyH.nil
    case hi3 => (simp only [List.getElem?_toArray, List.getElem?_cons_succ, List.getElem?_cons_zero]; rfl)
    rw [if_pos (by rfl)]
    go_simp
    (go_at_call 63; refine (styleOk_i g q _).mono ?_; rintro e w' ⟨rfl, hb⟩)
    all_goals (try go_wp2_with fail)
    refine hK.out _ _ ?_ (fun hHeld => ?_)
    · (repeat (first | exact Below.refl _ _ | assumption | (refine bel_call ?_ (by assumption)) | (refine bel_alloc ?_ _) | (refine Below.drew ?_) | (refine bel_drewN ?_ _)))
    clear hK K
    (try simp only [Act.put, List.setIfInBounds_toArray, List.set_cons_zero, List.set_cons_succ])
    refine wpAnyH_ready (rs := [3]) (by kernel_rfl) (by simp) ?_
    refine' AllReadyH.cons (o := ?oi4) ?hi4 (fun K hK => ?step4) AllReadyH.nil
    case hi4 => (simp only [List.getElem?_toArray, List.getElem?_cons_succ, List.getElem?_cons_zero]; rfl)
    rw [if_pos (by rfl)]
    go_simp
    (go_at_call 64; refine (styleOk_s g q _).mono ?_; rintro e w' ⟨rfl, hb⟩)
    all_goals (try go_wp2_with fail)
    refine hK.out _ _ ?_ (fun hHeld => ?_)
    · (repeat (first | exact Below.refl _ _ | assumption | (refine bel_call ?_ (by assumption)) | (refine bel_alloc ?_ _) | (refine Below.drew ?_) | (refine bel_drewN ?_ _)))
    clear hK K
    (try simp only [Act.put, List.setIfInBounds_toArray, List.set_cons_zero, List.set_cons_succ])
    refine' wpAnyH_take (i := 4) (oi := ?oi5) (v := ?v5) ?hi5 ?hs5 ?hf5 ?hr5 ?hQ5 ?hy5 ?hS5 ?rest5
    case hi5 => (simp only [List.getElem?_toArray, List.getElem?_cons_succ, List.getElem?_cons_zero]; rfl)
    case hs5 => kernel_rfl
    case hf5 => kernel_rfl
    case hr5 => kernel_rfl
    case hQ5 => exact fun _ _ _ h => h
    case hS5 => assumption
    case hy5 => (refine Or.inl ⟨by rfl, ?_⟩; intro w hSw; (try dsimp only at hSw); go_simp; all_goals with_reducible rfl)
    (try simp only [Act.put, List.setIfInBounds_toArray, List.set_cons_zero, List.set_cons_succ])
    refine' wpAnyH_take (i := 5) (oi := ?oi6) (v := ?v6) ?hi6 ?hs6 ?hf6 ?hr6 ?hQ6 ?hy6 ?hS6 ?rest6
    case hi6 => (simp only [List.getElem?_toArray, List.getElem?_cons_succ, List.getElem?_cons_zero]; rfl)
    case hs6 => kernel_rfl
    case hf6 => kernel_rfl
    case hr6 => kernel_rfl
    case hQ6 => exact fun _ _ _ h => h
    case hS6 => assumption
    case hy6 => (refine Or.inl ⟨by rfl, ?_⟩; intro w hSw; (try dsimp only at hSw); go_simp; all_goals with_reducible rfl)
    (try simp only [Act.put, List.setIfInBounds_toArray, List.set_cons_zero, List.set_cons_succ])
    refine' wpAnyH_take (i := 6) (oi := ?oi7) (v := .agg (syA newG newQ)) ?hi7 ?hs7 ?hf7 ?hr7 ?hQ7 ?hy7 ?hS7 ?rest7
    case hi7 => (simp only [List.getElem?_toArray, List.getElem?_cons_succ, List.getElem?_cons_zero]; rfl)
    case hs7 => kernel_rfl
    case hf7 => kernel_rfl
    case hr7 => kernel_rfl
    case hQ7 => exact fun _ _ _ h => h
    case hS7 => assumption
    case hy7 => exact yieldsIf_load_mid (by rfl) _ _ rfl _ 0 rfl ((syA newG newQ)).toList _ (fun w hSw => HYn.out w hSw) Try.underlying40 rfl (by rw [Array.length_toList]; exact syA_info_v _ _)
    (try simp only [Act.put, List.setIfInBounds_toArray, List.set_cons_zero, List.set_cons_succ])
    refine wpAnyH_ready (rs := [7]) (by kernel_rfl) (by simp) ?_
    refine' AllReadyH.cons (o := ?oi8) ?hi8 (fun K hK => ?step8) AllReadyH.nil
    case hi8 => (simp only [List.getElem?_toArray, List.getElem?_cons_succ, List.getElem?_cons_zero]; rfl)
    rw [if_pos (by rfl)]
    go_simp
    (go_at_call 63; refine (styleOk_i newG newQ _).mono ?_; rintro e w' ⟨rfl, hb⟩; rw [HNO.out])
    all_goals (try go_wp2_with fail)
    refine hK.out _ _ ?_ (fun hHeld => ?_)
    · (repeat (first | exact Below.refl _ _ | assumption | (refine bel_call ?_ (by assumption)) | (refine bel_alloc ?_ _) | (refine Below.drew ?_) | (refine bel_drewN ?_ _)))
    clear hK K
    (try simp only [Act.put, List.setIfInBounds_toArray, List.set_cons_zero, List.set_cons_succ])
    refine' wpAnyH_take (i := 8) (oi := ?oi9) (v := ?v9) ?hi9 ?hs9 ?hf9 ?hr9 ?hQ9 ?hy9 ?hS9 ?rest9
    case hi9 => (simp only [List.getElem?_toArray, List.getElem?_cons_succ, List.getElem?_cons_zero]; rfl)
    case hs9 => kernel_rfl
    case hf9 => kernel_rfl
    case hr9 => kernel_rfl
    case hQ9 => exact fun _ _ _ h => h
    case hS9 => assumption
    case hy9 => (refine Or.inl ⟨by rfl, ?_⟩; intro w hSw; (try dsimp only at hSw); go_simp; all_goals with_reducible rfl)
    (try simp only [Act.put, List.setIfInBounds_toArray, List.set_cons_zero, List.set_cons_succ])
    refine' wpAnyH_take (i := 9) (oi := ?oi10) (v := ?v10) ?hi10 ?hs10 ?hf10 ?hr10 ?hQ10 ?hy10 ?hS10 ?rest10
    case hi10 => (simp only [List.getElem?_toArray, List.getElem?_cons_succ, List.getElem?_cons_zero]; rfl)
    case hs10 => kernel_rfl
    case hf10 => kernel_rfl
    case hr10 => kernel_rfl
    case hQ10 => exact fun _ _ _ h => h
    case hS10 => assumption
    case hy10 => (refine Or.inl ⟨by rfl, ?_⟩; intro w hSw; (try dsimp only at hSw); go_simp; all_goals with_reducible rfl)
    (try simp only [Act.put, List.setIfInBounds_toArray, List.set_cons_zero, List.set_cons_succ])
    refine' wpAnyH_take (i := 10) (oi := ?oi11) (v := .agg (syA newG newQ)) ?hi11 ?hs11 ?hf11 ?hr11 ?hQ11 ?hy11 ?hS11 ?rest11
    case hi11 => (simp only [List.getElem?_toArray, List.getElem?_cons_succ, List.getElem?_cons_zero]; rfl)
    case hs11 => kernel_rfl
    case hf11 => kernel_rfl
    case hr11 => kernel_rfl
    case hQ11 => exact fun _ _ _ h => h
    case hS11 => assumption
    case hy11 => exact yieldsIf_load_mid (by rfl) _ _ rfl _ 0 rfl ((syA newG newQ)).toList _ (fun w hSw => HYn.out w hSw) Try.underlying40 rfl (by rw [Array.length_toList]; exact syA_info_v _ _)
    (try simp only [Act.put, List.setIfInBounds_toArray, List.set_cons_zero, List.set_cons_succ])
    refine wpAnyH_ready (rs := [11]) (by kernel_rfl) (by simp) ?_
    refine' AllReadyH.cons (o := ?oi12) ?hi12 (fun K hK => ?step12) AllReadyH.nil
    case hi12 => (simp only [List.getElem?_toArray, List.getElem?_cons_succ, List.getElem?_cons_zero]; rfl)
    rw [if_pos (by rfl)]
    go_simp
    (go_at_call 65; refine (styleNew_s _).mono ?_; rintro e w' ⟨rfl, hb⟩)
    all_goals (try go_wp2_with fail)
    refine hK.out _ _ ?_ (fun hHeld => ?_)
    · (repeat (first | exact Below.refl _ _ | assumption | (refine bel_call ?_ (by assumption)) | (refine bel_alloc ?_ _) | (refine Below.drew ?_) | (refine bel_drewN ?_ _)))
    clear hK K
    (try simp only [Act.put, List.setIfInBounds_toArray, List.set_cons_zero, List.set_cons_succ])
    refine' wpAnyH_take (i := 12) (oi := ?oi13) (v := .bool true) ?hi13 ?hs13 ?hf13 ?hr13 ?hQ13 ?hy13 ?hS13 ?rest13
    case hi13 => (simp only [List.getElem?_toArray, List.getElem?_cons_succ, List.getElem?_cons_zero]; rfl)
    case hs13 => kernel_rfl
    case hf13 => kernel_rfl
    case hr13 => kernel_rfl
    case hQ13 => exact fun _ _ _ h => h
    case hS13 => assumption
    case hy13 => exact Or.inl ⟨by rfl, fun w _ => exec_eqYY rfl rfl⟩
    (try simp only [Act.put, List.setIfInBounds_toArray, List.set_cons_zero, List.set_cons_succ])
    refine' wpAnyH_take (i := 13) (oi := ?oi14) (v := ?v14) ?hi14 ?hs14 ?hf14 ?hr14 ?hQ14 ?hy14 ?hS14 ?rest14
    case hi14 => (simp only [List.getElem?_toArray, List.getElem?_cons_succ, List.getElem?_cons_zero]; rfl)
    case hs14 => kernel_rfl
    case hf14 => kernel_rfl
    case hr14 => kernel_rfl
    case hQ14 => exact fun _ _ _ h => h
    case hS14 => assumption
    case hy14 => (refine Or.inl ⟨by rfl, ?_⟩; intro w hSw; (try dsimp only at hSw); go_simp; all_goals with_reducible rfl)
    (try simp only [Act.put, List.setIfInBounds_toArray, List.set_cons_zero, List.set_cons_succ])
    refine' wpAnyH_take (i := 14) (oi := ?oi15) (v := ?v15) ?hi15 ?hs15 ?hf15 ?hr15 ?hQ15 ?hy15 ?hS15 ?rest15
    case hi15 => (simp only [List.getElem?_toArray, List.getElem?_cons_succ, List.getElem?_cons_zero]; rfl)
    case hs15 => kernel_rfl
    case hf15 => kernel_rfl
    case hr15 => kernel_rfl
    case hQ15 => exact fun _ _ _ h => h
    case hS15 => assumption
    case hy15 => (refine Or.inl ⟨by rfl, ?_⟩; intro w hSw; (try dsimp only at hSw); go_simp; all_goals with_reducible rfl)
    (try simp only [Act.put, List.setIfInBounds_toArray, List.set_cons_zero, List.set_cons_succ])
    refine' wpAnyH_take (i := 15) (oi := ?oi16) (v := .agg (#[Value.int .i64 (addEdges (g 50) (g 54)), Value.int .i64 (addEdges (g 51) (g 55)), Value.int .i64 (addEdges (g 52) (g 56)), Value.int .i64 (addEdges (g 53) (g 57))])) ?hi16 ?hs16 ?hf16 ?hr16 ?hQ16 ?hy16 ?hS16 ?rest16
    case hi16 => (simp only [List.getElem?_toArray, List.getElem?_cons_succ, List.getElem?_cons_zero]; rfl)
    case hs16 => kernel_rfl
    case hf16 => kernel_rfl
    case hr16 => kernel_rfl
    case hQ16 => exact fun _ _ _ h => h
    case hS16 => assumption
    case hy16 => exact yieldsIf_load_mid (by rfl) _ _ rfl _ 0 rfl ((#[Value.int .i64 (addEdges (g 50) (g 54)), Value.int .i64 (addEdges (g 51) (g 55)), Value.int .i64 (addEdges (g 52) (g 56)), Value.int .i64 (addEdges (g 53) (g 57))])).toList _ (fun w hSw => HYf.out w hSw) Try.underlying38 rfl (by kernel_rfl)
    (try simp only [Act.put, List.setIfInBounds_toArray, List.set_cons_zero, List.set_cons_succ])
    refine' wpAnyH_take (i := 16) (oi := ?oi17) (v := .agg (syA g q)) ?hi17 ?hs17 ?hf17 ?hr17 ?hQ17 ?hy17 ?hS17 ?rest17
    case hi17 => (simp only [List.getElem?_toArray, List.getElem?_cons_succ, List.getElem?_cons_zero]; rfl)
    case hs17 => kernel_rfl
    case hf17 => kernel_rfl
    case hr17 => kernel_rfl
    case hQ17 => exact fun _ _ _ h => h
    case hS17 => assumption
    case hy17 => exact yieldsIf_load_mid (by rfl) _ _ rfl _ 0 rfl ((syA g q)).toList _ (fun w hSw => HYs.out w hSw) Try.underlying40 rfl (by rw [Array.length_toList]; exact syA_info_v _ _)
    (try simp only [Act.put, List.setIfInBounds_toArray, List.set_cons_zero, List.set_cons_succ])
    refine wpAnyH_ready (rs := [17]) (by kernel_rfl) (by simp) ?_
    refine' AllReadyH.cons (o := ?oi18) ?hi18 (fun K hK => ?step18) AllReadyH.nil
    case hi18 => (simp only [List.getElem?_toArray, List.getElem?_cons_succ, List.getElem?_cons_zero]; rfl)
    rw [if_pos (by rfl)]
    go_simp
    (go_at_call 66; refine (frameOf_s g q _).mono ?_; rintro e w' ⟨rfl, hb⟩)
    all_goals (try go_wp2_with fail)
    refine hK.out _ _ ?_ (fun hHeld => ?_)
    · (repeat (first | exact Below.refl _ _ | assumption | (refine bel_call ?_ (by assumption)) | (refine bel_alloc ?_ _) | (refine Below.drew ?_) | (refine bel_drewN ?_ _)))
    clear hK K
    (try simp only [Act.put, List.setIfInBounds_toArray, List.set_cons_zero, List.set_cons_succ])
    refine' wpAnyH_take (i := 18) (oi := ?oi19) (v := ?v19) ?hi19 ?hs19 ?hf19 ?hr19 ?hQ19 ?hy19 ?hS19 ?rest19
    case hi19 => (simp only [List.getElem?_toArray, List.getElem?_cons_succ, List.getElem?_cons_zero]; rfl)
    case hs19 => kernel_rfl
    case hf19 => kernel_rfl
    case hr19 => kernel_rfl
    case hQ19 => exact fun _ _ _ h => h
    case hS19 => assumption
    case hy19 => (refine Or.inl ⟨by rfl, ?_⟩; intro w hSw; (try dsimp only at hSw); go_simp; all_goals with_reducible rfl)
    (try simp only [Act.put, List.setIfInBounds_toArray, List.set_cons_zero, List.set_cons_succ])
    refine' wpAnyH_take (i := 19) (oi := ?oi20) (v := ?v20) ?hi20 ?hs20 ?hf20 ?hr20 ?hQ20 ?hy20 ?hS20 ?rest20
    case hi20 => (simp only [List.getElem?_toArray, List.getElem?_cons_succ, List.getElem?_cons_zero]; rfl)
    case hs20 => kernel_rfl
    case hf20 => kernel_rfl
    case hr20 => kernel_rfl
    case hQ20 => exact fun _ _ _ h => h
    case hS20 => assumption
    case hy20 => (refine Or.inl ⟨by rfl, ?_⟩; intro w hSw; (try dsimp only at hSw); go_simp; all_goals with_reducible rfl)
    (try simp only [Act.put, List.setIfInBounds_toArray, List.set_cons_zero, List.set_cons_succ])
    refine' wpAnyH_take (i := 20) (oi := ?oi21) (v := ?v21) ?hi21 ?hs21 ?hf21 ?hr21 ?hQ21 ?hy21 ?hS21 ?rest21
    case hi21 => (simp only [List.getElem?_toArray, List.getElem?_cons_succ, List.getElem?_cons_zero]; rfl)
    case hs21 => kernel_rfl
    case hf21 => kernel_rfl
    case hr21 => kernel_rfl
    case hQ21 => exact fun _ _ _ h => h
    case hS21 => assumption
    case hy21 => (refine Or.inl ⟨by rfl, ?_⟩; intro w hSw; (try dsimp only at hSw); go_simp; all_goals with_reducible rfl)
    (try simp only [Act.put, List.setIfInBounds_toArray, List.set_cons_zero, List.set_cons_succ])
    refine' wpAnyH_take (i := 21) (oi := ?oi22) (v := .agg (#[Value.int .i64 (addEdges (g 50) (g 54)), Value.int .i64 (addEdges (g 51) (g 55)), Value.int .i64 (addEdges (g 52) (g 56)), Value.int .i64 (addEdges (g 53) (g 57))])) ?hi22 ?hs22 ?hf22 ?hr22 ?hQ22 ?hy22 ?hS22 ?rest22
    case hi22 => (simp only [List.getElem?_toArray, List.getElem?_cons_succ, List.getElem?_cons_zero]; rfl)
    case hs22 => kernel_rfl
    case hf22 => kernel_rfl
    case hr22 => kernel_rfl
    case hQ22 => exact fun _ _ _ h => h
    case hS22 => assumption
    case hy22 => exact yieldsIf_load_mid (by rfl) _ _ rfl _ 0 rfl ((#[Value.int .i64 (addEdges (g 50) (g 54)), Value.int .i64 (addEdges (g 51) (g 55)), Value.int .i64 (addEdges (g 52) (g 56)), Value.int .i64 (addEdges (g 53) (g 57))])).toList _ (fun w hSw => HYf.out w hSw) Try.underlying38 rfl (by kernel_rfl)
    (try simp only [Act.put, List.setIfInBounds_toArray, List.set_cons_zero, List.set_cons_succ])
    refine wpAnyH_ready (rs := [22]) (by kernel_rfl) (by simp) ?_
    refine' AllReadyH.cons (o := ?oi23) ?hi23 (fun K hK => ?step23) AllReadyH.nil
    case hi23 => (simp only [List.getElem?_toArray, List.getElem?_cons_succ, List.getElem?_cons_zero]; rfl)
    rw [if_pos (by rfl)]
    go_simp
    (go_at_call 54; refine (edgesOk_i (addEdges (g 50) (g 54)) (addEdges (g 51) (g 55)) (addEdges (g 52) (g 56)) (addEdges (g 53) (g 57)) _).mono ?_; rintro e w' ⟨rfl, hb⟩; rw [HFO.out])
    all_goals (try go_wp2_with fail)
    refine hK.out _ _ ?_ (fun hHeld => ?_)
    · (repeat (first | exact Below.refl _ _ | assumption | (refine bel_call ?_ (by assumption)) | (refine bel_alloc ?_ _) | (refine Below.drew ?_) | (refine bel_drewN ?_ _)))
    clear hK K
    (try simp only [Act.put, List.setIfInBounds_toArray, List.set_cons_zero, List.set_cons_succ])
    refine' wpAnyH_take (i := 23) (oi := ?oi24) (v := ?v24) ?hi24 ?hs24 ?hf24 ?hr24 ?hQ24 ?hy24 ?hS24 ?rest24
    case hi24 => (simp only [List.getElem?_toArray, List.getElem?_cons_succ, List.getElem?_cons_zero]; rfl)
    case hs24 => kernel_rfl
    case hf24 => kernel_rfl
    case hr24 => kernel_rfl
    case hQ24 => exact fun _ _ _ h => h
    case hS24 => assumption
    case hy24 => (refine Or.inl ⟨by rfl, ?_⟩; intro w hSw; (try dsimp only at hSw); go_simp; all_goals with_reducible rfl)
    (try simp only [Act.put, List.setIfInBounds_toArray, List.set_cons_zero, List.set_cons_succ])
    refine' wpAnyH_take (i := 24) (oi := ?oi25) (v := ?v25) ?hi25 ?hs25 ?hf25 ?hr25 ?hQ25 ?hy25 ?hS25 ?rest25
    case hi25 => (simp only [List.getElem?_toArray, List.getElem?_cons_succ, List.getElem?_cons_zero]; rfl)
    case hs25 => kernel_rfl
    case hf25 => kernel_rfl
    case hr25 => kernel_rfl
    case hQ25 => exact fun _ _ _ h => h
    case hS25 => assumption
    case hy25 => (refine Or.inl ⟨by rfl, ?_⟩; intro w hSw; (try dsimp only at hSw); go_simp; all_goals with_reducible rfl)
    (try simp only [Act.put, List.setIfInBounds_toArray, List.set_cons_zero, List.set_cons_succ])
    refine' wpAnyH_take (i := 25) (oi := ?oi26) (v := .agg (syA (lessG g) newQ)) ?hi26 ?hs26 ?hf26 ?hr26 ?hQ26 ?hy26 ?hS26 ?rest26
    case hi26 => (simp only [List.getElem?_toArray, List.getElem?_cons_succ, List.getElem?_cons_zero]; rfl)
    case hs26 => kernel_rfl
    case hf26 => kernel_rfl
    case hr26 => kernel_rfl
    case hQ26 => exact fun _ _ _ h => h
    case hS26 => assumption
    case hy26 => exact yieldsIf_load_mid (by rfl) _ _ rfl _ 0 rfl ((syA (lessG g) newQ)).toList _ (fun w hSw => HYl.out w hSw) Try.underlying40 rfl (by rw [Array.length_toList]; exact syA_info_v _ _)
    (try simp only [Act.put, List.setIfInBounds_toArray, List.set_cons_zero, List.set_cons_succ])
    refine' wpAnyH_take (i := 26) (oi := ?oi27) (v := .agg (syA g q)) ?hi27 ?hs27 ?hf27 ?hr27 ?hQ27 ?hy27 ?hS27 ?rest27
    case hi27 => (simp only [List.getElem?_toArray, List.getElem?_cons_succ, List.getElem?_cons_zero]; rfl)
    case hs27 => kernel_rfl
    case hf27 => kernel_rfl
    case hr27 => kernel_rfl
    case hQ27 => exact fun _ _ _ h => h
    case hS27 => assumption
    case hy27 => exact yieldsIf_load_mid (by rfl) _ _ rfl _ 0 rfl ((syA g q)).toList _ (fun w hSw => HYs.out w hSw) Try.underlying40 rfl (by rw [Array.length_toList]; exact syA_info_v _ _)
    (try simp only [Act.put, List.setIfInBounds_toArray, List.set_cons_zero, List.set_cons_succ])
    refine wpAnyH_ready (rs := [27]) (by kernel_rfl) (by simp) ?_
    refine' AllReadyH.cons (o := ?oi28) ?hi28 (fun K hK => ?step28) AllReadyH.nil
    case hi28 => (simp only [List.getElem?_toArray, List.getElem?_cons_succ, List.getElem?_cons_zero]; rfl)
    rw [if_pos (by rfl)]
    go_simp
    (go_at_call 67; refine (styleLess_s g q _).mono ?_; rintro e w' ⟨rfl, hb⟩)
    all_goals (try go_wp2_with fail)
    refine hK.out _ _ ?_ (fun hHeld => ?_)
    · (repeat (first | exact Below.refl _ _ | assumption | (refine bel_call ?_ (by assumption)) | (refine bel_alloc ?_ _) | (refine Below.drew ?_) | (refine bel_drewN ?_ _)))
    clear hK K
    (try simp only [Act.put, List.setIfInBounds_toArray, List.set_cons_zero, List.set_cons_succ])
    refine' wpAnyH_take (i := 28) (oi := ?oi29) (v := .bool true) ?hi29 ?hs29 ?hf29 ?hr29 ?hQ29 ?hy29 ?hS29 ?rest29
    case hi29 => (simp only [List.getElem?_toArray, List.getElem?_cons_succ, List.getElem?_cons_zero]; rfl)
    case hs29 => kernel_rfl
    case hf29 => kernel_rfl
    case hr29 => kernel_rfl
    case hQ29 => exact fun _ _ _ h => h
    case hS29 => assumption
    case hy29 => exact Or.inl ⟨by rfl, fun w _ => exec_eqYY rfl rfl⟩
    (try simp only [Act.put, List.setIfInBounds_toArray, List.set_cons_zero, List.set_cons_succ])
    refine' wpAnyH_take (i := 29) (oi := ?oi30) (v := ?v30) ?hi30 ?hs30 ?hf30 ?hr30 ?hQ30 ?hy30 ?hS30 ?rest30
    case hi30 => (simp only [List.getElem?_toArray, List.getElem?_cons_succ, List.getElem?_cons_zero]; rfl)
    case hs30 => kernel_rfl
    case hf30 => kernel_rfl
    case hr30 => kernel_rfl
    case hQ30 => exact fun _ _ _ h => h
    case hS30 => assumption
    case hy30 => (refine Or.inl ⟨by rfl, ?_⟩; intro w hSw; (try dsimp only at hSw); go_simp; all_goals with_reducible rfl)
    (try simp only [Act.put, List.setIfInBounds_toArray, List.set_cons_zero, List.set_cons_succ])
    refine' wpAnyH_take (i := 30) (oi := ?oi31) (v := ?v31) ?hi31 ?hs31 ?hf31 ?hr31 ?hQ31 ?hy31 ?hS31 ?rest31
    case hi31 => (simp only [List.getElem?_toArray, List.getElem?_cons_succ, List.getElem?_cons_zero]; rfl)
    case hs31 => kernel_rfl
    case hf31 => kernel_rfl
    case hr31 => kernel_rfl
    case hQ31 => exact fun _ _ _ h => h
    case hS31 => assumption
    case hy31 => (refine Or.inl ⟨by rfl, ?_⟩; intro w hSw; (try dsimp only at hSw); go_simp; all_goals with_reducible rfl)
    (try simp only [Act.put, List.setIfInBounds_toArray, List.set_cons_zero, List.set_cons_succ])
    refine' wpAnyH_take (i := 31) (oi := ?oi32) (v := .agg (syA (lessG g) newQ)) ?hi32 ?hs32 ?hf32 ?hr32 ?hQ32 ?hy32 ?hS32 ?rest32
    case hi32 => (simp only [List.getElem?_toArray, List.getElem?_cons_succ, List.getElem?_cons_zero]; rfl)
    case hs32 => kernel_rfl
    case hf32 => kernel_rfl
    case hr32 => kernel_rfl
    case hQ32 => exact fun _ _ _ h => h
    case hS32 => assumption
    case hy32 => exact yieldsIf_load_mid (by rfl) _ _ rfl _ 0 rfl ((syA (lessG g) newQ)).toList _ (fun w hSw => HYl.out w hSw) Try.underlying40 rfl (by rw [Array.length_toList]; exact syA_info_v _ _)
    (try simp only [Act.put, List.setIfInBounds_toArray, List.set_cons_zero, List.set_cons_succ])
    refine' wpAnyH_take (i := 33) (oi := ?oi33) (v := .agg (syA (lessG g) newQ)) ?hi33 ?hs33 ?hf33 ?hr33 ?hQ33 ?hy33 ?hS33 ?rest33
    case hi33 => (simp only [List.getElem?_toArray, List.getElem?_cons_succ, List.getElem?_cons_zero]; rfl)
    case hs33 => kernel_rfl
    case hf33 => kernel_rfl
    case hr33 => kernel_rfl
    case hQ33 => exact fun _ _ _ h => h
    case hS33 => assumption
    case hy33 => exact yieldsIf_load_mid (by rfl) _ _ rfl _ 0 rfl ((syA (lessG g) newQ)).toList _ (fun w hSw => HYl.out w hSw) Try.underlying40 rfl (by rw [Array.length_toList]; exact syA_info_v _ _)
    (try simp only [Act.put, List.setIfInBounds_toArray, List.set_cons_zero, List.set_cons_succ])
    refine wpAnyH_ready (rs := [32]) (by kernel_rfl) (by simp) ?_
    refine' AllReadyH.cons (o := ?oi34) ?hi34 (fun K hK => ?step34) AllReadyH.nil
    case hi34 => (simp only [List.getElem?_toArray, List.getElem?_cons_succ, List.getElem?_cons_zero]; rfl)
    rw [if_pos (by rfl)]
    go_simp
    (go_at_call 61; refine (styleLess_i (lessG g) newQ _).mono ?_; rintro e w' ⟨rfl, hb⟩; rw [HLL.out])
    all_goals (try go_wp2_with fail)
    refine hK.out _ _ ?_ (fun hHeld => ?_)
    · (repeat (first | exact Below.refl _ _ | assumption | (refine bel_call ?_ (by assumption)) | (refine bel_alloc ?_ _) | (refine Below.drew ?_) | (refine bel_drewN ?_ _)))
    clear hK K
    (try simp only [Act.put, List.setIfInBounds_toArray, List.set_cons_zero, List.set_cons_succ])
    refine' wpAnyH_take (i := 34) (oi := ?oi35) (v := .bool true) ?hi35 ?hs35 ?hf35 ?hr35 ?hQ35 ?hy35 ?hS35 ?rest35
    case hi35 => (simp only [List.getElem?_toArray, List.getElem?_cons_succ, List.getElem?_cons_zero]; rfl)
    case hs35 => kernel_rfl
    case hf35 => kernel_rfl
    case hr35 => kernel_rfl
    case hQ35 => exact fun _ _ _ h => h
    case hS35 => assumption
    case hy35 => exact Or.inl ⟨by rfl, fun w _ => exec_eqYY rfl rfl⟩
    (try simp only [Act.put, List.setIfInBounds_toArray, List.set_cons_zero, List.set_cons_succ])
    refine' wpAnyH_take (i := 35) (oi := ?oi36) (v := ?v36) ?hi36 ?hs36 ?hf36 ?hr36 ?hQ36 ?hy36 ?hS36 ?rest36
    case hi36 => (simp only [List.getElem?_toArray, List.getElem?_cons_succ, List.getElem?_cons_zero]; rfl)
    case hs36 => kernel_rfl
    case hf36 => kernel_rfl
    case hr36 => kernel_rfl
    case hQ36 => exact fun _ _ _ h => h
    case hS36 => assumption
    case hy36 => (refine Or.inl ⟨by rfl, ?_⟩; intro w hSw; (try dsimp only at hSw); go_simp; all_goals with_reducible rfl)
    (try simp only [Act.put, List.setIfInBounds_toArray, List.set_cons_zero, List.set_cons_succ])
    refine' wpAnyH_take (i := 36) (oi := ?oi37) (v := ?v37) ?hi37 ?hs37 ?hf37 ?hr37 ?hQ37 ?hy37 ?hS37 ?rest37
    case hi37 => (simp only [List.getElem?_toArray, List.getElem?_cons_succ, List.getElem?_cons_zero]; rfl)
    case hs37 => kernel_rfl
    case hf37 => kernel_rfl
    case hr37 => kernel_rfl
    case hQ37 => exact fun _ _ _ h => h
    case hS37 => assumption
    case hy37 => (refine Or.inl ⟨by rfl, ?_⟩; intro w hSw; (try dsimp only at hSw); go_simp; all_goals with_reducible rfl)
    (try simp only [Act.put, List.setIfInBounds_toArray, List.set_cons_zero, List.set_cons_succ])
    refine' wpAnyH_take (i := 37) (oi := ?oi38) (v := .agg (syA g q)) ?hi38 ?hs38 ?hf38 ?hr38 ?hQ38 ?hy38 ?hS38 ?rest38
    case hi38 => (simp only [List.getElem?_toArray, List.getElem?_cons_succ, List.getElem?_cons_zero]; rfl)
    case hs38 => kernel_rfl
    case hf38 => kernel_rfl
    case hr38 => kernel_rfl
    case hQ38 => exact fun _ _ _ h => h
    case hS38 => assumption
    case hy38 => exact yieldsIf_load_mid (by rfl) _ _ rfl _ 0 rfl ((syA g q)).toList _ (fun w hSw => HYs.out w hSw) Try.underlying40 rfl (by rw [Array.length_toList]; exact syA_info_v _ _)
    (try simp only [Act.put, List.setIfInBounds_toArray, List.set_cons_zero, List.set_cons_succ])
    refine' wpAnyH_take (i := 39) (oi := ?oi39) (v := .agg (syA g q)) ?hi39 ?hs39 ?hf39 ?hr39 ?hQ39 ?hy39 ?hS39 ?rest39
    case hi39 => (simp only [List.getElem?_toArray, List.getElem?_cons_succ, List.getElem?_cons_zero]; rfl)
    case hs39 => kernel_rfl
    case hf39 => kernel_rfl
    case hr39 => kernel_rfl
    case hQ39 => exact fun _ _ _ h => h
    case hS39 => assumption
    case hy39 => exact yieldsIf_load_mid (by rfl) _ _ rfl _ 0 rfl ((syA g q)).toList _ (fun w hSw => HYs.out w hSw) Try.underlying40 rfl (by rw [Array.length_toList]; exact syA_info_v _ _)
    (try simp only [Act.put, List.setIfInBounds_toArray, List.set_cons_zero, List.set_cons_succ])
    refine wpAnyH_ready (rs := [38]) (by kernel_rfl) (by simp) ?_
    refine' AllReadyH.cons (o := ?oi40) ?hi40 (fun K hK => ?step40) AllReadyH.nil
    case hi40 => (simp only [List.getElem?_toArray, List.getElem?_cons_succ, List.getElem?_cons_zero]; rfl)
    rw [if_pos (by rfl)]
    go_simp
    (go_at_call 68; refine (gapOf_i g q true _).mono ?_; rintro e w' ⟨rfl, hb⟩)
    all_goals (try go_wp2_with fail)
    refine hK.out _ _ ?_ (fun hHeld => ?_)
    · (repeat (first | exact Below.refl _ _ | assumption | (refine bel_call ?_ (by assumption)) | (refine bel_alloc ?_ _) | (refine Below.drew ?_) | (refine bel_drewN ?_ _)))
    clear hK K
    (try simp only [Act.put, List.setIfInBounds_toArray, List.set_cons_zero, List.set_cons_succ])
    refine wpAnyH_ready (rs := [40]) (by kernel_rfl) (by simp) ?_
    refine' AllReadyH.cons (o := ?oi41) ?hi41 (fun K hK => ?step41) AllReadyH.nil
    case hi41 => (simp only [List.getElem?_toArray, List.getElem?_cons_succ, List.getElem?_cons_zero]; rfl)
    rw [if_pos (by rfl)]
    go_simp
    (go_at_call 69; refine (gapOf_s g q true _).mono ?_; rintro e w' ⟨rfl, hb⟩)
    all_goals (try go_wp2_with fail)
    refine hK.out _ _ ?_ (fun hHeld => ?_)
    · (repeat (first | exact Below.refl _ _ | assumption | (refine bel_call ?_ (by assumption)) | (refine bel_alloc ?_ _) | (refine Below.drew ?_) | (refine bel_drewN ?_ _)))
    clear hK K
    (try simp only [Act.put, List.setIfInBounds_toArray, List.set_cons_zero, List.set_cons_succ])
    refine' wpAnyH_take (i := 41) (oi := ?oi42) (v := ?v42) ?hi42 ?hs42 ?hf42 ?hr42 ?hQ42 ?hy42 ?hS42 ?rest42
    case hi42 => (simp only [List.getElem?_toArray, List.getElem?_cons_succ, List.getElem?_cons_zero]; rfl)
    case hs42 => kernel_rfl
    case hf42 => kernel_rfl
    case hr42 => kernel_rfl
    case hQ42 => exact fun _ _ _ h => h
    case hS42 => assumption
    case hy42 => (refine Or.inl ⟨by rfl, ?_⟩; intro w hSw; (try dsimp only at hSw); go_simp; all_goals with_reducible rfl)
    (try simp only [Act.put, List.setIfInBounds_toArray, List.set_cons_zero, List.set_cons_succ])
    refine' wpAnyH_take (i := 42) (oi := ?oi43) (v := ?v43) ?hi43 ?hs43 ?hf43 ?hr43 ?hQ43 ?hy43 ?hS43 ?rest43
    case hi43 => (simp only [List.getElem?_toArray, List.getElem?_cons_succ, List.getElem?_cons_zero]; rfl)
    case hs43 => kernel_rfl
    case hf43 => kernel_rfl
    case hr43 => kernel_rfl
    case hQ43 => exact fun _ _ _ h => h
    case hS43 => assumption
    case hy43 => (refine Or.inl ⟨by rfl, ?_⟩; intro w hSw; (try dsimp only at hSw); go_simp; all_goals with_reducible rfl)
    (try simp only [Act.put, List.setIfInBounds_toArray, List.set_cons_zero, List.set_cons_succ])
    refine' wpAnyH_take (i := 43) (oi := ?oi44) (v := ?v44) ?hi44 ?hs44 ?hf44 ?hr44 ?hQ44 ?hy44 ?hS44 ?rest44
    case hi44 => (simp only [List.getElem?_toArray, List.getElem?_cons_succ, List.getElem?_cons_zero]; rfl)
    case hs44 => kernel_rfl
    case hf44 => kernel_rfl
    case hr44 => kernel_rfl
    case hQ44 => exact fun _ _ _ h => h
    case hS44 => assumption
    case hy44 => (refine Or.inl ⟨by rfl, ?_⟩; intro w hSw; (try dsimp only at hSw); go_simp; all_goals with_reducible rfl)
    (try simp only [Act.put, List.setIfInBounds_toArray, List.set_cons_zero, List.set_cons_succ])
    refine' wpAnyH_take (i := 44) (oi := ?oi45) (v := .agg (syA g q)) ?hi45 ?hs45 ?hf45 ?hr45 ?hQ45 ?hy45 ?hS45 ?rest45
    case hi45 => (simp only [List.getElem?_toArray, List.getElem?_cons_succ, List.getElem?_cons_zero]; rfl)
    case hs45 => kernel_rfl
    case hf45 => kernel_rfl
    case hr45 => kernel_rfl
    case hQ45 => exact fun _ _ _ h => h
    case hS45 => assumption
    case hy45 => exact yieldsIf_load_mid (by rfl) _ _ rfl _ 0 rfl ((syA g q)).toList _ (fun w hSw => HYs.out w hSw) Try.underlying40 rfl (by rw [Array.length_toList]; exact syA_info_v _ _)
    (try simp only [Act.put, List.setIfInBounds_toArray, List.set_cons_zero, List.set_cons_succ])
    refine' wpAnyH_take (i := 46) (oi := ?oi46) (v := .agg (syA g q)) ?hi46 ?hs46 ?hf46 ?hr46 ?hQ46 ?hy46 ?hS46 ?rest46
    case hi46 => (simp only [List.getElem?_toArray, List.getElem?_cons_succ, List.getElem?_cons_zero]; rfl)
    case hs46 => kernel_rfl
    case hf46 => kernel_rfl
    case hr46 => kernel_rfl
    case hQ46 => exact fun _ _ _ h => h
    case hS46 => assumption
    case hy46 => exact yieldsIf_load_mid (by rfl) _ _ rfl _ 0 rfl ((syA g q)).toList _ (fun w hSw => HYs.out w hSw) Try.underlying40 rfl (by rw [Array.length_toList]; exact syA_info_v _ _)
    (try simp only [Act.put, List.setIfInBounds_toArray, List.set_cons_zero, List.set_cons_succ])
    refine wpAnyH_ready (rs := [45]) (by kernel_rfl) (by simp) ?_
    refine' AllReadyH.cons (o := ?oi47) ?hi47 (fun K hK => ?step47) AllReadyH.nil
    case hi47 => (simp only [List.getElem?_toArray, List.getElem?_cons_succ, List.getElem?_cons_zero]; rfl)
    rw [if_pos (by rfl)]
    go_simp
    (go_at_call 68; refine (gapOf_i g q false _).mono ?_; rintro e w' ⟨rfl, hb⟩)
    all_goals (try go_wp2_with fail)
    refine hK.out _ _ ?_ (fun hHeld => ?_)
    · (repeat (first | exact Below.refl _ _ | assumption | (refine bel_call ?_ (by assumption)) | (refine bel_alloc ?_ _) | (refine Below.drew ?_) | (refine bel_drewN ?_ _)))
    clear hK K
    (try simp only [Act.put, List.setIfInBounds_toArray, List.set_cons_zero, List.set_cons_succ])
    refine wpAnyH_ready (rs := [47]) (by kernel_rfl) (by simp) ?_
    refine' AllReadyH.cons (o := ?oi48) ?hi48 (fun K hK => ?step48) AllReadyH.nil
    case hi48 => (simp only [List.getElem?_toArray, List.getElem?_cons_succ, List.getElem?_cons_zero]; rfl)
    rw [if_pos (by rfl)]
    go_simp
    (go_at_call 69; refine (gapOf_s g q false _).mono ?_; rintro e w' ⟨rfl, hb⟩)
    all_goals (try go_wp2_with fail)
    refine hK.out _ _ ?_ (fun hHeld => ?_)
    · (repeat (first | exact Below.refl _ _ | assumption | (refine bel_call ?_ (by assumption)) | (refine bel_alloc ?_ _) | (refine Below.drew ?_) | (refine bel_drewN ?_ _)))
    clear hK K
    (try simp only [Act.put, List.setIfInBounds_toArray, List.set_cons_zero, List.set_cons_succ])
    refine' wpAnyH_take (i := 48) (oi := ?oi49) (v := ?v49) ?hi49 ?hs49 ?hf49 ?hr49 ?hQ49 ?hy49 ?hS49 ?rest49
    case hi49 => (simp only [List.getElem?_toArray, List.getElem?_cons_succ, List.getElem?_cons_zero]; rfl)
    case hs49 => kernel_rfl
    case hf49 => kernel_rfl
    case hr49 => kernel_rfl
    case hQ49 => exact fun _ _ _ h => h
    case hS49 => assumption
    case hy49 => (refine Or.inl ⟨by rfl, ?_⟩; intro w hSw; (try dsimp only at hSw); go_simp; all_goals with_reducible rfl)
    (try simp only [Act.put, List.setIfInBounds_toArray, List.set_cons_zero, List.set_cons_succ])
    refine' wpAnyH_take (i := 49) (oi := ?oi50) (v := ?v50) ?hi50 ?hs50 ?hf50 ?hr50 ?hQ50 ?hy50 ?hS50 ?rest50
    case hi50 => (simp only [List.getElem?_toArray, List.getElem?_cons_succ, List.getElem?_cons_zero]; rfl)
    case hs50 => kernel_rfl
    case hf50 => kernel_rfl
    case hr50 => kernel_rfl
    case hQ50 => exact fun _ _ _ h => h
    case hS50 => assumption
    case hy50 => (refine Or.inl ⟨by rfl, ?_⟩; intro w hSw; (try dsimp only at hSw); go_simp; all_goals with_reducible rfl)
    (try simp only [Act.put, List.setIfInBounds_toArray, List.set_cons_zero, List.set_cons_succ])
    refine' wpAnyH_take (i := 50) (oi := ?oi51) (v := ?v51) ?hi51 ?hs51 ?hf51 ?hr51 ?hQ51 ?hy51 ?hS51 ?rest51
    case hi51 => (simp only [List.getElem?_toArray, List.getElem?_cons_succ, List.getElem?_cons_zero]; rfl)
    case hs51 => kernel_rfl
    case hf51 => kernel_rfl
    case hr51 => kernel_rfl
    case hQ51 => exact fun _ _ _ h => h
    case hS51 => assumption
    case hy51 => (refine Or.inl ⟨by rfl, ?_⟩; intro w hSw; (try dsimp only at hSw); go_simp; all_goals with_reducible rfl)
    (try simp only [Act.put, List.setIfInBounds_toArray, List.set_cons_zero, List.set_cons_succ])
    refine' wpAnyH_take (i := 51) (oi := ?oi52) (v := .agg (syA g7 q7)) ?hi52 ?hs52 ?hf52 ?hr52 ?hQ52 ?hy52 ?hS52 ?rest52
    case hi52 => (simp only [List.getElem?_toArray, List.getElem?_cons_succ, List.getElem?_cons_zero]; rfl)
    case hs52 => kernel_rfl
    case hf52 => kernel_rfl
    case hr52 => kernel_rfl
    case hQ52 => exact fun _ _ _ h => h
    case hS52 => assumption
    case hy52 => exact yieldsIf_load_mid (by rfl) _ _ rfl _ 0 rfl ((syA g7 q7)).toList _ (fun w hSw => HYa.out w hSw) Try.underlying40 rfl (by rw [Array.length_toList]; exact syA_info_v _ _)
    (try simp only [Act.put, List.setIfInBounds_toArray, List.set_cons_zero, List.set_cons_succ])
    refine' wpAnyH_take (i := 52) (oi := ?oi53) (v := .agg (syA g8 q8)) ?hi53 ?hs53 ?hf53 ?hr53 ?hQ53 ?hy53 ?hS53 ?rest53
    case hi53 => (simp only [List.getElem?_toArray, List.getElem?_cons_succ, List.getElem?_cons_zero]; rfl)
    case hs53 => kernel_rfl
    case hf53 => kernel_rfl
    case hr53 => kernel_rfl
    case hQ53 => exact fun _ _ _ h => h
    case hS53 => assumption
    case hy53 => exact yieldsIf_load_mid (by rfl) _ _ rfl _ 0 rfl ((syA g8 q8)).toList _ (fun w hSw => HYb.out w hSw) Try.underlying40 rfl (by rw [Array.length_toList]; exact syA_info_v _ _)
    (try simp only [Act.put, List.setIfInBounds_toArray, List.set_cons_zero, List.set_cons_succ])
    refine' wpAnyH_take (i := 54) (oi := ?oi54) (v := .agg (syA g7 q7)) ?hi54 ?hs54 ?hf54 ?hr54 ?hQ54 ?hy54 ?hS54 ?rest54
    case hi54 => (simp only [List.getElem?_toArray, List.getElem?_cons_succ, List.getElem?_cons_zero]; rfl)
    case hs54 => kernel_rfl
    case hf54 => kernel_rfl
    case hr54 => kernel_rfl
    case hQ54 => exact fun _ _ _ h => h
    case hS54 => assumption
    case hy54 => exact yieldsIf_load_mid (by rfl) _ _ rfl _ 0 rfl ((syA g7 q7)).toList _ (fun w hSw => HYa.out w hSw) Try.underlying40 rfl (by rw [Array.length_toList]; exact syA_info_v _ _)
    (try simp only [Act.put, List.setIfInBounds_toArray, List.set_cons_zero, List.set_cons_succ])
    refine' wpAnyH_take (i := 55) (oi := ?oi55) (v := .agg (syA g8 q8)) ?hi55 ?hs55 ?hf55 ?hr55 ?hQ55 ?hy55 ?hS55 ?rest55
    case hi55 => (simp only [List.getElem?_toArray, List.getElem?_cons_succ, List.getElem?_cons_zero]; rfl)
    case hs55 => kernel_rfl
    case hf55 => kernel_rfl
    case hr55 => kernel_rfl
    case hQ55 => exact fun _ _ _ h => h
    case hS55 => assumption
    case hy55 => exact yieldsIf_load_mid (by rfl) _ _ rfl _ 0 rfl ((syA g8 q8)).toList _ (fun w hSw => HYb.out w hSw) Try.underlying40 rfl (by rw [Array.length_toList]; exact syA_info_v _ _)
    (try simp only [Act.put, List.setIfInBounds_toArray, List.set_cons_zero, List.set_cons_succ])
    refine' wpAnyH_take (i := 56) (oi := ?oi56) (v := .bool (sameB g7 q7 g8 q8)) ?hi56 ?hs56 ?hf56 ?hr56 ?hQ56 ?hy56 ?hS56 ?rest56
    case hi56 => (simp only [List.getElem?_toArray, List.getElem?_cons_succ, List.getElem?_cons_zero]; rfl)
    case hs56 => kernel_rfl
    case hf56 => kernel_rfl
    case hr56 => kernel_rfl
    case hQ56 => exact fun _ _ _ h => h
    case hS56 => assumption
    case hy56 => exact Or.inl ⟨by rfl, fun w _ => exec_eqY rfl rfl⟩
    (try simp only [Act.put, List.setIfInBounds_toArray, List.set_cons_zero, List.set_cons_succ])
    refine wpAnyH_ready (rs := [53]) (by kernel_rfl) (by simp) ?_
    refine' AllReadyH.cons (o := ?oi57) ?hi57 (fun K hK => ?step57) AllReadyH.nil
    case hi57 => (simp only [List.getElem?_toArray, List.getElem?_cons_succ, List.getElem?_cons_zero]; rfl)
    rw [if_pos (by rfl)]
    go_simp
    (go_at_call 70; refine (sameStyle_i g7 q7 g8 q8 _).mono ?_; rintro e w' ⟨rfl, hb⟩)
    all_goals (try go_wp2_with fail)
    refine hK.out _ _ ?_ (fun hHeld => ?_)
    · (repeat (first | exact Below.refl _ _ | assumption | (refine bel_call ?_ (by assumption)) | (refine bel_alloc ?_ _) | (refine Below.drew ?_) | (refine bel_drewN ?_ _)))
    clear hK K
    (try simp only [Act.put, List.setIfInBounds_toArray, List.set_cons_zero, List.set_cons_succ])
    refine' wpAnyH_take (i := 57) (oi := ?oi58) (v := ?v58) ?hi58 ?hs58 ?hf58 ?hr58 ?hQ58 ?hy58 ?hS58 ?rest58
    case hi58 => (simp only [List.getElem?_toArray, List.getElem?_cons_succ, List.getElem?_cons_zero]; rfl)
    case hs58 => kernel_rfl
    case hf58 => kernel_rfl
    case hr58 => kernel_rfl
    case hQ58 => exact fun _ _ _ h => h
    case hS58 => assumption
    case hy58 => (refine Or.inl ⟨by rfl, ?_⟩; intro w hSw; (try dsimp only at hSw); go_simp; all_goals with_reducible rfl)
    (try simp only [Act.put, List.setIfInBounds_toArray, List.set_cons_zero, List.set_cons_succ])
    refine' wpAnyH_take (i := 58) (oi := ?oi59) (v := ?v59) ?hi59 ?hs59 ?hf59 ?hr59 ?hQ59 ?hy59 ?hS59 ?rest59
    case hi59 => (simp only [List.getElem?_toArray, List.getElem?_cons_succ, List.getElem?_cons_zero]; rfl)
    case hs59 => kernel_rfl
    case hf59 => kernel_rfl
    case hr59 => kernel_rfl
    case hQ59 => exact fun _ _ _ h => h
    case hS59 => assumption
    case hy59 => (refine Or.inl ⟨by rfl, ?_⟩; intro w hSw; (try dsimp only at hSw); go_simp; all_goals with_reducible rfl)
    (try simp only [Act.put, List.setIfInBounds_toArray, List.set_cons_zero, List.set_cons_succ])
    refine' wpAnyH_take (i := 59) (oi := ?oi60) (v := ?v60) ?hi60 ?hs60 ?hf60 ?hr60 ?hQ60 ?hy60 ?hS60 ?rest60
    case hi60 => (simp only [List.getElem?_toArray, List.getElem?_cons_succ, List.getElem?_cons_zero]; rfl)
    case hs60 => kernel_rfl
    case hf60 => kernel_rfl
    case hr60 => kernel_rfl
    case hQ60 => exact fun _ _ _ h => h
    case hS60 => assumption
    case hy60 => (refine Or.inl ⟨by rfl, ?_⟩; intro w hSw; (try dsimp only at hSw); go_simp; all_goals with_reducible rfl)
    (try simp only [Act.put, List.setIfInBounds_toArray, List.set_cons_zero, List.set_cons_succ])
    refine wpAnyH_done (by kernel_rfl) ?_ _
    go_wp2
    go_ret
    exact ⟨rfl, bel_call HL.out.bel hHeld⟩
  · have hbig : (1048576 : Int) < ↑l.length := by omega
    go_enter Try.func7, Try.ntmps7
    go_wp2_with ((go_at_call 8; refine (big_l _ _ _ _).mono ?_; rintro e w' ⟨rfl, rfl⟩))
    go_ret
    exact ⟨rfl, Below.refl _ _⟩
set_option maxRecDepth 100000 in
theorem FnStyles_lifted (os : Os) (started : os.Started) (H : Type) (enc : TypeId × Value → H) :
    ReturnsInHanded {} Try.checked os 7 .any (Rows.fnStylesSpec.pre6 enc Try.prog Try.f7 Rows.fnStylesRow.domain false) (Rows.fnStylesSpec.post enc Try.prog Try.f7 false true false false) := by
  refine returnsInHanded_of_change (C := Try.checked) own started (by kernel_rfl) Try.func7
    (ChangeSpec.witness6 (enc := enc) (C := Try.checked) false ⟨#[], #[.slice none 0 0], []⟩ 8 (by kernel_rfl) (by kernel_rfl) (by kernel_rfl) (by kernel_rfl)) ?_
  intro W base args ds gs before hval0 hW hcnd _
  have hval : ∀ (j : Nat) t v, Try.f7.params[j]? = some t → args[j]? = some v → Value.okWide Try.prog W .any base t v := hval0
  have hW' := hW
  obtain ⟨p, q, hA0, hV, rfl, hfz, hnd⟩ := hW
  have hA : DataW.TrodAll enc Try.prog W 0 (fun _ => true) true Try.f7.params.toList args.toList ds p := hA0
  rw [Try.params7] at hA hval
  obtain ⟨v0, vs0, d0, ds0, p0, q0, hargs, rfl, rfl, h0, r0⟩ := trodAll_cons hA
  obtain ⟨rfl, rfl, rfl⟩ := trodAll_nil r0
  obtain rfl : args = #[v0] := by cases args; simp_all
  obtain ⟨rfl, rfl⟩ := trodVars_none hV
  have k0 := h0
  have lt0 : ∀ x ∈ p0, x.block < W.heap.size := by obtain ⟨m, hm⟩ := k0; exact DataW.trod_lt m _ _ _ hm
  obtain ⟨b0, len0, cap0, rfl⟩ := okWide_slice Try.underlying22 (hval 0 22 v0 rfl rfl)
  obtain ⟨z0, w0⟩ : ∃ zs, IsRow .u8 W b0 len0 cap0 zs := by
    obtain ⟨fuel, hf⟩ := h0
    rcases open_ints Try.underlying22 Try.underlying5 (by kernel_rfl) hf with ⟨hcs, _⟩ | ⟨x, l, c, zs, hcs, _, hl, hm, hz, _, hcell, hwz⟩
    · simp [Value.cells] at hcs
      obtain ⟨rfl, rfl, rfl⟩ := hcs
      exact ⟨[], .inl ⟨rfl, rfl, rfl, rfl⟩⟩
    · simp [Value.cells] at hcs
      obtain ⟨rfl, rfl, rfl⟩ := hcs
      exact ⟨zs, .inr ⟨_, rfl, hl, hm, by simpa using hz, hcell, hwz⟩⟩
  clear hA0 hval0
  refine (law_FnStyles b0 len0 cap0 z0 W w0).mono fun e W' ⟨he, bel⟩ => ?_
  subst he
  exact ⟨_, rfl, _, _, _, [], _, [], hW', trodAll_mk1 (shut_bool Try.underlying4 _), (trodAll_cons_mk (Below.trod laidOut (by kernel_rfl) (of_decide_eq_true (by kernel_rfl)) k0 bel lt0) trodAll_mk0), rfl, bel.frame _, fun h => by cases h⟩

/-- The law 'FnStyles' returns true for every input, and each argument reads afterwards as it read before. -/
theorem FnStyles_holds : Rows.FnStylesSaid :=
  OpenClaim.holds_of_wide 7 Try.f7 rfl rfl rfl rfl rfl rfl rfl ⟨rfl, rfl, rfl, rfl, rfl⟩ rfl rfl rfl rfl rfl (by kernel_rfl) Try.func7 (by kernel_rfl)
    (of_decide_eq_true (by kernel_rfl)) (by unfold Func.isWrapper; first | (rw [if_pos (by decide +kernel)]; kernel_rfl) | (rw [if_neg (by decide +kernel)]; exact ⟨rfl, rfl⟩))
    (fun os started H enc _ => FnStyles_lifted os started H enc)
#print axioms FnStyles_holds

end Go.Proofs.Ytcmanaklojomeaa
