/- The draw of two styles, often the same. No condition. -/
import Derived.Test.YtcmanaklojomeaaDrawTop2
namespace Go.Proofs.Ytcmanaklojomeaa
open Go.RowKit Go.Deep
set_option linter.unusedVariables false
set_option maxRecDepth 20000
theorem range_of {W : World} {b : Nat} {C : Array Value} {T : TypeId} (h : W.heap[b]? = some (.cells C T (0, 0))) : W.rangeAt b 0 C.toList := fun j v hj => by
  rw [Nat.zero_add, Joins.cell_of_block h]
  simpa using hj
theorem S_lay {w W : World} {L : Bxs} {b b5 : Nat} {T : TypeId} {ks : List Bool} {o : Obj} (h : Rs w L W ∧ W.heap[b5]? = some o) (hm : (b, T, ks) ∈ L) (hne : b5 ≠ b) {D : Array Value} (hD : Shp ks D) :
    Rs w L (W.setCells b 0 D.toList) ∧ (W.setCells b 0 D.toList).heap[b5]? = some o :=
  ⟨h.1.lay hm 0 hD (fun j hj => by rw [Nat.zero_add]), ((grown_setCells D.toList 0 (grown_refl W (some b))).block b5 (Array.getElem?_eq_some_iff.1 h.2).1 (by simpa using hne)).trans h.2⟩
set_option maxHeartbeats 6400000 in
theorem drawSameStyle_s (w : World) (a : Option Addr) (cap : Nat) (l : List Int) (hl : l.length ≤ 1048576) (hr : RdB w a l) : Calls Try.prog 62 #[.slice a l.length cap] w (DStyS w) := by
  have HR : Hid (Rs w [] w) := Lib.hid (Rs.start w)
  have HA := Lib.hid hr
  clear hr
  go_enter Try.func62, Try.ntmps62
  go_wp2_with (first | ((fail_if_success (have hh := b2)); refine Rs.alloc_Y HR.out rfl rfl ?_; intro b2 W1 hR; replace HR := Lib.hid hR; clear hR) | (refine Rs.alloc_Y HR.out rfl rfl ?_; intro b3 W1 hR; replace HR := Lib.hid hR; clear hR))
  refine (new_c _ a cap l hl (HA.out.below HR.out.bel)).mono ?_
  rintro e W2 ⟨K, hw, rfl, hd⟩
  have HS : Hid (St K W2 [] W2) := Lib.hid (St.start hd)
  have HW := Lib.hid hw
  have H12 : Hid (W1.heap.size ≤ W2.heap.size) := Lib.hid (cur_bel hw hd).size
  clear hd hw
  go_upto_if 11 with ((first | (go_at_call 82; refine (once_c K _ (by decide) _ (by first | exact HS.out.cur | exact (HS.out.alloc _).cur)).mono ?_; rintro e wS ⟨x, rfl, hg⟩; replace HS := Lib.hid (by first | exact HS.out.next hg | exact (HS.out.alloc _).next hg); clear hg) | (go_at_call 83; refine (l06Any_s K _ (by first | exact HS.out.cur | exact (HS.out.alloc _).cur)).mono ?_; rintro e wS ⟨D, hv, rfl, hg⟩; replace HS := Lib.hid (by first | exact HS.out.next hg | exact (HS.out.alloc _).next hg); clear hg; have HV := Lib.hid hv; clear hv) | (refine St.wp_set HS.out rfl _ _ _ rfl _ _ _ rfl rfl _ _ (by (first | exact List.mem_cons_self | exact List.mem_cons_of_mem _ List.mem_cons_self | exact List.mem_cons_of_mem _ (List.mem_cons_of_mem _ List.mem_cons_self))) (by rfl) (by kernel_rfl) (by (first | assumption | exact wrap_in64 _ | exact ⟨by omega, by omega⟩)) ?_; intro W' hS; replace HS := Lib.hid hS; clear hS) | (refine St.wp_setB HS.out rfl _ _ _ rfl _ _ _ rfl rfl _ _ (by (first | exact List.mem_cons_self | exact List.mem_cons_of_mem _ List.mem_cons_self | exact List.mem_cons_of_mem _ (List.mem_cons_of_mem _ List.mem_cons_self))) (by rfl) (by kernel_rfl) ?_; intro W' hS; replace HS := Lib.hid hS; clear hS) | (refine St.wp_lay HS.out rfl _ _ _ rfl _ _ _ rfl rfl _ _ (by (first | exact List.mem_cons_self | exact List.mem_cons_of_mem _ List.mem_cons_self | exact List.mem_cons_of_mem _ (List.mem_cons_of_mem _ List.mem_cons_self))) _ (by first | exact Hid.out (by assumption) | exact shpZ ksSides | exact shp2 (by (first | assumption | exact wrap_in64 _ | exact ⟨by omega, by omega⟩)) (by (first | assumption | exact wrap_in64 _ | exact ⟨by omega, by omega⟩)) | exact shp4 (by (first | assumption | exact wrap_in64 _ | exact ⟨by omega, by omega⟩)) (by (first | assumption | exact wrap_in64 _ | exact ⟨by omega, by omega⟩)) (by (first | assumption | exact wrap_in64 _ | exact ⟨by omega, by omega⟩)) (by (first | assumption | exact wrap_in64 _ | exact ⟨by omega, by omega⟩))) (by decide) (by decide) (by kernel_rfl) ?_; intro W' hS; replace HS := Lib.hid hS; clear hS) | (refine St.alloc_V HS.out rfl rfl ?_; intro b W' hlt hS; replace HS := Lib.hid hS; clear hS) | (refine St.alloc_E HS.out rfl rfl ?_; intro b W' hlt hS; replace HS := Lib.hid hS; clear hS) | (refine St.alloc_S HS.out rfl rfl ?_; intro b W' hlt hS; replace HS := Lib.hid hS; clear hS) | (refine St.alloc_Y HS.out rfl rfl ?_; intro b W' hlt hS; replace HS := Lib.hid hS; clear hS) | (refine St.load_V HS.out rfl _ rfl _ rfl (by (first | exact List.mem_cons_self | exact List.mem_cons_of_mem _ List.mem_cons_self | exact List.mem_cons_of_mem _ (List.mem_cons_of_mem _ List.mem_cons_self))) ?_; intro D hv; have HV := Lib.hid hv; clear hv) | (refine St.load_E HS.out rfl _ rfl _ rfl (by (first | exact List.mem_cons_self | exact List.mem_cons_of_mem _ List.mem_cons_self | exact List.mem_cons_of_mem _ (List.mem_cons_of_mem _ List.mem_cons_self))) ?_; intro D hv; have HV := Lib.hid hv; clear hv) | (refine St.load_S HS.out rfl _ rfl _ rfl (by (first | exact List.mem_cons_self | exact List.mem_cons_of_mem _ List.mem_cons_self | exact List.mem_cons_of_mem _ (List.mem_cons_of_mem _ List.mem_cons_self))) ?_; intro D hv; have HV := Lib.hid hv; clear hv) | (refine St.load_Y HS.out rfl _ rfl _ rfl (by (first | exact List.mem_cons_self | exact List.mem_cons_of_mem _ List.mem_cons_self | exact List.mem_cons_of_mem _ (List.mem_cons_of_mem _ List.mem_cons_self))) ?_; intro D hv; have HV := Lib.hid hv; clear hv)))
  obtain ⟨b5, hbs⟩ : ∃ x, x = b := ⟨_, rfl⟩
  subst hbs
  obtain ⟨h5, h5n, C5, hb5, hs5⟩ := HS.out.box _ List.mem_cons_self
  simp only at h5 h5n hb5 hs5
  have N5 : Hid (b5 ≠ b2 ∧ b5 ≠ b3) := Lib.hid (by
    have e2 := (Array.getElem?_eq_some_iff.1 ((HR.out.box _ (List.mem_cons_of_mem _ List.mem_cons_self)).2.choose_spec.1)).1
    have e3 := (Array.getElem?_eq_some_iff.1 ((HR.out.box _ List.mem_cons_self).2.choose_spec.1)).1
    have := H12.out
    simp only at e2 e3
    omega)
  have N5c : Hid (b5 ≠ K.c) := Lib.hid (HS.out.cur.ne hb5 h5n)
  have HB5 := Lib.hid hb5
  have HS5 := Lib.hid hs5
  have ks0 : Rs w [(b3, 40, ksStyle), (b2, 40, ksStyle)] wS.drew ∧ wS.drew.heap[b5]? = some (.cells C5 40 (0, 0)) := ⟨(HR.out.called (cur_bel HW.out HS.out.cur)).drew, hb5⟩
  have KS := Lib.hid ks0
  clear ks0 hb5 hs5 h5 h5n
  cases x
  · go_wp2_with fail
    refine wp_region_held_drew (S := (fun w' => Rs w [(b3, 40, ksStyle), (b2, 40, ksStyle)] w' ∧ w'.heap[b5]? = some (.cells C5 40 (0, 0)))) (by kernel_rfl) ?_ (fun hHeld => ?_)
    · (first | exact hS2 | exact KC.out | exact KS.out)
    refine' wpAnyH_take (i := 0) (oi := ?oi5) (v := .agg C5) ?hi5 ?hs5 ?hf5 ?hr5 ?hQ5 ?hy5 ?hS5 ?rest5
    case hi5 => (simp only [List.getElem?_toArray, List.getElem?_cons_zero]; rfl)
    case hs5 => kernel_rfl
    case hf5 => kernel_rfl
    case hr5 => kernel_rfl
    case hQ5 => exact fun _ _ _ h => h
    case hS5 => assumption
    case hy5 => exact yieldsIf_load_mid (by rfl) _ _ rfl _ 0 rfl (C5).toList _ (fun w hSw => range_of hSw.2) Try.underlying40 rfl (by rw [Array.length_toList, HS5.out.1]; kernel_rfl)
    (try simp only [Act.put, List.setIfInBounds_toArray, List.set_cons_zero, List.set_cons_succ])
    refine' wpAnyH_take (i := 1) (oi := ?oi6) (v := ?v6) ?hi6 ?hs6 ?hf6 ?hr6 ?hQ6 ?hy6 ?hS6 ?rest6
    case hi6 => (simp only [List.getElem?_toArray, List.getElem?_cons_succ, List.getElem?_cons_zero]; rfl)
    case hs6 => kernel_rfl
    case hf6 => kernel_rfl
    case hr6 => kernel_rfl
    case hQ6 => exact fun _ _ _ h => h
    case hS6 => assumption
    case hy6 => (refine Or.inl ⟨by rfl, ?_⟩; intro w hSw; (try dsimp only at hSw); go_simp; all_goals with_reducible rfl)
    (try simp only [Act.put, List.setIfInBounds_toArray, List.set_cons_zero, List.set_cons_succ])
    refine wpAnyH_ready (rs := [2]) (by kernel_rfl) (by simp) ?_
    refine' AllReadyH.cons (o := ?oi7) ?hi7 (fun K hK => ?step7) AllReadyH.nil
    case hi7 => (simp only [List.getElem?_toArray, List.getElem?_cons_succ, List.getElem?_cons_zero]; rfl)
    rw [if_pos (by rfl)]
    go_simp
    (go_at_call 83; refine (l06Any_s _ _ HS.out.drew.cur).mono ?_; rintro e w' ⟨D6, hv6, rfl, hg⟩; have KC := Lib.hid (And.intro (HR.out.called (cur_bel HW.out hg.cur)) (grown_on hg.grow (show wS.drew.heap[b5]? = _ from HB5.out) N5c.out)); clear hg; have HV6 := Lib.hid hv6; clear hv6)
    all_goals (try go_wp2_with fail)
    refine hK.out _ _ ?_ (fun hHeld => ?_)
    · (first | exact hS2 | exact KC.out | exact KS.out)
    clear hK K
    (try simp only [Act.put, List.setIfInBounds_toArray, List.set_cons_zero, List.set_cons_succ])
    refine wpAnyH_ready (rs := [3]) (by kernel_rfl) (by simp) ?_
    refine' AllReadyH.cons (o := ?oi8) ?hi8 (fun K hK => ?step8) AllReadyH.nil
    case hi8 => (simp only [List.getElem?_toArray, List.getElem?_cons_succ, List.getElem?_cons_zero]; rfl)
    rw [if_pos (by rfl)]
    have hS2 := S_lay (T := 40) hHeld (List.mem_cons_of_mem _ List.mem_cons_self) N5.out.1 (HS5.out)
    refine wp_store_mid _ _ _ rfl b2 0 C5 rfl rfl (hHeld.1.there (List.mem_cons_of_mem _ List.mem_cons_self) 0 _ (by rw [(HS5.out).1]; decide)) (by rw [(HS5.out).1]; kernel_rfl) (HS5.out).one ?_
    refine hK.out _ _ ?_ (fun hHeld => ?_)
    · (first | exact hS2 | exact KC.out | exact KS.out)
    clear hK K
    (try simp only [Act.put])
    refine wpAnyH_ready (rs := [4]) (by kernel_rfl) (by simp) ?_
    refine' AllReadyH.cons (o := ?oi9) ?hi9 (fun K hK => ?step9) AllReadyH.nil
    case hi9 => (simp only [List.getElem?_toArray, List.getElem?_cons_succ, List.getElem?_cons_zero]; rfl)
    rw [if_pos (by rfl)]
    have hS2 := S_lay (T := 40) hHeld (List.mem_cons_self) N5.out.2 (HV6.out)
    refine wp_store_mid _ _ _ rfl b3 0 D6 rfl rfl (hHeld.1.there (List.mem_cons_self) 0 _ (by rw [(HV6.out).1]; decide)) (by rw [(HV6.out).1]; kernel_rfl) (HV6.out).one ?_
    refine hK.out _ _ ?_ (fun hHeld => ?_)
    · (first | exact hS2 | exact KC.out | exact KS.out)
    clear hK K
    (try simp only [Act.put])
    refine wpAnyH_done (by kernel_rfl) ?_ _
    go_wp2
    obtain ⟨g, q, hg, hv⟩ := hHeld.1.var (List.mem_cons_of_mem _ List.mem_cons_self) Try.underlying40 rfl (by kernel_rfl)
    obtain ⟨k, r, hk, hu⟩ := hHeld.1.var (List.mem_cons_self) Try.underlying40 rfl (by kernel_rfl)
    exact bodyPost_ret (res_cc Try.results62 rfl rfl hv hu) rfl ⟨g, q, k, r, hg, hk, rfl, hHeld.1.bel⟩
  · go_wp2_with fail
    refine wp_region_held_drew (S := (fun w' => Rs w [(b3, 40, ksStyle), (b2, 40, ksStyle)] w' ∧ w'.heap[b5]? = some (.cells C5 40 (0, 0)))) (by kernel_rfl) ?_ (fun hHeld => ?_)
    · (first | exact hS2 | exact KC.out | exact KS.out)
    refine' wpAnyH_take (i := 0) (oi := ?oi1) (v := .agg C5) ?hi1 ?hs1 ?hf1 ?hr1 ?hQ1 ?hy1 ?hS1 ?rest1
    case hi1 => (simp only [List.getElem?_toArray, List.getElem?_cons_zero]; rfl)
    case hs1 => kernel_rfl
    case hf1 => kernel_rfl
    case hr1 => kernel_rfl
    case hQ1 => exact fun _ _ _ h => h
    case hS1 => assumption
    case hy1 => exact yieldsIf_load_mid (by rfl) _ _ rfl _ 0 rfl (C5).toList _ (fun w hSw => range_of hSw.2) Try.underlying40 rfl (by rw [Array.length_toList, HS5.out.1]; kernel_rfl)
    (try simp only [Act.put, List.setIfInBounds_toArray, List.set_cons_zero, List.set_cons_succ])
    refine' wpAnyH_take (i := 1) (oi := ?oi2) (v := .agg C5) ?hi2 ?hs2 ?hf2 ?hr2 ?hQ2 ?hy2 ?hS2 ?rest2
    case hi2 => (simp only [List.getElem?_toArray, List.getElem?_cons_succ, List.getElem?_cons_zero]; rfl)
    case hs2 => kernel_rfl
    case hf2 => kernel_rfl
    case hr2 => kernel_rfl
    case hQ2 => exact fun _ _ _ h => h
    case hS2 => assumption
    case hy2 => exact yieldsIf_load_mid (by rfl) _ _ rfl _ 0 rfl (C5).toList _ (fun w hSw => range_of hSw.2) Try.underlying40 rfl (by rw [Array.length_toList, HS5.out.1]; kernel_rfl)
    (try simp only [Act.put, List.setIfInBounds_toArray, List.set_cons_zero, List.set_cons_succ])
    refine wpAnyH_ready (rs := [2]) (by kernel_rfl) (by simp) ?_
    refine' AllReadyH.cons (o := ?oi3) ?hi3 (fun K hK => ?step3) AllReadyH.nil
    case hi3 => (simp only [List.getElem?_toArray, List.getElem?_cons_succ, List.getElem?_cons_zero]; rfl)
    rw [if_pos (by rfl)]
    have hS2 := S_lay (T := 40) hHeld (List.mem_cons_of_mem _ List.mem_cons_self) N5.out.1 (HS5.out)
    refine wp_store_mid _ _ _ rfl b2 0 C5 rfl rfl (hHeld.1.there (List.mem_cons_of_mem _ List.mem_cons_self) 0 _ (by rw [(HS5.out).1]; decide)) (by rw [(HS5.out).1]; kernel_rfl) (HS5.out).one ?_
    refine hK.out _ _ ?_ (fun hHeld => ?_)
    · (first | exact hS2 | exact KC.out | exact KS.out)
    clear hK K
    (try simp only [Act.put])
    refine wpAnyH_ready (rs := [3]) (by kernel_rfl) (by simp) ?_
    refine' AllReadyH.cons (o := ?oi4) ?hi4 (fun K hK => ?step4) AllReadyH.nil
    case hi4 => (simp only [List.getElem?_toArray, List.getElem?_cons_succ, List.getElem?_cons_zero]; rfl)
    rw [if_pos (by rfl)]
    have hS2 := S_lay (T := 40) hHeld (List.mem_cons_self) N5.out.2 (HS5.out)
    refine wp_store_mid _ _ _ rfl b3 0 C5 rfl rfl (hHeld.1.there (List.mem_cons_self) 0 _ (by rw [(HS5.out).1]; decide)) (by rw [(HS5.out).1]; kernel_rfl) (HS5.out).one ?_
    refine hK.out _ _ ?_ (fun hHeld => ?_)
    · (first | exact hS2 | exact KC.out | exact KS.out)
    clear hK K
    (try simp only [Act.put])
    refine wpAnyH_done (by kernel_rfl) ?_ _
    go_wp2
    obtain ⟨g, q, hg, hv⟩ := hHeld.1.var (List.mem_cons_of_mem _ List.mem_cons_self) Try.underlying40 rfl (by kernel_rfl)
    obtain ⟨k, r, hk, hu⟩ := hHeld.1.var (List.mem_cons_self) Try.underlying40 rfl (by kernel_rfl)
    exact bodyPost_ret (res_cc Try.results62 rfl rfl hv hu) rfl ⟨g, q, k, r, hg, hk, rfl, hHeld.1.bel⟩
end Go.Proofs.Ytcmanaklojomeaa
