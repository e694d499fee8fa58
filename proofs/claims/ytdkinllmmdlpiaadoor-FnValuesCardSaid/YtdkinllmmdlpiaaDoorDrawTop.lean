/- The draws of the laws: some values of their kinds, new memory alone. No condition. -/
import Derived.Test.YtdkinllmmdlpiaaDoorRs
import Derived.Test.YtdkinllmmdlpiaaDoorDrawE


import Derived.Test.YtdkinllmmdlpiaaDoorDraw3
namespace Go.Proofs.YtdkinllmmdlpiaaDoor
open Go.RowKit Go.Deep
set_option linter.unusedVariables false
set_option maxRecDepth 20000
theorem new_c (w : World) (a : Option Addr) (cap : Nat) (l : List Int) (hl : l.length ≤ 1048576) (hr : RdB w a l) : Calls Tryd.prog 34 #[.slice a l.length cap] w fun e w' => ∃ K : Cx, K.w = w ∧ e = .returned (.pointer (some ⟨K.c, 0, none⟩)) ∧ Drw K w' :=
  (l01New_s w a cap l hl hr).mono fun e w' ⟨c, he, hd⟩ => ⟨⟨w, c, a, cap, l⟩, rfl, he, hd⟩
theorem cur_bel {K : Cx} {w W : World} (h : K.w = w) (hd : Drw K W) : Below w.heap.size w W := by
  have := hd.bel
  rw [h] at this
  exact this
set_option maxHeartbeats 3200000 in
theorem l04Case_s (w : World) (a : Option Addr) (cap : Nat) (l : List Int) (hl : l.length ≤ 1048576) (hr : RdB w a l) : Calls Tryd.prog 37 #[.slice a l.length cap] w (DValI w) := by
  have HR : Hid (Rs w [] w) := Lib.hid (Rs.start w)
  have HA := Lib.hid hr
  clear hr
  go_enter Tryd.func37, Tryd.ntmps37
  go_wp2_with (first | (refine Rs.alloc_V HR.out rfl rfl ?_; intro b W1 hR; replace HR := Lib.hid hR; clear hR) | (refine Rs.alloc_E HR.out rfl rfl ?_; intro b W1 hR; replace HR := Lib.hid hR; clear hR) | (refine Rs.alloc_S HR.out rfl rfl ?_; intro b W1 hR; replace HR := Lib.hid hR; clear hR) | (refine Rs.alloc_Y HR.out rfl rfl ?_; intro b W1 hR; replace HR := Lib.hid hR; clear hR))
  refine (new_c _ a cap l hl (HA.out.below HR.out.bel)).mono ?_
  rintro e W2 ⟨K, hw, rfl, hd⟩
  have HS : Hid (St K W2 [] W2) := Lib.hid (St.start hd)
  have HW := Lib.hid hw
  clear hd hw
  go_wp2_with (first | (first | (refine Rs.wp_lay HR.out rfl _ _ _ rfl _ _ _ rfl rfl _ _ (by (first | exact List.mem_cons_self | exact List.mem_cons_of_mem _ List.mem_cons_self | exact List.mem_cons_of_mem _ (List.mem_cons_of_mem _ List.mem_cons_self))) _ (by first | exact Hid.out (by assumption)) (by decide) (by decide) (by kernel_rfl) ?_; intro W' hR; replace HR := Lib.hid hR; clear hR) | (refine Rs.wp_lay (HR.out.called (cur_bel HW.out HS.out.cur)) rfl _ _ _ rfl _ _ _ rfl rfl _ _ (by (first | exact List.mem_cons_self | exact List.mem_cons_of_mem _ List.mem_cons_self | exact List.mem_cons_of_mem _ (List.mem_cons_of_mem _ List.mem_cons_self))) _ (by first | exact Hid.out (by assumption)) (by decide) (by decide) (by kernel_rfl) ?_; intro W' hR; replace HR := Lib.hid hR; clear hR)) | (first | (refine St.alloc_V HS.out rfl rfl ?_; intro b W' hlt hS; replace HS := Lib.hid hS; clear hS) | (refine St.alloc_E HS.out rfl rfl ?_; intro b W' hlt hS; replace HS := Lib.hid hS; clear hS) | (refine St.alloc_S HS.out rfl rfl ?_; intro b W' hlt hS; replace HS := Lib.hid hS; clear hS) | (refine St.alloc_Y HS.out rfl rfl ?_; intro b W' hlt hS; replace HS := Lib.hid hS; clear hS) | (refine St.load_V HS.out rfl _ rfl _ rfl (by (first | exact List.mem_cons_self | exact List.mem_cons_of_mem _ List.mem_cons_self | exact List.mem_cons_of_mem _ (List.mem_cons_of_mem _ List.mem_cons_self))) ?_; intro D hv; have HV := Lib.hid hv; clear hv) | (refine St.load_E HS.out rfl _ rfl _ rfl (by (first | exact List.mem_cons_self | exact List.mem_cons_of_mem _ List.mem_cons_self | exact List.mem_cons_of_mem _ (List.mem_cons_of_mem _ List.mem_cons_self))) ?_; intro D hv; have HV := Lib.hid hv; clear hv) | (refine St.load_S HS.out rfl _ rfl _ rfl (by (first | exact List.mem_cons_self | exact List.mem_cons_of_mem _ List.mem_cons_self | exact List.mem_cons_of_mem _ (List.mem_cons_of_mem _ List.mem_cons_self))) ?_; intro D hv; have HV := Lib.hid hv; clear hv) | (refine St.load_Y HS.out rfl _ rfl _ rfl (by (first | exact List.mem_cons_self | exact List.mem_cons_of_mem _ List.mem_cons_self | exact List.mem_cons_of_mem _ (List.mem_cons_of_mem _ List.mem_cons_self))) ?_; intro D hv; have HV := Lib.hid hv; clear hv) | (refine St.wp_set HS.out rfl _ _ _ rfl _ _ _ rfl rfl _ _ (by (first | exact List.mem_cons_self | exact List.mem_cons_of_mem _ List.mem_cons_self | exact List.mem_cons_of_mem _ (List.mem_cons_of_mem _ List.mem_cons_self))) (by rfl) (by kernel_rfl) (by (first | assumption | exact wrap_in64 _ | exact ⟨by omega, by omega⟩)) ?_; intro W' hS; replace HS := Lib.hid hS; clear hS) | (refine St.wp_setB HS.out rfl _ _ _ rfl _ _ _ rfl rfl _ _ (by (first | exact List.mem_cons_self | exact List.mem_cons_of_mem _ List.mem_cons_self | exact List.mem_cons_of_mem _ (List.mem_cons_of_mem _ List.mem_cons_self))) (by rfl) (by kernel_rfl) ?_; intro W' hS; replace HS := Lib.hid hS; clear hS) | (refine St.wp_lay HS.out rfl _ _ _ rfl _ _ _ rfl rfl _ _ (by (first | exact List.mem_cons_self | exact List.mem_cons_of_mem _ List.mem_cons_self | exact List.mem_cons_of_mem _ (List.mem_cons_of_mem _ List.mem_cons_self))) _ (by first | exact Hid.out (by assumption) | exact shpZ ksSides | exact shp2 (by (first | assumption | exact wrap_in64 _ | exact ⟨by omega, by omega⟩)) (by (first | assumption | exact wrap_in64 _ | exact ⟨by omega, by omega⟩)) | exact shp4 (by (first | assumption | exact wrap_in64 _ | exact ⟨by omega, by omega⟩)) (by (first | assumption | exact wrap_in64 _ | exact ⟨by omega, by omega⟩)) (by (first | assumption | exact wrap_in64 _ | exact ⟨by omega, by omega⟩)) (by (first | assumption | exact wrap_in64 _ | exact ⟨by omega, by omega⟩))) (by decide) (by decide) (by kernel_rfl) ?_; intro W' hS; replace HS := Lib.hid hS; clear hS) | (go_at_call 35; refine (below_c K _ (by decide) _ (by first | exact HS.out.cur | exact (HS.out.alloc _).cur)).mono ?_; rintro e wS ⟨x, hx0, hx1, rfl, hg⟩; replace HS := Lib.hid (by first | exact HS.out.next hg | exact (HS.out.alloc _).next hg); clear hg) | (go_at_call 50; refine (pick_c K _ _ (by rfl) (by decide) (by simp [allL, In64]; try omega) _ _ (by first | exact HS.out.cur | exact (HS.out.alloc _).cur) (heap_alloc_new _ _)).mono ?_; rintro e wS ⟨x, hx, rfl, hg⟩; replace HS := Lib.hid (by first | exact HS.out.next hg | exact (HS.out.alloc _).next hg); clear hg) | (go_at_call 49; refine (l04Any_s K _ (by first | exact HS.out.cur | exact (HS.out.alloc _).cur)).mono ?_; rintro e wS ⟨D, hv, rfl, hg⟩; replace HS := Lib.hid (by first | exact HS.out.next hg | exact (HS.out.alloc _).next hg); clear hg; have HV := Lib.hid hv; clear hv)))
  obtain ⟨g, q, hg, hv⟩ := HR.out.var (by (first | exact List.mem_cons_self | exact List.mem_cons_of_mem _ List.mem_cons_self | exact List.mem_cons_of_mem _ (List.mem_cons_of_mem _ List.mem_cons_self))) Tryd.underlying30 rfl (by kernel_rfl)
  exact bodyPost_ret (res_ct Tryd.results37 rfl hv) rfl ⟨g, _, hg, by assumption, rfl, HR.out.bel⟩
set_option maxHeartbeats 3200000 in
theorem drawLengthOf_s (w : World) (a : Option Addr) (cap : Nat) (l : List Int) (hl : l.length ≤ 1048576) (hr : RdB w a l) : Calls Tryd.prog 20 #[.slice a l.length cap] w (DValI w) := by
  have HR : Hid (Rs w [] w) := Lib.hid (Rs.start w)
  have HA := Lib.hid hr
  clear hr
  go_enter Tryd.func20, Tryd.ntmps20
  go_wp2_with (first | (refine Rs.alloc_V HR.out rfl rfl ?_; intro b W1 hR; replace HR := Lib.hid hR; clear hR) | (refine Rs.alloc_E HR.out rfl rfl ?_; intro b W1 hR; replace HR := Lib.hid hR; clear hR) | (refine Rs.alloc_S HR.out rfl rfl ?_; intro b W1 hR; replace HR := Lib.hid hR; clear hR) | (refine Rs.alloc_Y HR.out rfl rfl ?_; intro b W1 hR; replace HR := Lib.hid hR; clear hR))
  refine (l04Case_s _ a cap l hl (HA.out.below HR.out.bel)).mono ?_
  rintro e W2 ⟨g, x, hg, hx, rfl, hb⟩
  replace HR := Lib.hid (HR.out.called hb)
  have HV := Lib.hid (shp2 (hg 0) (hg 1))
  have HX := Lib.hid hx
  clear hb
  go_wp2_with (first | (refine Rs.wp_lay HR.out rfl _ _ _ rfl _ _ _ rfl rfl _ _ (by (first | exact List.mem_cons_self | exact List.mem_cons_of_mem _ List.mem_cons_self | exact List.mem_cons_of_mem _ (List.mem_cons_of_mem _ List.mem_cons_self))) _ (by first | exact Hid.out (by assumption)) (by decide) (by decide) (by kernel_rfl) ?_; intro W' hR; replace HR := Lib.hid hR; clear hR) | (refine Rs.wp_lay (HR.out.called (cur_bel HW.out HS.out.cur)) rfl _ _ _ rfl _ _ _ rfl rfl _ _ (by (first | exact List.mem_cons_self | exact List.mem_cons_of_mem _ List.mem_cons_self | exact List.mem_cons_of_mem _ (List.mem_cons_of_mem _ List.mem_cons_self))) _ (by first | exact Hid.out (by assumption)) (by decide) (by decide) (by kernel_rfl) ?_; intro W' hR; replace HR := Lib.hid hR; clear hR))
  obtain ⟨g, q, hg, hv⟩ := HR.out.var (by (first | exact List.mem_cons_self | exact List.mem_cons_of_mem _ List.mem_cons_self | exact List.mem_cons_of_mem _ (List.mem_cons_of_mem _ List.mem_cons_self))) Tryd.underlying30 rfl (by kernel_rfl)
  exact bodyPost_ret (res_ct Tryd.results20 rfl hv) rfl ⟨g, _, hg, HX.out, rfl, HR.out.bel⟩
end Go.Proofs.YtdkinllmmdlpiaaDoor
