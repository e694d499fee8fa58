/- The contract of laws.plain. No condition. -/
import Derived.Test.YtcmanaklojomeaaLw
import Derived.Test.YtcmanaklojomeaaStyNew
namespace Go.Proofs.Ytcmanaklojomeaa
open Go.RowKit Go.Deep
set_option linter.unusedVariables false
def plainG : Nat → Int := fun i => if i = 0 then 1 else newG i
theorem plain_set : (syA newG newQ).setIfInBounds 0 (.int .i64 1) = syA plainG newQ := by kernel_rfl
def ratG (r : Int) : Nat → Int := fun i => if i = 25 then r else plainG i
theorem rat_set (r : Int) : (syA plainG newQ).setIfInBounds 25 (.int .i64 r) = syA (ratG r) newQ := by kernel_rfl
theorem syA_zero : Value.agg (syA (fun _ => 0) (fun _ => false)) = .agg ⟨leafV (fun _ => 0) (fun _ => false) ksStyle 0⟩ := rfl
theorem Lw.var {w W : World} {L : Exs} {b : Nat} {T : TypeId} {C : Array Value} (h : Lw w L W) (hm : (b, T, C) ∈ L) {d : TypeDesc} (hu : Try.prog.underlying T = some d) (hd : d.isRow = true) (hi : (Try.prog.info? T).map (·.size) = some C.size) :
    (loadVar T ⟨b, 0, none⟩).run Try.prog W = .ok (.agg C) W := by
  have := run_loadVar_mid (P := Try.prog) W b 0 T C.toList d (fun j v hj => by rw [Nat.zero_add, h.cell hm]; simpa using hj) hu hd (by rw [hi, Array.length_toList])
  simpa using this
set_option maxRecDepth 20000 in
set_option maxHeartbeats 1600000 in
theorem plain_l (w : World) : Calls Try.prog 22 #[] w fun e w' => e = .returned (.agg (syA plainG newQ)) ∧ Below w.heap.size w w' := by
  have HL : Hid (Lw w [] w) := Lib.hid (Lw.start (Below.refl _ _))
  go_enter Try.func22, Try.ntmps22
  go_wp2_with (first | (refine Lw.wp_one HL.out rfl _ _ _ rfl _ _ rfl rfl _ plain_set (by rw [syA_size]; decide) (by kernel_rfl) ?_; intro W' hL; replace HL := Lib.hid hL; clear hL) | (first | (go_at_call 65; refine (styleNew_s _).mono ?_; rintro e w' ⟨rfl, hb⟩; replace HL := Lib.hid (HL.out.called hb); clear hb) | (refine Lw.wp_alloc HL.out rfl 40 rfl (.agg (syA (fun _ => 0) (fun _ => false))) (by kernel_rfl) ?_; intro b W' hL; replace HL := Lib.hid hL; clear hL) | (refine Lw.wp_put HL.out rfl 40 _ _ rfl _ rfl rfl (by rfl) (by first | exact one2 _ _ | exact one4 _ _ _ _ | exact syA_one _ _ | exact sdA_one _ _) (by kernel_rfl) ?_; intro W' hL; replace HL := Lib.hid hL; clear hL) | (refine Lw.wp_put HL.out.swap rfl 40 _ _ rfl _ rfl rfl (by rfl) (by first | exact one2 _ _ | exact one4 _ _ _ _ | exact syA_one _ _ | exact sdA_one _ _) (by kernel_rfl) ?_; intro W' hL; replace HL := Lib.hid hL; clear hL) | (refine Lw.wp_load HL.out rfl 40 _ rfl _ rfl _ _ (by (first | exact List.mem_cons_self | exact List.mem_cons_of_mem _ List.mem_cons_self | exact List.mem_cons_of_mem _ (List.mem_cons_of_mem _ List.mem_cons_self))) _ Try.underlying40 rfl (by kernel_rfl) ?_)))
  refine bodyPost_ret (v := .agg (syA plainG newQ)) (res_c Try.results22 rfl (HL.out.var (by (first | exact List.mem_cons_self | exact List.mem_cons_of_mem _ List.mem_cons_self | exact List.mem_cons_of_mem _ (List.mem_cons_of_mem _ List.mem_cons_self))) Try.underlying40 rfl (syA_info_v _ _))) rfl ⟨rfl, HL.out.bel⟩
end Go.Proofs.Ytcmanaklojomeaa
