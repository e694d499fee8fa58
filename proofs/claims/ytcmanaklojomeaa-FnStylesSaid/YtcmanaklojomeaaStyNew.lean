/- The contracts of StyleNew and StyleLess. No condition. -/
import Derived.Test.YtcmanaklojomeaaEq
namespace Go.Proofs.Ytcmanaklojomeaa
open Go.RowKit
set_option linter.unusedVariables false
def newG : Nat → Int
  | 0 => 2
  | 1 => 1
  | 2 => 1
  | 3 => 1
  | 5 => 2
  | _ => 0
def newQ : Nat → Bool := fun _ => false
def lessG (g : Nat → Int) : Nat → Int := fun i => if 26 ≤ i ∧ i < 50 then 0 else g i
/-- The result of a function that stores a whole style into its result and returns. -/
theorem style_result {fn : Func} {p : Tmp} (hr : fn.results = #[.cell p 40]) {W : World} {b : Nat} (g : Nat → Int) (q : Nat → Bool) (tmps : Array Value) (hp : tmps.getD p undef = .pointer (some ⟨b, 0, none⟩))
    (ht : W.there b 0 (syA g q).size) : (results fn tmps).run Try.prog (W.setCells b 0 (syA g q).toList) = .ok (.agg (syA g q)) (W.setCells b 0 (syA g q).toList) := by
  have hinfl : (Try.prog.info? 40).map (·.size) = some (syA g q).toList.length := by rw [Array.length_toList, syA_size]; kernel_rfl
  have := results_cell_mid (P := Try.prog) hr tmps (W.setCells b 0 (syA g q).toList) b (syA g q).toList _ hp (World.rangeAt_setCells_same _ _ _ _ (by simpa using ht)) Try.underlying40 rfl hinfl
  simpa using this
theorem there_new {Z : Array Value} {T : TypeId} (w : World) (n : Nat) (hn : Z.size = n) : (w.alloc (.cells Z T)).there w.heap.size 0 n := by
  intro j hj
  refine ⟨?_, Joins.unfrozen_of_block (hbox1 _ _ _) _⟩
  rw [Joins.cell_of_block (hbox1 _ _ _)]
  simp [hn, hj]
theorem there_new2 {Z : Array Value} {T : TypeId} (w : World) (o : Obj) (n : Nat) (hn : Z.size = n) : ((w.alloc o).alloc (.cells Z T)).there (w.heap.size + 1) 0 n := by
  have := there_new (T := T) (w.alloc o) n hn
  simpa using this
theorem wpList_build' {ops : Array Oper} {rest : List Oper} {o : Oper} {a : Act} {w : World} {Q : Exit → Act → World → Prop} (hgd : o.guard = none) (t : TypeId) (parts : Array (Nat × Operand)) (ho : o.op = .build t parts) (v : Value)
    (hb : (Instr.build t (parts.map fun (i, x) => (i, a.eval x))).run Try.prog w = .ok v w) (h : wpList Try.prog ops Q rest (a.put o.dst v) w) : wpList Try.prog ops Q (o :: rest) a w :=
  wpList_plain hgd fun _ hK => by
    unfold Oper.wp execOp
    simp only [ho, Sem.run_bind, hb, Result.andThen_ok, Sem.run_pure]
    exact hK _ _ h
set_option maxRecDepth 100000 in
set_option maxHeartbeats 1600000 in
theorem styleNew_i (w : World) :
    Calls Try.prog 59 #[] w fun e w' => e = .returned (.agg (syA newG newQ)) ∧ Below w.heap.size w w' := by
  go_enter Try.func59, Try.ntmps59
  go_wp2_with (first | (refine wpList_build' rfl 40 _ rfl (.agg (syA newG newQ)) (by kernel_rfl) ?_) | (refine wpList_store_mid rfl 40 _ _ rfl (w.heap.size) 0 (syA newG newQ) rfl rfl (there_new _ _ (by rw [syA_size]; rfl)) (syA_info_v _ _) (syA_one _ _) ?_))
  refine bodyPost_ret (v := .agg (syA newG newQ)) (style_result Try.results59 newG newQ _ rfl (there_new _ _ (by rw [syA_size]; rfl))) rfl ⟨rfl, ?_⟩
  exact below_setCells' _ (Nat.le_refl _) _ _ (by (repeat (first | exact Below.refl _ _ | assumption | (refine bel_call ?_ (by assumption)) | (refine bel_alloc ?_ _) | (refine Below.drew ?_) | (refine bel_drewN ?_ _) | (refine Below.setCell ?_ (by first | exact Nat.le_refl _ | assumption | (simp; done) | (simp; omega)) _))))
set_option maxRecDepth 100000 in
set_option maxHeartbeats 1600000 in
theorem styleNew_s (w : World) :
    Calls Try.prog 65 #[] w fun e w' => e = .returned (.agg (syA newG newQ)) ∧ Below w.heap.size w w' := by
  go_enter Try.func65, Try.ntmps65
  go_wp2_with (first | (refine wpList_build' rfl 40 _ rfl (.agg (syA newG newQ)) (by kernel_rfl) ?_) | (refine wpList_store_mid rfl 40 _ _ rfl (w.heap.size) 0 (syA newG newQ) rfl rfl (there_new _ _ (by rw [syA_size]; rfl)) (syA_info_v _ _) (syA_one _ _) ?_))
  refine bodyPost_ret (v := .agg (syA newG newQ)) (style_result Try.results65 newG newQ _ rfl (there_new _ _ (by rw [syA_size]; rfl))) rfl ⟨rfl, ?_⟩
  exact below_setCells' _ (Nat.le_refl _) _ _ (by (repeat (first | exact Below.refl _ _ | assumption | (refine bel_call ?_ (by assumption)) | (refine bel_alloc ?_ _) | (refine Below.drew ?_) | (refine bel_drewN ?_ _) | (refine Below.setCell ?_ (by first | exact Nat.le_refl _ | assumption | (simp; done) | (simp; omega)) _))))
end Go.Proofs.Ytcmanaklojomeaa
