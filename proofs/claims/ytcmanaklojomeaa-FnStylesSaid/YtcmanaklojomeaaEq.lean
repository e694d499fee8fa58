/- The comparison of two styles: '==' on struct values of sixty cells. No condition. -/
import Derived.Test.YtcmanaklojomeaaConv
import Derived.Laws.StructEq
namespace Go.Proofs.Ytcmanaklojomeaa
open Go.RowKit
set_option linter.unusedVariables false

theorem eqf_nil {d : Nat} {xs ys : Array Value} (w : World) : (Op.eqFields d xs ys []).run Try.prog w = .ok true w := by simp [Op.eqFields]
theorem eqf_cons {d : Nat} {xs ys : Array Value} {f : Field} {fs : List Field} {a b : Value} {r r' : Bool} (hn : f.name ≠ "_")
    (h1 : ∀ w, (Go.part f.type xs f.offset).run Try.prog w = .ok a w) (h2 : ∀ w, (Go.part f.type ys f.offset).run Try.prog w = .ok b w)
    (h3 : ∀ w, (Op.equalIn d f.type a b).run Try.prog w = .ok r w) (h4 : ∀ w, (Op.eqFields d xs ys fs).run Try.prog w = .ok r' w) :
    ∀ w, (Op.eqFields d xs ys (f :: fs)).run Try.prog w = .ok (r && r') w := by
  intro w
  simp only [Op.eqFields, hn, ne_eq, not_false_eq_true, if_true, Sem.run_bind, h1, h2, h3, Result.andThen_ok, Sem.run_ite]
  cases r
  · simp [Sem.run_pure]
  · simp [h4]
theorem eq_int {d : Nat} (a b : Int) : ∀ w, (Op.equalIn (d + 1) 3 (.int .i64 a) (.int .i64 b)).run Try.prog w = .ok (a == b) w := fun w => run_equalIn_int w d _ _ .i64 a b Try.underlying3
theorem eq_bool {d : Nat} (a b : Bool) : ∀ w, (Op.equalIn (d + 1) 4 (.bool a) (.bool b)).run Try.prog w = .ok (a == b) w := fun w => run_equalIn_bool' w d _ a b Try.underlying4
theorem eq_struct {d : Nat} {t : TypeId} {xs ys : Array Value} {fs : Array Field} {r : Bool} (ht : Try.prog.underlying t = some (.struct fs)) (hp : Try.prog.stoodInHeld t = false)
    (h : ∀ w, (Op.eqFields d xs ys fs.toList).run Try.prog w = .ok r w) : ∀ w, (Op.equalIn (d + 1) t (.agg xs) (.agg ys)).run Try.prog w = .ok r w := fun w => by
  have hf : Try.prog.fieldsOf t = fs := by unfold Program.fieldsOf; rw [ht]
  rw [run_equalIn_agg w d t xs ys (by rw [hf]; exact ht) hp, hf]; exact h w
theorem eq_value {d : Nat} (a b a' b' : Int) : ∀ w, (Op.equalIn (d + 2) 34 (.agg #[.int .i64 a, .int .i64 b]) (.agg #[.int .i64 a', .int .i64 b'])).run Try.prog w = .ok ((a == a') && ((b == b') && true)) w :=
  eq_struct Try.underlying34 (by kernel_rfl) (eqf_cons (a := .int .i64 a) (b := .int .i64 a') (by decide) (fun _ => by kernel_rfl) (fun _ => by kernel_rfl) (eq_int _ _)
    (eqf_cons (a := .int .i64 b) (b := .int .i64 b') (by decide) (fun _ => by kernel_rfl) (fun _ => by kernel_rfl) (eq_int _ _) eqf_nil))
def eqE (g k : Nat → Int) : Bool := ((g 0 == k 0) && ((g 1 == k 1) && ((g 2 == k 2) && ((g 3 == k 3) && true))))
theorem eq_edges {d : Nat} (g k : Nat → Int) : ∀ w, (Op.equalIn (d + 2) 38 (.agg #[.int .i64 (g 0), .int .i64 (g 1), .int .i64 (g 2), .int .i64 (g 3)]) (.agg #[.int .i64 (k 0), .int .i64 (k 1), .int .i64 (k 2), .int .i64 (k 3)])).run Try.prog w = .ok (eqE g k) w :=
  eq_struct Try.underlying38 (by kernel_rfl) (eqf_cons (a := .int .i64 (g 0)) (b := .int .i64 (k 0)) (by decide) (fun _ => by kernel_rfl) (fun _ => by kernel_rfl) (eq_int _ _)
    (eqf_cons (a := .int .i64 (g 1)) (b := .int .i64 (k 1)) (by decide) (fun _ => by kernel_rfl) (fun _ => by kernel_rfl) (eq_int _ _)
    (eqf_cons (a := .int .i64 (g 2)) (b := .int .i64 (k 2)) (by decide) (fun _ => by kernel_rfl) (fun _ => by kernel_rfl) (eq_int _ _)
    (eqf_cons (a := .int .i64 (g 3)) (b := .int .i64 (k 3)) (by decide) (fun _ => by kernel_rfl) (fun _ => by kernel_rfl) (eq_int _ _)
    eqf_nil))))
def eqV (a b a' b' : Int) : Bool := (a == a') && ((b == b') && true)
def eqS (g k : Nat → Int) : Bool := ((eqV (g 0) (g 1) (k 0) (k 1)) && ((eqV (g 2) (g 3) (k 2) (k 3)) && ((eqV (g 4) (g 5) (k 4) (k 5)) && ((eqV (g 6) (g 7) (k 6) (k 7)) && ((eqV (g 8) (g 9) (k 8) (k 9)) && ((eqV (g 10) (g 11) (k 10) (k 11)) && true))))))
theorem eq_sides {d : Nat} (g k : Nat → Int) (q r : Nat → Bool) : ∀ w, (Op.equalIn (d + 3) 36 (.agg (sdA g q)) (.agg (sdA k r))).run Try.prog w = .ok (eqS g k) w :=
  eq_struct Try.underlying36 (by kernel_rfl) (eqf_cons (a := .agg #[.int .i64 (g 0), .int .i64 (g 1)]) (b := .agg #[.int .i64 (k 0), .int .i64 (k 1)]) (by decide) (fun _ => by kernel_rfl) (fun _ => by kernel_rfl) (eq_value _ _ _ _)
    (eqf_cons (a := .agg #[.int .i64 (g 2), .int .i64 (g 3)]) (b := .agg #[.int .i64 (k 2), .int .i64 (k 3)]) (by decide) (fun _ => by kernel_rfl) (fun _ => by kernel_rfl) (eq_value _ _ _ _)
    (eqf_cons (a := .agg #[.int .i64 (g 4), .int .i64 (g 5)]) (b := .agg #[.int .i64 (k 4), .int .i64 (k 5)]) (by decide) (fun _ => by kernel_rfl) (fun _ => by kernel_rfl) (eq_value _ _ _ _)
    (eqf_cons (a := .agg #[.int .i64 (g 6), .int .i64 (g 7)]) (b := .agg #[.int .i64 (k 6), .int .i64 (k 7)]) (by decide) (fun _ => by kernel_rfl) (fun _ => by kernel_rfl) (eq_value _ _ _ _)
    (eqf_cons (a := .agg #[.int .i64 (g 8), .int .i64 (g 9)]) (b := .agg #[.int .i64 (k 8), .int .i64 (k 9)]) (by decide) (fun _ => by kernel_rfl) (fun _ => by kernel_rfl) (eq_value _ _ _ _)
    (eqf_cons (a := .agg #[.int .i64 (g 10), .int .i64 (g 11)]) (b := .agg #[.int .i64 (k 10), .int .i64 (k 11)]) (by decide) (fun _ => by kernel_rfl) (fun _ => by kernel_rfl) (eq_value _ _ _ _)
    eqf_nil))))))
def sameB (g : Nat → Int) (q : Nat → Bool) (k : Nat → Int) (r : Nat → Bool) : Bool := ((g 0 == k 0) && ((g 1 == k 1) && ((g 2 == k 2) && ((g 3 == k 3) && ((g 4 == k 4) && ((g 5 == k 5) && ((q 6 == r 6) && ((q 7 == r 7) && ((g 8 == k 8) && ((g 9 == k 9) && ((g 10 == k 10) && ((eqV (g 11) (g 12) (k 11) (k 12)) && ((eqV (g 13) (g 14) (k 13) (k 14)) && ((eqV (g 15) (g 16) (k 15) (k 16)) && ((eqV (g 17) (g 18) (k 17) (k 18)) && ((eqV (g 19) (g 20) (k 19) (k 20)) && ((eqV (g 21) (g 22) (k 21) (k 22)) && ((eqV (g 23) (g 24) (k 23) (k 24)) && ((g 25 == k 25) && ((eqS (fun i => g (26 + i)) (fun i => k (26 + i))) && ((eqS (fun i => g (38 + i)) (fun i => k (38 + i))) && ((eqE (fun i => g (50 + i)) (fun i => k (50 + i))) && ((eqE (fun i => g (54 + i)) (fun i => k (54 + i))) && ((g 58 == k 58) && ((g 59 == k 59) && true)))))))))))))))))))))))))
set_option maxRecDepth 20000 in
set_option maxHeartbeats 4000000 in
theorem eq_style {d : Nat} (g : Nat → Int) (q : Nat → Bool) (k : Nat → Int) (r : Nat → Bool) : ∀ w, (Op.equalIn (d + 4) 40 (.agg (syA g q)) (.agg (syA k r))).run Try.prog w = .ok (sameB g q k r) w :=
  eq_struct Try.underlying40 (by kernel_rfl) (eqf_cons (a := .int .i64 (g 0)) (b := .int .i64 (k 0)) (by decide) (fun _ => by kernel_rfl) (fun _ => by kernel_rfl) (eq_int _ _)
    (eqf_cons (a := .int .i64 (g 1)) (b := .int .i64 (k 1)) (by decide) (fun _ => by kernel_rfl) (fun _ => by kernel_rfl) (eq_int _ _)
    (eqf_cons (a := .int .i64 (g 2)) (b := .int .i64 (k 2)) (by decide) (fun _ => by kernel_rfl) (fun _ => by kernel_rfl) (eq_int _ _)
    (eqf_cons (a := .int .i64 (g 3)) (b := .int .i64 (k 3)) (by decide) (fun _ => by kernel_rfl) (fun _ => by kernel_rfl) (eq_int _ _)
    (eqf_cons (a := .int .i64 (g 4)) (b := .int .i64 (k 4)) (by decide) (fun _ => by kernel_rfl) (fun _ => by kernel_rfl) (eq_int _ _)
    (eqf_cons (a := .int .i64 (g 5)) (b := .int .i64 (k 5)) (by decide) (fun _ => by kernel_rfl) (fun _ => by kernel_rfl) (eq_int _ _)
    (eqf_cons (a := .bool (q 6)) (b := .bool (r 6)) (by decide) (fun _ => by kernel_rfl) (fun _ => by kernel_rfl) (eq_bool _ _)
    (eqf_cons (a := .bool (q 7)) (b := .bool (r 7)) (by decide) (fun _ => by kernel_rfl) (fun _ => by kernel_rfl) (eq_bool _ _)
    (eqf_cons (a := .int .i64 (g 8)) (b := .int .i64 (k 8)) (by decide) (fun _ => by kernel_rfl) (fun _ => by kernel_rfl) (eq_int _ _)
    (eqf_cons (a := .int .i64 (g 9)) (b := .int .i64 (k 9)) (by decide) (fun _ => by kernel_rfl) (fun _ => by kernel_rfl) (eq_int _ _)
    (eqf_cons (a := .int .i64 (g 10)) (b := .int .i64 (k 10)) (by decide) (fun _ => by kernel_rfl) (fun _ => by kernel_rfl) (eq_int _ _)
    (eqf_cons (a := .agg #[.int .i64 (g 11), .int .i64 (g 12)]) (b := .agg #[.int .i64 (k 11), .int .i64 (k 12)]) (by decide) (fun _ => by kernel_rfl) (fun _ => by kernel_rfl) (eq_value _ _ _ _)
    (eqf_cons (a := .agg #[.int .i64 (g 13), .int .i64 (g 14)]) (b := .agg #[.int .i64 (k 13), .int .i64 (k 14)]) (by decide) (fun _ => by kernel_rfl) (fun _ => by kernel_rfl) (eq_value _ _ _ _)
    (eqf_cons (a := .agg #[.int .i64 (g 15), .int .i64 (g 16)]) (b := .agg #[.int .i64 (k 15), .int .i64 (k 16)]) (by decide) (fun _ => by kernel_rfl) (fun _ => by kernel_rfl) (eq_value _ _ _ _)
    (eqf_cons (a := .agg #[.int .i64 (g 17), .int .i64 (g 18)]) (b := .agg #[.int .i64 (k 17), .int .i64 (k 18)]) (by decide) (fun _ => by kernel_rfl) (fun _ => by kernel_rfl) (eq_value _ _ _ _)
    (eqf_cons (a := .agg #[.int .i64 (g 19), .int .i64 (g 20)]) (b := .agg #[.int .i64 (k 19), .int .i64 (k 20)]) (by decide) (fun _ => by kernel_rfl) (fun _ => by kernel_rfl) (eq_value _ _ _ _)
    (eqf_cons (a := .agg #[.int .i64 (g 21), .int .i64 (g 22)]) (b := .agg #[.int .i64 (k 21), .int .i64 (k 22)]) (by decide) (fun _ => by kernel_rfl) (fun _ => by kernel_rfl) (eq_value _ _ _ _)
    (eqf_cons (a := .agg #[.int .i64 (g 23), .int .i64 (g 24)]) (b := .agg #[.int .i64 (k 23), .int .i64 (k 24)]) (by decide) (fun _ => by kernel_rfl) (fun _ => by kernel_rfl) (eq_value _ _ _ _)
    (eqf_cons (a := .int .i64 (g 25)) (b := .int .i64 (k 25)) (by decide) (fun _ => by kernel_rfl) (fun _ => by kernel_rfl) (eq_int _ _)
    (eqf_cons (a := .agg (sdA (fun i => g (26 + i)) q)) (b := .agg (sdA (fun i => k (26 + i)) r)) (by decide) (fun _ => by kernel_rfl) (fun _ => by kernel_rfl) (eq_sides _ _ _ _)
    (eqf_cons (a := .agg (sdA (fun i => g (38 + i)) q)) (b := .agg (sdA (fun i => k (38 + i)) r)) (by decide) (fun _ => by kernel_rfl) (fun _ => by kernel_rfl) (eq_sides _ _ _ _)
    (eqf_cons (a := .agg #[.int .i64 ((fun i => g (50 + i)) 0), .int .i64 ((fun i => g (50 + i)) 1), .int .i64 ((fun i => g (50 + i)) 2), .int .i64 ((fun i => g (50 + i)) 3)]) (b := .agg #[.int .i64 ((fun i => k (50 + i)) 0), .int .i64 ((fun i => k (50 + i)) 1), .int .i64 ((fun i => k (50 + i)) 2), .int .i64 ((fun i => k (50 + i)) 3)]) (by decide) (fun _ => by kernel_rfl) (fun _ => by kernel_rfl) (eq_edges (fun i => g (50 + i)) (fun i => k (50 + i)))
    (eqf_cons (a := .agg #[.int .i64 ((fun i => g (54 + i)) 0), .int .i64 ((fun i => g (54 + i)) 1), .int .i64 ((fun i => g (54 + i)) 2), .int .i64 ((fun i => g (54 + i)) 3)]) (b := .agg #[.int .i64 ((fun i => k (54 + i)) 0), .int .i64 ((fun i => k (54 + i)) 1), .int .i64 ((fun i => k (54 + i)) 2), .int .i64 ((fun i => k (54 + i)) 3)]) (by decide) (fun _ => by kernel_rfl) (fun _ => by kernel_rfl) (eq_edges (fun i => g (54 + i)) (fun i => k (54 + i)))
    (eqf_cons (a := .int .i64 (g 58)) (b := .int .i64 (k 58)) (by decide) (fun _ => by kernel_rfl) (fun _ => by kernel_rfl) (eq_int _ _)
    (eqf_cons (a := .int .i64 (g 59)) (b := .int .i64 (k 59)) (by decide) (fun _ => by kernel_rfl) (fun _ => by kernel_rfl) (eq_int _ _)
    eqf_nil)))))))))))))))))))))))))

end Go.Proofs.Ytcmanaklojomeaa
