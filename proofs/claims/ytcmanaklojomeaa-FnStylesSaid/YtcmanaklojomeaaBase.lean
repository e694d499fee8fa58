/- Helpers of my own: how an argument by value opens into its cells, and small facts on worlds. Nothing of the program is proved here; no condition. -/
import Derived.Test.YtcmanaklojomeaaRows
import Derived.WalkKit
import Derived.WalkSpells
import Derived.WalkLawsBesides
import Derived.ProofKit
import Derived.OpenShut
import Derived.ShutString
import Derived.ChangeOld
import Derived.Below
import Derived.Lib.Hide
import Derived.Deep.QuietTactic
import Derived.BigQuiet
import Derived.Deep.RegionHeld3
import Derived.Test.YtcmanaklojomeaaMath
namespace Go.Proofs.Ytcmanaklojomeaa
open Go.ChangeShapes Go.WideShapes Go.ChangeAt Go.RowKit
open Go.ChangeMaps (open_string shut_string)

theorem own : ownKnob Try.prog.godebug = none := by kernel_rfl
theorem laidOut : laidOutB Try.prog = true := by kernel_rfl

/-- The cells of a struct of integers and bools, by value: 'true' stands for an integer. -/
def leafV (g : Nat → Int) (q : Nat → Bool) : List Bool → Nat → List Value
  | [], _ => []
  | true :: ks, i => .int .i64 (g i) :: leafV g q ks (i + 1)
  | false :: ks, i => .bool (q i) :: leafV g q ks (i + 1)

theorem leafV_length (g : Nat → Int) (q : Nat → Bool) : ∀ (ks : List Bool) (i : Nat), (leafV g q ks i).length = ks.length
  | [], _ => rfl
  | true :: ks, i => by simp [leafV, leafV_length g q ks (i + 1)]
  | false :: ks, i => by simp [leafV, leafV_length g q ks (i + 1)]

theorem leafV_get (g : Nat → Int) (q : Nat → Bool) : ∀ (ks : List Bool) (i j : Nat) (b : Bool), ks[j]? = some b → (leafV g q ks i)[j]? = some (if b then Value.int .i64 (g (i + j)) else Value.bool (q (i + j)))
  | [], _, _, _, h => by simp at h
  | true :: ks, i, 0, b, h => by simp at h; subst h; simp [leafV]
  | false :: ks, i, 0, b, h => by simp at h; subst h; simp [leafV]
  | true :: ks, i, j + 1, b, h => by
    simp only [List.getElem?_cons_succ] at h
    simp only [leafV, List.getElem?_cons_succ]
    rw [leafV_get g q ks (i + 1) j b h, show i + 1 + j = i + (j + 1) from by omega]
  | false :: ks, i, j + 1, b, h => by
    simp only [List.getElem?_cons_succ] at h
    simp only [leafV, List.getElem?_cons_succ]
    rw [leafV_get g q ks (i + 1) j b h, show i + 1 + j = i + (j + 1) from by omega]

theorem in64_of_wf {n : Int} (h : (Lit.int .i64 n).wf = true) : In64 n := by
  simp [Lit.wf, IntKind.min, IntKind.max, IntKind.signed, IntKind.bits] at h
  exact ⟨by omega, by omega⟩

theorem cell_int {P : Program} {w : World} {r : Reach} {base : Nat} {u : TypeId} {x : Value} (hu : P.underlying u = some (.int .i64)) (h : Cell.okWide P w r base u x) : ∃ n, x = .int .i64 n ∧ In64 n := by
  simp only [Cell.okWide, hu] at h
  cases x <;> simp_all [Cell.ok]
  obtain ⟨rfl, h⟩ := h
  simp [IntKind.has, IntKind.min, IntKind.max, IntKind.signed, IntKind.bits] at h
  exact ⟨by omega, by omega⟩

theorem cell_bool {P : Program} {w : World} {r : Reach} {base : Nat} {u : TypeId} {x : Value} (hu : P.underlying u = some .bool) (h : Cell.okWide P w r base u x) : ∃ b, x = .bool b := by
  simp only [Cell.okWide, hu] at h
  cases x <;> simp_all [Cell.ok]

/-- A STRUCT OF INTEGERS AND BOOLS, BY VALUE, OPENED TO ITS CELLS (nested structs lie flat). -/
theorem open_leaves {P : Program} {w : World} {r : Reach} {base : Nat} {t : TypeId} {v : Value} {fs : Array Field} {ts : List TypeId} (ks : List Bool)
    (hs : P.underlying t = some (.struct fs)) (hct : P.cellTypes P.depth t = some ts) (hC : P.cellsOf t = ks.length)
    (hk : ts.map (fun u => P.underlying u) = ks.map (fun b => if b then some (TypeDesc.int .i64) else some TypeDesc.bool)) (h : Value.okWide P w r base t v) :
    ∃ g q, v = .agg ⟨leafV g q ks 0⟩ ∧ ∀ i, In64 (g i) := by
  simp only [Value.okWide, hs] at h
  obtain ⟨cs, rfl, hsz, ts', hct', _, hcell⟩ := h
  rw [hct] at hct'
  obtain rfl : ts = ts' := Option.some.inj hct'
  have hlen : ts.length = ks.length := by simpa using congrArg List.length hk
  have key : ∀ (i : Nat) (x : Value), cs[i]? = some x → ∃ b, ks[i]? = some b ∧ ((b = true ∧ ∃ n, x = Value.int .i64 n ∧ In64 n) ∨ (b = false ∧ ∃ b', x = Value.bool b')) := by
    intro i x hx
    obtain ⟨hi, _⟩ := Array.getElem?_eq_some_iff.mp hx
    have hi' : i < ts.length := by omega
    obtain ⟨u, hu, hok⟩ := hcell i x hx
    rw [Nat.mod_eq_of_lt hi'] at hu
    have hm := congrArg (fun l => l[i]?) hk
    simp only [List.getElem?_map, hu, Option.map_some] at hm
    cases hb : ks[i]? with
    | none => rw [hb] at hm; simp at hm
    | some b =>
      rw [hb] at hm
      simp at hm
      refine ⟨b, rfl, ?_⟩
      cases b
      · right; exact ⟨rfl, cell_bool (by simpa using hm) hok⟩
      · left; exact ⟨rfl, cell_int (by simpa using hm) hok⟩
  refine ⟨fun i => match cs[i]? with | some (Value.int _ n) => n | _ => 0, fun i => match cs[i]? with | some (Value.bool b) => b | _ => false, ?_, ?_⟩
  · congr 1
    apply Array.ext_getElem?
    intro i
    cases hx : cs[i]? with
    | none =>
      have : ks.length ≤ i := by have := Array.getElem?_eq_none_iff.mp hx; omega
      symm
      simp [leafV_length, this]
    | some x =>
      obtain ⟨b, hb, hrest⟩ := key i x hx
      have := leafV_get (fun i => match cs[i]? with | some (Value.int _ n) => n | _ => 0) (fun i => match cs[i]? with | some (Value.bool b) => b | _ => false) ks 0 i b hb
      rw [List.getElem?_toArray, this]
      rcases hrest with ⟨rfl, n, rfl, _⟩ | ⟨rfl, b', rfl⟩
      · simp [hx]
      · simp [hx]
  · intro i
    dsimp only
    cases hx : cs[i]? with
    | none => exact ⟨by simp, by simp⟩
    | some x =>
      obtain ⟨b, hb, hrest⟩ := key i x hx
      rcases hrest with ⟨rfl, n, rfl, hn⟩ | ⟨rfl, b', rfl⟩
      · exact hn
      · exact ⟨by simp, by simp⟩

theorem bcell {W w1 : World} (hb : Below W.heap.size W w1) : (∀ b o, b < W.heap.size → w1.cell? ⟨b, o, none⟩ = W.cell? ⟨b, o, none⟩) ∧ (∀ b o, b < W.heap.size → w1.frozen? ⟨b, o, none⟩ = W.frozen? ⟨b, o, none⟩) :=
  ⟨fun b o h => hb.cell (p := ⟨b, o, none⟩) h, fun b o h => hb.frozen (p := ⟨b, o, none⟩) h⟩

theorem val_int {P : Program} {w : World} {r : Reach} {base : Nat} {t : TypeId} {v : Value} (ht : P.underlying t = some (.int .i64)) (h : Value.okWide P w r base t v) : ∃ n, v = .int .i64 n ∧ In64 n :=
  cell_int ht (by simpa only [Value.okWide, ht] using h)
theorem val_bool {P : Program} {w : World} {r : Reach} {base : Nat} {t : TypeId} {v : Value} (ht : P.underlying t = some .bool) (h : Value.okWide P w r base t v) : ∃ b, v = .bool b :=
  cell_bool ht (by simpa only [Value.okWide, ht] using h)
theorem val_string {P : Program} {w : World} {r : Reach} {base : Nat} {t : TypeId} {v : Value} (ht : P.underlying t = some .string) (h : Value.okWide P w r base t v) : ∃ s : ByteArray, v = .string s ∧ s.size ≤ 9223372036854775807 := by
  simp only [Value.okWide, ht, Cell.okWide] at h
  cases v <;> simp_all [Cell.ok]
  omega
theorem bel_call {w W W' : World} (h : Below w.heap.size w W) (hb : Below W.heap.size W W') : Below w.heap.size w W' := h.trans ⟨hb.os, hb.tape, hb.output, hb.size, fun k hk => hb.block k (Nat.lt_of_lt_of_le hk h.size)⟩
theorem bel_alloc {w W : World} (h : Below w.heap.size w W) (o : Obj) : Below w.heap.size w (W.alloc o) := h.alloc h.size o
theorem bel_drewN {w W : World} (h : Below w.heap.size w W) (n : Nat) : Below w.heap.size w (W.drewN n) := h.trans ⟨rfl, rfl, rfl, Nat.le_refl _, fun _ _ => rfl⟩
theorem quiet_same {P : Program} {f : FuncId} {args : Array Value} {w : World} {n : Nat} {v : Value}
    (h : Calls P f args (w.drewN n) fun e w' => e = .returned v ∧ w.drewN n = w') : Calls P f args (w.drewN n) fun e w'' => e = .returned v ∧ ∃ m, w'' = w.drewN m :=
  h.mono fun _ _ ⟨he, hm⟩ => ⟨he, n, hm.symm⟩
theorem flip_same {P : Program} {f : FuncId} {args : Array Value} {w : World} {v : Value}
    (h : Calls P f args w fun e w' => e = .returned v ∧ w = w') : Calls P f args w fun e w'' => e = .returned v ∧ w'' = w :=
  h.mono fun _ _ ⟨he, hm⟩ => ⟨he, hm.symm⟩
theorem ret_int {k : IntKind} {a b : Int} (h : a = b) : Ending.returned (.int k a) = .returned (.int k b) := by rw [h]
theorem ret_bool {a b : Bool} (h : a = b) : Ending.returned (.bool a) = .returned (.bool b) := by rw [h]

end Go.Proofs.Ytcmanaklojomeaa
