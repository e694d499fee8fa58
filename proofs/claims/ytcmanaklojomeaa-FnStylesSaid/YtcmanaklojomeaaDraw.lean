/- The draws' cursor, and contracts of what is drawn: some value of its kind, no block but the cursor's and new ones touched. No condition. -/
import Derived.Test.YtcmanaklojomeaaToInts
import Derived.OwnWalk
import Derived.Deep.AppendLies
import Derived.Deep.RegionLaw
namespace Go.Proofs.Ytcmanaklojomeaa
open Go.RowKit Go.Deep
set_option linter.unusedVariables false
/-- The bytes that came in. -/
def RdB (w : World) (a : Option Addr) (l : List Int) : Prop :=
  ((∃ b off, a = some ⟨b, off, none⟩ ∧ ∀ i, i < l.length → w.cell? ⟨b, off + i, none⟩ = some (.int .u8 (nth l i))) ∨ l.length = 0) ∧ ∀ i, 0 ≤ nth l i ∧ nth l i ≤ 255
theorem RdB.below {w W : World} {a : Option Addr} {l : List Int} (h : RdB w a l) (hb : Below w.heap.size w W) : RdB W a l := by
  refine ⟨?_, h.2⟩
  rcases h.1 with ⟨b, off, ha, hc⟩ | h0
  · exact Or.inl ⟨b, off, ha, fun i hi => (hb.cell (World.block_lt_of_cell? _ _ (hc i hi))).trans (hc i hi)⟩
  · exact Or.inr h0
theorem RdB.of_row {w : World} {a : Option Addr} {len cap : Nat} {zs : List Int} (h : IsRow .u8 w a len cap zs) : ∃ l : List Int, l.length = len ∧ RdB w a l := by
  refine ⟨zs.take len, take_len h, ?_, ?_⟩
  · rcases h with ⟨rfl, rfl, rfl, rfl⟩ | ⟨x, rfl, hl, hm, hz, hcell, _⟩
    · exact Or.inr rfl
    · by_cases h0 : len = 0
      · subst h0; exact Or.inr rfl
      · left
        obtain ⟨b, off, spot⟩ := x
        have hc := hcell 0 (by omega)
        have hspot : spot = none := by simpa [Addr.add] using World.cell?_spot hc
        subst hspot
        refine ⟨b, off, rfl, fun i hi => ?_⟩
        have hi' : i < len := by simp at hi; omega
        have := hcell i (by omega)
        rw [show (⟨b, off, none⟩ : Addr).add i = ⟨b, off + i, none⟩ from Addr.add_mid b off i] at this
        rw [this, nth, List.getD_eq_getElem?_getD, List.getD_eq_getElem?_getD, List.getElem?_take_of_lt hi']
  · intro i
    rcases h with ⟨rfl, rfl, rfl, rfl⟩ | ⟨x, rfl, hl, hm, hz, _, hw⟩
    · simp [nth]
    · by_cases hi : i < (zs.take len).length
      · have hmem : nth (zs.take len) i ∈ zs := by
          rw [nth, List.getD_eq_getElem?_getD, List.getElem?_eq_getElem hi]
          exact List.mem_of_mem_take (List.getElem_mem hi)
        have := hw _ hmem
        simp [Lit.wf, IntKind.min, IntKind.max, IntKind.signed, IntKind.bits] at this
        omega
      · rw [nth, List.getD_eq_getElem?_getD, List.getElem?_eq_none (by omega)]
        simp
/-- What stays the same while it is drawn: the world at the start, the cursor's block, the bytes. -/
structure Cx where
  w : World
  c : Nat
  a : Option Addr
  cap : Nat
  l : List Int
theorem grown_trans {w w' w'' : World} {r : Option Nat} (h : w.grownBy w' r) (k : w'.grownBy w'' r) : w.grownBy w'' r :=
  ⟨k.os.trans h.os, k.tape.trans h.tape, k.output.trans h.output, Nat.le_trans h.size k.size, fun i hi hr => (k.block i (Nat.lt_of_lt_of_le hi h.size) hr).trans (h.block i hi hr)⟩
theorem grown_refl (w : World) (r : Option Nat) : w.grownBy w r := ⟨rfl, rfl, rfl, Nat.le_refl _, fun _ _ _ => rfl⟩
theorem grown_set {w W : World} {c : Nat} (h : w.grownBy W (some c)) (o : Nat) (x : Value) : w.grownBy (W.setCell ⟨c, o, none⟩ x) (some c) :=
  grown_trans h ⟨rfl, rfl, rfl, by simp [World.setCell], fun k hk hr => Below.heap_setCell _ _ _ _ (fun e => hr (by rw [e]))⟩
theorem grown_alloc {w W : World} {r : Option Nat} (h : w.grownBy W r) (o : Obj) : w.grownBy (W.alloc o) r :=
  grown_trans h ⟨rfl, rfl, rfl, by simp, fun k hk _ => Below.heap_alloc _ _ _ hk⟩
theorem grown_drewN {w W : World} {r : Option Nat} (h : w.grownBy W r) (n : Nat) : w.grownBy (W.drewN n) r :=
  grown_trans h ⟨rfl, rfl, rfl, Nat.le_refl _, fun _ _ _ => rfl⟩
theorem grown_drew {w W : World} {r : Option Nat} (h : w.grownBy W r) : w.grownBy W.drew r :=
  grown_trans h ⟨rfl, rfl, rfl, Nat.le_refl _, fun _ _ _ => rfl⟩
/-- What lay before lies on, but for the cursor. -/
theorem grown_on {w W : World} {c b : Nat} {o : Obj} (h : w.grownBy W (some c)) (hb : w.heap[b]? = some o) (hne : b ≠ c) : W.heap[b]? = some o :=
  (h.block b (Array.getElem?_eq_some_iff.1 hb).1 (by simpa using hne)).trans hb
theorem below_grown {w W : World} {r : Option Nat} (h : Below w.heap.size w W) : w.grownBy W r := ⟨h.os, h.tape, h.output, h.size, fun k hk _ => h.block k hk⟩
def curCells (K : Cx) (i h : Int) : Array Value := #[.slice K.a K.l.length K.cap, .int .i64 i, .int .i64 h]
/-- The cursor stands. -/
structure Drw (K : Cx) (W : World) : Prop where
  rd : RdB K.w K.a K.l
  len : K.l.length ≤ 1048576
  bel : Below K.w.heap.size K.w W
  ge : K.w.heap.size ≤ K.c
  blk : ∃ i h : Int, W.heap[K.c]? = some (.cells (curCells K i h) 89 (0, 0)) ∧ 0 ≤ i ∧ i ≤ K.l.length
/-- What a draw leaves. -/
structure Grw (K : Cx) (W W' : World) : Prop where
  cur : Drw K W'
  grow : W.grownBy W' (some K.c)
theorem Drw.self {K : Cx} {W : World} (h : Drw K W) : Grw K W W := ⟨h, grown_refl _ _⟩
theorem Grw.trans {K : Cx} {W W' W'' : World} (h : Grw K W W') (k : Grw K W' W'') : Grw K W W'' := ⟨k.cur, grown_trans h.grow k.grow⟩
theorem Drw.below {K : Cx} {W W' : World} (h : Drw K W) (hb : Below W.heap.size W W') : Drw K W' := by
  obtain ⟨i, k, hk, hi⟩ := h.blk
  exact ⟨h.rd, h.len, bel_call h.bel hb, h.ge, i, k, by rw [hb.block _ (Array.getElem?_eq_some_iff.1 hk).1]; exact hk, hi⟩
theorem Grw.below {K : Cx} {W W' W'' : World} (h : Grw K W W') (hb : Below W'.heap.size W' W'') : Grw K W W'' := h.trans ⟨h.cur.below hb, below_grown hb⟩
theorem Drw.alloc {K : Cx} {W : World} (h : Drw K W) (o : Obj) : Drw K (W.alloc o) := h.below (bel_alloc (Below.refl _ _) o)
theorem Drw.drew {K : Cx} {W : World} (h : Drw K W) : Drw K W.drew := h.below ((Below.refl _ _).drew)
theorem Drw.drewN {K : Cx} {W : World} (h : Drw K W) (n : Nat) : Drw K (W.drewN n) := h.below (bel_drewN (Below.refl _ _) n)
theorem Grw.alloc {K : Cx} {W W' : World} (h : Grw K W W') (o : Obj) : Grw K W (W'.alloc o) := h.below (bel_alloc (Below.refl _ _) o)
theorem Grw.drew {K : Cx} {W W' : World} (h : Grw K W W') : Grw K W W'.drew := h.below ((Below.refl _ _).drew)
theorem Grw.drewN {K : Cx} {W W' : World} (h : Grw K W W') (n : Nat) : Grw K W (W'.drewN n) := h.below (bel_drewN (Below.refl _ _) n)
/-- A block of another kind than the cursor's is another block. -/
theorem Drw.ne {K : Cx} {W : World} (h : Drw K W) {b : Nat} {cs : Array Value} {t : TypeId} {fr : Nat × Nat} (hb : W.heap[b]? = some (.cells cs t fr)) (ht : t ≠ 89) : b ≠ K.c := fun e => by
  obtain ⟨i, k, hk, _⟩ := h.blk
  rw [e, hk] at hb
  injection hb with hb
  injection hb with _ h2
  exact ht h2.symm
/-- The world at a block of the call's own is touched. -/
theorem Drw.other {K : Cx} {W W' : World} (h : Drw K W) {b : Nat} (hg : W.grownBy W' (some b)) (hb : K.w.heap.size ≤ b) (hne : b ≠ K.c) : Drw K W' := by
  obtain ⟨i, k, hk, hi⟩ := h.blk
  refine ⟨h.rd, h.len, h.bel.grown hg h.bel.size (fun k hk => by injection hk with hk; omega), h.ge, i, k, ?_, hi⟩
  rw [hg.block _ (Array.getElem?_eq_some_iff.1 hk).1 (by simpa using Ne.symm hne)]
  exact hk
/-- An integer between lo and hi is drawn. -/
def Draws (lo hi : Int) (K : Cx) (W : World) (e : Ending) (W' : World) : Prop := ∃ x : Int, lo ≤ x ∧ x ≤ hi ∧ e = .returned (.int .i64 x) ∧ Grw K W W'
def DrawsB (K : Cx) (W : World) (e : Ending) (W' : World) : Prop := ∃ x : Bool, e = .returned (.bool x) ∧ Grw K W W'
theorem i64_and255 (n : Int) : bits .and .i64 n 255 = n % 256 := by
  have h255 : (BitVec.ofInt 64 255).toNat = 2 ^ 8 - 1 := by decide
  have key : (BitVec.ofInt 64 n &&& BitVec.ofInt 64 255).toNat = (n % ((2 ^ 64 : Nat) : Int)).toNat % 2 ^ 8 := by
    rw [BitVec.toNat_and, BitVec.toNat_ofInt, h255, Nat.and_two_pow_sub_one_eq_mod]
  show IntKind.i64.wrap ((BitVec.ofInt 64 n &&& BitVec.ofInt 64 255).toNat : Nat) = n % 256
  rw [key, IntKind.wrap_i64]
  omega
theorem mod256_bd (n : Int) : 0 ≤ n % 256 ∧ n % 256 ≤ 255 := by omega
theorem Drw.cells {K : Cx} {W : World} (h : Drw K W) : ∃ i k : Int, 0 ≤ i ∧ i ≤ K.l.length ∧ W.heap[K.c]? = some (.cells (curCells K i k) 89 (0, 0)) ∧ W.cell? ⟨K.c, 0, none⟩ = some (.slice K.a K.l.length K.cap) ∧ W.cell? ⟨K.c, 1, none⟩ = some (.int .i64 i) ∧ W.cell? ⟨K.c, 2, none⟩ = some (.int .i64 k) ∧
    W.frozen? ⟨K.c, 0, none⟩ = false ∧ W.frozen? ⟨K.c, 1, none⟩ = false ∧ W.frozen? ⟨K.c, 2, none⟩ = false := by
  obtain ⟨i, k, hk, hi0, hi1⟩ := h.blk
  exact ⟨i, k, hi0, hi1, hk, by rw [Joins.cell_of_block hk]; rfl, by rw [Joins.cell_of_block hk]; rfl, by rw [Joins.cell_of_block hk]; rfl, Joins.unfrozen_of_block hk 0, Joins.unfrozen_of_block hk 1, Joins.unfrozen_of_block hk 2⟩
/-- What a draw of a byte stores. -/
theorem Drw.put {K : Cx} {W : World} (h : Drw K W) (i k : Int) (hi0 : 0 ≤ i) (hi1 : i ≤ K.l.length) {W' : World} (hW : W.grownBy W' (some K.c)) (hb : W'.heap[K.c]? = some (.cells (curCells K i k) 89 (0, 0))) : Grw K W W' :=
  ⟨⟨h.rd, h.len, h.bel.grown hW h.bel.size (fun b hb => by injection hb with hb; rw [← hb]; exact h.ge), h.ge, i, k, hb, hi0, hi1⟩, hW⟩
set_option maxHeartbeats 1600000 in
theorem l01Byte_s (K : Cx) (W : World) (h : Drw K W) : Calls Try.prog 98 #[.pointer (some ⟨K.c, 0, none⟩)] W (Draws 0 255 K W) := by
  obtain ⟨i, k, hi0, hi1, hb, c0, c1, c2, f0, f1, f2⟩ := h.cells
  have HB := Lib.hid hb
  have HD := Lib.hid h
  have HR := Lib.hid (h.rd.below h.bel)
  have HL := h.len
  clear hb h
  have h255 : ∀ n, bits .and .i64 n 255 = n % 256 := i64_and255
  obtain ⟨K2, hK2⟩ : ∃ K2, K2 = wrap64 (wrap64 (k * 6364136223846793005) + 1442695040888963407) := ⟨_, rfl⟩
  by_cases hlt : i < K.l.length
  · obtain ⟨j, rfl⟩ : ∃ j : Nat, i = j := ⟨i.toNat, by omega⟩
    have hj : j < K.l.length := by omega
    rcases HR.out.1 with ⟨b, off, ha, hcell⟩ | hz
    · have hc := hcell j hj
      have hne : b ≠ K.c := fun e => by
        rcases HD.out.rd.1 with ⟨b', off', ha', hcell'⟩ | hz
        · rw [ha] at ha'
          injection ha' with ha'
          injection ha' with e1 _ _
          have := World.block_lt_of_cell? _ _ (hcell' j hj)
          have := HD.out.ge
          simp at *
          omega
        · omega
      have hcd : ∀ v, (W.setCell ⟨K.c, 2, none⟩ v).cell? ⟨b, off + j, none⟩ = some (.int .u8 (nth K.l j)) := fun v => by
        rw [World.cell?_of_block (Below.heap_setCell _ _ _ _ hne)]; exact hc
      rw [ha] at c0
      clear hcell
      go_enter Try.func98, Try.ntmps98
      go_wp2
      go_quiet (fail)
      go_wp2
      go_quiet (fail)
      go_wp2
      go_quiet (fail)
      go_wp2
      go_ret
      refine ⟨_, (mod256_bd _).1, (mod256_bd _).2, rfl, HD.out.put (↑j + 1) K2 (by omega) (by omega) ?_ ?_⟩
      · repeat (first | exact grown_refl _ _ | refine grown_drewN ?_ _ | refine grown_drew ?_ | refine grown_set ?_ _ _)
      · rw [hK2]; exact Joins.block_setCell (Joins.block_setCell HB.out _) _
    · omega
  · go_enter Try.func98, Try.ntmps98
    go_wp2
    go_quiet (fail)
    go_wp2
    go_quiet (fail)
    go_wp2
    go_ret
    refine ⟨_, (mod256_bd _).1, (mod256_bd _).2, rfl, HD.out.put i K2 hi0 hi1 ?_ ?_⟩
    · repeat (first | exact grown_refl _ _ | refine grown_drewN ?_ _ | refine grown_drew ?_ | refine grown_set ?_ _ _)
    · rw [hK2]; exact Joins.block_setCell HB.out _
set_option maxHeartbeats 1600000 in
theorem l01Below_s (K : Cx) (n hi : Int) (h0 : n ≤ 0 → 0 ≤ hi) (h1 : 0 < n → n - 1 ≤ hi) (hn : n ≤ 1000000000) (W : World) (h : Drw K W) : Calls Try.prog 72 #[.pointer (some ⟨K.c, 0, none⟩), .int .i64 n] W (Draws 0 hi K W) := by
  have HD := Lib.hid h
  clear h
  by_cases c1 : n ≤ 0
  · have H0 := Lib.hid (h0 c1)
    clear h0 h1
    go_enter Try.func72, Try.ntmps72
    go_wp2
    go_ret
    exact ⟨0, by omega, H0.out, rfl, HD.out.self⟩
  · have H1 := Lib.hid (h1 (by omega))
    have c2 : ¬ n = 0 := by omega
    clear h0 h1
    have c4 : 0 < n := by omega
    by_cases c3 : n ≤ 256
    · go_enter Try.func72, Try.ntmps72
      go_wp2_with fail
      refine (l01Byte_s K _ HD.out).mono ?_
      rintro e w1 ⟨x, hx0, hx1, rfl, hg⟩
      have HG := Lib.hid hg
      clear hg
      go_wp2_with fail
      go_ret
      have H2 := H1.out
      refine ⟨_, ?_, ?_, rfl, HG.out⟩
      · first | exact Int.emod_nonneg _ c2 | (rw [Int.tmod_eq_emod_of_nonneg hx0]; exact Int.emod_nonneg _ c2)
      · have := Int.emod_lt_of_pos x c4
        first | omega | (rw [Int.tmod_eq_emod_of_nonneg hx0]; omega)
    · go_enter Try.func72, Try.ntmps72
      go_wp2_with fail
      refine (l01Byte_s K _ HD.out).mono ?_
      rintro e w1 ⟨x1, hx0, hx1, rfl, hg⟩
      have HG1 := Lib.hid hg
      clear hg
      go_wp2_with fail
      refine (l01Byte_s K _ HG1.out.cur).mono ?_
      rintro e w2 ⟨x2, hy0, hy1, rfl, hg⟩
      have HG2 := Lib.hid (HG1.out.trans hg)
      clear hg
      go_wp2_with fail
      refine (l01Byte_s K _ HG2.out.cur).mono ?_
      rintro e w3 ⟨x3, hz0, hz1, rfl, hg⟩
      have HG3 := Lib.hid (HG2.out.trans hg)
      clear hg
      go_wp2_with fail
      refine (l01Byte_s K _ HG3.out.cur).mono ?_
      rintro e w4 ⟨x4, hw0, hw1, rfl, hg⟩
      have HG4 := Lib.hid (HG3.out.trans hg)
      clear hg
      go_wp2_with fail
      go_ret
      have H2 := H1.out
      have hp : 0 ≤ x1 * 16777216 + x2 * 65536 + x3 * 256 + x4 := by omega
      have hm := Int.emod_lt_of_pos (x1 * 16777216 + x2 * 65536 + x3 * 256 + x4) c4
      refine ⟨_, ?_, ?_, rfl, HG4.out⟩
      · first | exact Int.emod_nonneg _ c2 | (rw [Int.tmod_eq_emod_of_nonneg hp]; exact Int.emod_nonneg _ c2)
      · first | omega | (rw [Int.tmod_eq_emod_of_nonneg hp]; omega)
set_option maxHeartbeats 800000 in
theorem l01Once_s (K : Cx) (n : Int) (h1 : 0 < n) (hn : n ≤ 1000000000) (W : World) (h : Drw K W) : Calls Try.prog 82 #[.pointer (some ⟨K.c, 0, none⟩), .int .i64 n] W (DrawsB K W) := by
  have HD := Lib.hid h
  clear h
  go_enter Try.func82, Try.ntmps82
  go_wp2_with fail
  refine (l01Below_s K n (n - 1) (by omega) (by omega) hn _ HD.out).mono ?_
  rintro e w1 ⟨x, hx0, hx1, rfl, hg⟩
  have HG := Lib.hid hg
  clear hg
  go_wp2_with fail
  go_ret
  exact ⟨_, rfl, HG.out⟩
/-- All elements of a list that a draw picks from. -/
def Num (l : List Int) : Prop := ∀ i, In64 (nth l i)
def DrawsI (K : Cx) (W : World) (e : Ending) (W' : World) : Prop := ∃ x : Int, In64 x ∧ e = .returned (.int .i64 x) ∧ Grw K W W'
/-- The list lies in a block of its own. -/
theorem pick_cells {W : World} {b : Nat} {l : List Int} (h : W.heap[b]? = some (.cells (arr l) 3 (0, 0))) (i : Nat) (hi : i < l.length) : W.cell? ⟨b, i, none⟩ = some (.int .i64 (nth l i)) := cell_made h i hi
set_option maxHeartbeats 1600000 in
theorem l01PickInt_s (K : Cx) (l : List Int) (hl : 0 < l.length) (hl2 : l.length ≤ 1000) (hN : Num l) (b : Nat) (W : World) (h : Drw K W) (hb : W.heap[b]? = some (.cells (arr l) 3 (0, 0))) :
    Calls Try.prog 87 #[.pointer (some ⟨K.c, 0, none⟩), .slice (some ⟨b, 0, none⟩) l.length l.length] W (DrawsI K W) := by
  have HD := Lib.hid h
  have HB := Lib.hid hb
  have HN := Lib.hid hN
  clear h hb hN
  generalize hn : l.length = n at *
  have Hn := Lib.hid hn
  clear hn
  go_enter Try.func87, Try.ntmps87
  go_wp2_with fail
  refine (l01Below_s K n (n - 1) (by omega) (by omega) (by omega) _ HD.out).mono ?_
  rintro e w1 ⟨x, hx0, hx1, rfl, hg⟩
  obtain ⟨j, rfl⟩ : ∃ j : Nat, x = j := ⟨x.toNat, by omega⟩
  have hj : j < n := by omega
  have hne := HD.out.ne HB.out (by decide)
  have hc := pick_cells (grown_on hg.grow HB.out hne) j (by rw [Hn.out]; exact hj)
  have i1 : (j : Int) < ↑n := by omega
  have HG := Lib.hid hg
  clear hg hx1
  go_wp2_with fail
  go_ret
  exact ⟨_, HN.out j, rfl, HG.out⟩
theorem num_mem {l : List Int} (h : ∀ x ∈ l, In64 x) : Num l := fun i => by
  unfold nth
  by_cases hi : i < l.length
  · rw [List.getD_eq_getElem?_getD, List.getElem?_eq_getElem hi]; exact h _ (List.getElem_mem hi)
  · rw [List.getD_eq_getElem?_getD, List.getElem?_eq_none (by omega)]; exact ⟨by decide, by decide⟩
theorem num_of {l : List Int} (h : (l.all fun x => decide (-9223372036854775808 ≤ x) && decide (x ≤ 9223372036854775807)) = true) : Num l := num_mem fun x hx => by
  have := List.all_eq_true.1 h x hx
  simp at this
  exact this
set_option maxHeartbeats 1600000 in
theorem l02Int_s (K : Cx) (W : World) (h : Drw K W) : Calls Try.prog 73 #[.pointer (some ⟨K.c, 0, none⟩)] W (DrawsI K W) := by
  have HG0 : Hid (Grw K W W) := Lib.hid h.self
  clear h
  go_enter Try.func73, Try.ntmps73
  go_wp2_with fail
  refine (l01Below_s K 6 (6 - 1) (by omega) (by omega) (by omega) _ (by repeat (first | exact HG0.out.cur | refine Drw.alloc ?_ _ | refine Drw.drew ?_ | refine Drw.drewN ?_ _))).mono ?_
  rintro e w1 ⟨x, hx0, hx1, rfl, hg⟩
  have HG1 : Hid (Grw K W w1) := Lib.hid (Grw.trans (by repeat (first | exact HG0.out | refine Grw.alloc ?_ _ | refine Grw.drew ?_ | refine Grw.drewN ?_ _)) hg)
  clear hg
  go_wp2_with fail
  · refine (l01PickInt_s K [0, 1, -1, 64, 1048576, 1048577, -1048576, -1048577, 9223372036854775807, -9223372036854775808] (by decide) (by decide) (num_of rfl) _ _ (by repeat (first | exact HG1.out.cur | refine Drw.alloc ?_ _ | refine Drw.drew ?_ | refine Drw.drewN ?_ _)) (heap_alloc_new _ _)).mono ?_
    rintro e w2 ⟨y, hy, rfl, hg⟩
    have HG2 : Hid (Grw K W w2) := Lib.hid (Grw.trans (by repeat (first | exact HG1.out | refine Grw.alloc ?_ _ | refine Grw.drew ?_ | refine Grw.drewN ?_ _)) hg)
    clear hg
    go_wp2_with fail
    go_ret
    exact ⟨_, hy, rfl, HG2.out⟩
  · refine (l01Below_s K 5000 (5000 - 1) (by omega) (by omega) (by omega) _ (by repeat (first | exact HG1.out.cur | refine Drw.alloc ?_ _ | refine Drw.drew ?_ | refine Drw.drewN ?_ _))).mono ?_
    rintro e w2 ⟨y, hy0, hy1, rfl, hg⟩
    have HG2 : Hid (Grw K W w2) := Lib.hid (Grw.trans (by repeat (first | exact HG1.out | refine Grw.alloc ?_ _ | refine Grw.drew ?_ | refine Grw.drewN ?_ _)) hg)
    clear hg
    go_wp2_with fail
    go_ret
    exact ⟨_, ⟨by omega, by omega⟩, rfl, HG2.out⟩
  · refine (l01Below_s K 8000 (8000 - 1) (by omega) (by omega) (by omega) _ (by repeat (first | exact HG1.out.cur | refine Drw.alloc ?_ _ | refine Drw.drew ?_ | refine Drw.drewN ?_ _))).mono ?_
    rintro e w2 ⟨y, hy0, hy1, rfl, hg⟩
    have HG2 : Hid (Grw K W w2) := Lib.hid (Grw.trans (by repeat (first | exact HG1.out | refine Grw.alloc ?_ _ | refine Grw.drew ?_ | refine Grw.drewN ?_ _)) hg)
    clear hg
    go_wp2_with fail
    go_ret
    exact ⟨_, ⟨by omega, by omega⟩, rfl, HG2.out⟩
end Go.Proofs.Ytcmanaklojomeaa
