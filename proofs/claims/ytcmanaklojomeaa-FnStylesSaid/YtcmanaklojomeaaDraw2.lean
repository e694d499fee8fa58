/- The cursor is made; the twelve places are drawn. No condition. -/
import Derived.Test.YtcmanaklojomeaaDraw
import Derived.Test.YtcmanaklojomeaaOwn
import Derived.Test.YtcmanaklojomeaaCore2
namespace Go.Proofs.Ytcmanaklojomeaa
open Go.RowKit Go.Deep
set_option linter.unusedVariables false
/-- A cursor of one's own. -/
def NewCur (w : World) (a : Option Addr) (cap : Nat) (l : List Int) (e : Ending) (w' : World) : Prop := ∃ c, e = .returned (.pointer (some ⟨c, 0, none⟩)) ∧ Drw ⟨w, c, a, cap, l⟩ w'
theorem Drw.new {w : World} {a : Option Addr} {cap : Nat} {l : List Int} (hr : RdB w a l) (hl : l.length ≤ 1048576) (h : Int) (o : Obj) (ho : o = .cells #[.slice a l.length cap, .int .i64 0, .int .i64 h] 89 (0, 0)) : Drw ⟨w, w.heap.size, a, cap, l⟩ (w.alloc o) :=
  ⟨hr, hl, bel_alloc (Below.refl _ _) _, Nat.le_refl _, 0, h, by rw [ho]; exact heap_alloc_new _ _, by decide, by show (0 : Int) ≤ _; omega⟩
set_option maxHeartbeats 1600000 in
theorem l01New_s (w : World) (a : Option Addr) (cap : Nat) (l : List Int) (hl : l.length ≤ 1048576) (hr : RdB w a l) : Calls Try.prog 71 #[.slice a l.length cap] w (NewCur w a cap l) := by
  have HR := Lib.hid hr
  clear hr
  go_enter Try.func71, Try.ntmps71
  go_wp2
  go_loop [3, 4] (fun h i => ∃ (k : Nat) (H : Int), k ≤ l.length ∧ k ≤ 4000 ∧ i = .int .i64 k ∧ h = .int .i64 H) (fun _ i => l.length - (intOf i).toNat)
  case atStart => exact ⟨0, _, Nat.zero_le _, Nat.zero_le _, rfl, rfl⟩
  case round =>
    obtain ⟨k, H, hk, hk2, rfl, rfl⟩ := hrel
    by_cases hlt : k < l.length
    · by_cases hlt2 : k < 4000
      · rcases HR.out.1 with ⟨b, off, rfl, hcell⟩ | hz
        · have hc := hcell k hlt
          clear hcell
          have d1 : (k : Int) < ↑l.length := by omega
          have d2 : (k : Int) < 4000 := by omega
          go_wp2
          go_round
          case rel => exact ⟨k + 1, _, by omega, by omega, by go_num, rfl⟩
          case measure => simp [intOf]; omega
        · omega
      · have d1 : (k : Int) < ↑l.length := by omega
        have d2 : ¬ (k : Int) < 4000 := by omega
        go_wp2
        go_ret
        exact ⟨_, rfl, Drw.new HR.out hl H _ rfl⟩
    · have d1 : ¬ (k : Int) < ↑l.length := by omega
      go_wp2
      go_ret
      exact ⟨_, rfl, Drw.new HR.out hl H _ rfl⟩
/-- A slice of the call's own lies on while it is drawn. -/
theorem Ow.kept {K : Cx} {W W' : World} {v : Value} {l : List Int} (h : Ow K.w W v l) (hD : Drw K W) (hg : Grw K W W') : Ow K.w W' v l := by
  refine ⟨hg.cur.bel, h.own.kept hg.grow ?_⟩
  rcases h.own.2 with ⟨hv, h0⟩ | ⟨g, cap, cur, hv, hb, hh, _⟩
  · left; rw [hv]; rfl
  · right
    rw [hv]
    have := hD.ne hh (by decide)
    show some g ≠ some K.c
    simpa using this
theorem Drw.app {K : Cx} {W w1 : World} {v : Value} {l : List Int} {o : Obj} (h : Drw K W) (hO : Ow K.w W v l) (hg : (W.alloc o).grownBy w1 v.ownBlock) : Drw K w1 := by
  rcases hO.own.2 with ⟨hv, h0⟩ | ⟨g, cap, cur, hv, hb, hh, _⟩
  · obtain ⟨i, k, hk, hi⟩ := (h.alloc o).blk
    have hr : v.ownBlock = none := by rw [hv]; rfl
    rw [hr] at hg
    exact ⟨h.rd, h.len, (h.alloc o).bel.grown hg (h.alloc o).bel.size (fun k hk => by cases hk), h.ge, i, k, by rw [hg.block _ (Array.getElem?_eq_some_iff.1 hk).1 (by simp)]; exact hk, hi⟩
  · have hr : v.ownBlock = some g := by rw [hv]; rfl
    rw [hr] at hg
    exact (h.alloc o).other hg hb (h.ne hh (by decide))
/-- append of one integer beside a cursor. -/
theorem wpList_appd {K : Cx} {W : World} {v : Value} {l : List Int} (hD : Drw K W) (h : Ow K.w W v l) {ops : Array Oper} {rest : List Oper} {o : Oper} {a : Act} {Q : Exit → Act → World → Prop} (hgd : o.guard = none) (s x : Operand)
    (ho : o.op = .call { callee := .builtin .append, args := #[s, x], argTypes := #[24, 24] }) (z : Int) (hs : a.eval s = v) (hx : a.eval x = .slice (some ⟨W.heap.size, 0, none⟩) 1 1) (hl : l.length ≤ 1048576)
    (hK : ∀ v' w1, Ow K.w w1 v' (l ++ [z]) → Drw K w1 → wpList Try.prog ops Q rest (a.put o.dst v') w1) : wpList Try.prog ops Q (o :: rest) a (W.alloc (.cells #[.int .i64 z] 3)) := by
  obtain ⟨i0, hi, hz0, hz1, hz2⟩ := info_parts infoInt
  refine wpList_append_own _ hgd s x 24 ho K.w.heap.size 3 i0 (.int .i64 0) 1 8 Try.underlying24 hi hz0 hz1 hz2 rfl (by decide) v l.length _ hs (h.own.alloc _) ⟨W.heap.size, 0, none⟩ 1 1 [.int .i64 z] hx rfl (World.news_of_block (heap_alloc_new W _)) ?_ ?_ ?_ ?_ ?_
  · intro u hu; simp at hu; subst hu; rfl
  · unfold maxLen; omega
  · omega
  · have := h.bel.size; simp; omega
  · intro v' w1 hown hgrow _
    exact hK v' w1 (h.step hown hgrow) (hD.app h hgrow)
/-- k places are drawn. -/
def Plc (K : Cx) (k : Nat) (wr : World) (v : Value) : Prop := ∃ L : List Int, L.length = k ∧ (∀ x ∈ L, 0 ≤ x ∧ x ≤ 9999) ∧ Ow K.w wr v L ∧ Drw K wr
def Places (w : World) (e : Ending) (w' : World) : Prop := ∃ v L, e = .returned v ∧ L.length = 12 ∧ (∀ x ∈ L, 0 ≤ x ∧ x ≤ 9999) ∧ Ow w w' v L
set_option maxHeartbeats 1600000 in
theorem drawPlaces_s (w : World) (a : Option Addr) (cap : Nat) (l : List Int) (hl : l.length ≤ 1048576) (hr : RdB w a l) : Calls Try.prog 9 #[.slice a l.length cap] w (Places w) := by
  go_enter Try.func9, Try.ntmps9
  go_wp2_with fail
  refine (l01New_s w a cap l hl hr).mono ?_
  rintro e w0 ⟨c, rfl, hd⟩
  have HD := Lib.hid hd
  clear hd hr
  go_wp2
  go_loopw [4, 5] (fun v i wr => ∃ k : Nat, k ≤ 12 ∧ i = .int .i64 k ∧ Plc ⟨w, c, a, cap, l⟩ k wr v) (fun _ i _ => 12 - (intOf i).toNat)
  case atStart => exact ⟨0, Nat.zero_le _, rfl, [], rfl, (fun x hx => by cases hx), Ow.made HD.out.bel, HD.out.alloc _⟩
  case round =>
    obtain ⟨k, hk, rfl, L, hL, hx, how, hd⟩ := hrel
    have HO := Lib.hid how
    have HX := Lib.hid hx
    have HC := Lib.hid hd
    have HL := Lib.hid hL
    clear hL how hx hd
    by_cases hlt : k < 12
    · go_wp2_with fail
      refine (l01Below_s ⟨w, c, a, cap, l⟩ 10000 9999 (by omega) (by omega) (by omega) _ HC.out).mono ?_
      rintro e w1 ⟨x, x0, x1, rfl, hg⟩
      have HG := Lib.hid hg
      have HO1 := Lib.hid (HO.out.kept HC.out hg)
      clear hg
      go_wp2_with (at_builtin; go_loud ((apply wpList_appd (s := .tmp 13) (x := .tmp 16) HG.out.cur HO1.out); (· rfl); (· rfl); (· rfl); (· rfl); (· have := HL.out; omega); (intro v' w2 h1 h2)))
      go_roundw
      case rel => exact ⟨k + 1, by omega, by go_num, L ++ [x], by rw [List.length_append, HL.out]; rfl, (fun y hy => by rcases List.mem_append.1 hy with h | h; exact HX.out y h; simp at h; subst h; exact ⟨x0, x1⟩), h1, h2⟩
      case measure => simp [intOf]; omega
    · obtain rfl : k = 12 := by omega
      go_wp2
      go_ret
      exact ⟨_, L, rfl, HL.out, HX.out, HO.out⟩
end Go.Proofs.Ytcmanaklojomeaa
