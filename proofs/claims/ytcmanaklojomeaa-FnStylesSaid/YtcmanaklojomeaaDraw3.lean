/- What the laws of lengths draw. No condition. -/
import Derived.Test.YtcmanaklojomeaaDraw2
namespace Go.Proofs.Ytcmanaklojomeaa
open Go.RowKit Go.Deep
set_option linter.unusedVariables false
def Three (w : World) (e : Ending) (w' : World) : Prop := ∃ x y z : Int, In64 x ∧ In64 y ∧ In64 z ∧ e = .returned (.tuple #[.int .i64 x, .int .i64 y, .int .i64 z]) ∧ Below w.heap.size w w'
def Two (w : World) (e : Ending) (w' : World) : Prop := ∃ x y : Int, In64 x ∧ In64 y ∧ e = .returned (.tuple #[.int .i64 x, .int .i64 y]) ∧ Below w.heap.size w w'
set_option maxHeartbeats 1600000 in
theorem drawWithin_s (w : World) (a : Option Addr) (cap : Nat) (l : List Int) (hl : l.length ≤ 1048576) (hr : RdB w a l) : Calls Try.prog 11 #[.slice a l.length cap] w (Three w) := by
  go_enter Try.func11, Try.ntmps11
  go_wp2_with fail
  refine (l01New_s w a cap l hl hr).mono ?_
  rintro e w0 ⟨c, rfl, hd⟩
  have HD := Lib.hid hd
  clear hd hr
  go_wp2_with fail
  refine (l02Int_s _ _ HD.out).mono ?_
  rintro e w1 ⟨x, hx, rfl, hg⟩
  have HX := Lib.hid hx
  have H1 := Lib.hid hg.cur
  clear hg hx
  go_wp2_with fail
  refine (l02Int_s _ _ H1.out).mono ?_
  rintro e w2 ⟨y, hy, rfl, hg⟩
  have HY := Lib.hid hy
  have H2 := Lib.hid hg.cur
  clear hg hy
  go_wp2_with fail
  refine (l02Int_s _ _ H2.out).mono ?_
  rintro e w3 ⟨z, hz, rfl, hg⟩
  have HZ := Lib.hid hz
  have H3 := Lib.hid hg.cur
  clear hg hz
  go_wp2_with fail
  go_ret3
  exact ⟨x, y, z, HX.out, HY.out, HZ.out, rfl, H3.out.bel⟩
set_option maxHeartbeats 1600000 in
theorem drawAddLen_s (w : World) (a : Option Addr) (cap : Nat) (l : List Int) (hl : l.length ≤ 1048576) (hr : RdB w a l) : Calls Try.prog 13 #[.slice a l.length cap] w (Two w) := by
  go_enter Try.func13, Try.ntmps13
  go_wp2_with fail
  refine (l01New_s w a cap l hl hr).mono ?_
  rintro e w0 ⟨c, rfl, hd⟩
  have HD := Lib.hid hd
  clear hd hr
  go_wp2_with fail
  refine (l02Int_s _ _ HD.out).mono ?_
  rintro e w1 ⟨x, hx, rfl, hg⟩
  have HX := Lib.hid hx
  have H1 := Lib.hid hg.cur
  clear hg hx
  go_wp2_with fail
  refine (l02Int_s _ _ H1.out).mono ?_
  rintro e w2 ⟨y, hy, rfl, hg⟩
  have HY := Lib.hid hy
  have H2 := Lib.hid hg.cur
  clear hg hy
  go_wp2_with fail
  go_ret2
  exact ⟨x, y, HX.out, HY.out, rfl, H2.out.bel⟩
set_option maxHeartbeats 400000 in
theorem big_l (a : Option Addr) (n cap : Nat) (w : World) : Calls Try.prog 8 #[.slice a n cap] w fun e w' => e = .returned (.bool (decide (1048576 < (n : Int)))) ∧ w = w' := by
  go_enter Try.func8, Try.ntmps8
  go_wp2
  go_ret
  exact ⟨rfl, rfl⟩
/-- The twelve places, read. -/
theorem places_at {w w' : World} {v : Value} {L : List Int} (hL : L.length = 12) (hx : ∀ x ∈ L, 0 ≤ x ∧ x ≤ 9999) (h : Ow w w' v L) :
    ∃ g cap, v = .slice (some ⟨g, 0, none⟩) 12 cap ∧ ∃ p : Nat → Int, (∀ i, i < 12 → w'.cell? ⟨g, i, none⟩ = some (.int .i64 (p i))) ∧ ∀ i, 0 ≤ p i ∧ p i ≤ 9999 := by
  obtain ⟨a, cap, hv, hr⟩ := h.rd
  rcases h.own.2 with ⟨_, h0⟩ | ⟨g, cap2, cur, hv2, _⟩
  · omega
  · rw [hL] at hv2
    refine ⟨g, cap2, hv2, nth L, fun i hi => ?_, fun i => ?_⟩
    · have := h.own.cells (g := g) (by rw [hv2]; rfl) i (.int .i64 (nth L i)) (by simp [nth, List.getD_eq_getElem?_getD, show i < L.length by omega])
      rw [Addr.add_lit, Nat.zero_add] at this; exact this
    · unfold nth
      by_cases hi : i < L.length
      · rw [List.getD_eq_getElem?_getD, List.getElem?_eq_getElem hi]; exact hx _ (List.getElem_mem hi)
      · rw [List.getD_eq_getElem?_getD, List.getElem?_eq_none (by omega)]; exact ⟨by decide, by decide⟩
end Go.Proofs.Ytcmanaklojomeaa
