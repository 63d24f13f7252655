import Derived.Test.YtlgkpogbnkpghaaAwake
namespace Go.Proofs.Ytlgkpogbnkpghaa
open Go.RowKit

theorem give_code (a n : Int) : 0 ≤ (giveW a n).2 ∧ (giveW a n).2 ≤ 3 := by
  unfold giveW
  split
  · simp
  · split
    · simp
    · split <;> simp
theorem shift_code (a m n : Int) : 0 ≤ (shiftW a m n).2 ∧ (shiftW a m n).2 ≤ 3 := by
  unfold shiftW
  split
  · simp
  · split
    · simp
    · split <;> simp
set_option maxHeartbeats 1600000 in
theorem walk_WindowChanges (a0 : Int) (a1 : Int) (a2 : Int) (w : World) (_w0 : (Lit.int .i64 a0).wf = true) (_w1 : (Lit.int .i64 a1).wf = true) (_w2 : (Lit.int .i64 a2).wf = true) :
    Calls Try.prog 3 #[.int .i64 a0, .int .i64 a1, .int .i64 a2] w fun e w' => e = .returned (.bool true) ∧ Below w.heap.size w w' := by
  clear _w0 _w1 _w2
  have H1 := Lib.hid (take_any a0 a1)
  have H2 := Lib.hid (take_ref a0 a1)
  have H3 := Lib.hid (give_any a0 a1)
  have H4 := Lib.hid (give_ref a0 a1)
  have H5 := Lib.hid (shift_any a0 a1 a2)
  have H6 := Lib.hid (shift_ref a0 a1 a2)
  have H7 := Lib.hid (check_any a0)
  have H8 := Lib.hid (check_ref a0)
  have hc1 := give_code a0 a1
  have hc2 := shift_code a0 a1 a2
  generalize takeW a0 a1 = p at H1 H2
  generalize giveW a0 a1 = q at H3 H4 hc1
  generalize shiftW a0 a1 a2 = r at H5 H6 hc2
  generalize errW a0 = n at H7 H8
  obtain ⟨p1, p2⟩ := p
  obtain ⟨q1, q2⟩ := q
  obtain ⟨r1, r2⟩ := r
  simp only at hc1 hc2 H1 H2
  obtain ⟨d1, d2⟩ := hc1
  obtain ⟨d3, d4⟩ := hc2
  go_enter Try.func3, Try.ntmps3
  go_wp2_with (first
    | (go_at_call 7; refine (H1.out _).mono ?_; rintro e w' ⟨rfl, rfl⟩)
    | (go_at_call 8; refine (H2.out _).mono ?_; rintro e w' ⟨rfl, rfl⟩)
    | (go_at_call 9; refine (H3.out _).mono ?_; rintro e w' ⟨rfl, rfl⟩)
    | (go_at_call 10; refine (H4.out _).mono ?_; rintro e w' ⟨rfl, rfl⟩)
    | (go_at_call 11; refine (H5.out _).mono ?_; rintro e w' ⟨rfl, rfl⟩)
    | (go_at_call 12; refine (H6.out _).mono ?_; rintro e w' ⟨rfl, rfl⟩)
    | (go_at_call 13; refine (H7.out _).mono ?_; rintro e w' ⟨rfl, rfl⟩)
    | (go_at_call 14; refine (H8.out _).mono ?_; rintro e w' ⟨rfl, rfl⟩)
    | (go_at_call 15; refine (awake_any _).mono ?_; rintro e w1 ⟨rfl, hb1⟩))
  go_ret
  exact ⟨rfl, hb1⟩
end Go.Proofs.Ytlgkpogbnkpghaa
