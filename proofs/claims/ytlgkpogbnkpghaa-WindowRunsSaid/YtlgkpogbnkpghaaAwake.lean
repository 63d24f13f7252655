import Derived.Test.YtlgkpogbnkpghaaRunRef
namespace Go.Proofs.Ytlgkpogbnkpghaa
open Go.RowKit

def AwakePost (w : World) (e : Ending) (w' : World) : Prop := e = .returned (.bool true) ∧ Below w.heap.size w w'
set_option maxRecDepth 100000 in
set_option maxHeartbeats 3200000 in
theorem awake_any (w : World) : Calls Try.prog 15 #[] w (AwakePost w) := by
  have H1 := Lib.hid (take_any 5 5)
  have H2 := Lib.hid (take_any 5 6)
  have H3 := Lib.hid (give_any 2147483647 1)
  have H4 := Lib.hid (shift_any 10 100 0)
  have H5 := Lib.hid (give_any 5 0)
  have H6 := Lib.hid (may_any 9 7 8 20)
  have H7 := Lib.hid (may_any 9 (-1) 8 20)
  have H8 := Lib.hid (check_any 2147483647)
  have H9 := Lib.hid (check_any 2147483648)
  rw [show takeW 5 5 = (0, true) by decide] at H1
  rw [show takeW 5 6 = (5, false) by decide] at H2
  rw [show giveW 2147483647 1 = (2147483647, 3) by decide] at H3
  rw [show shiftW 10 100 0 = (-90, 0) by decide] at H4
  rw [show giveW 5 0 = (5, 1) by decide] at H5
  rw [show mayW 9 7 8 20 = 7 by decide] at H6
  rw [show mayW 9 (-1) 8 20 = 0 by decide] at H7
  rw [show errW 2147483647 = 0 by decide] at H8
  rw [show errW 2147483648 = 8 by decide] at H9
  go_enter Try.func15, Try.ntmps15
  go_wp2_with fail
  refine (H1.out _).mono ?_
  rintro e w' ⟨rfl, rfl⟩
  go_wp2_with fail
  refine (H2.out _).mono ?_
  rintro e w' ⟨rfl, rfl⟩
  go_wp2_with fail
  refine (H3.out _).mono ?_
  rintro e w' ⟨rfl, rfl⟩
  go_wp2_with fail
  refine (H4.out _).mono ?_
  rintro e w' ⟨rfl, rfl⟩
  go_wp2_with fail
  refine (H5.out _).mono ?_
  rintro e w' ⟨rfl, rfl⟩
  go_wp2_with fail
  have hrow : Acts (w.alloc (.cells #[.int .u8 0, .int .i64 4, .int .u8 1, .int .i64 9, .int .u8 0, .int .i64 16, .int .u8 1, .int .i64 1] 41)) (some ⟨w.heap.size, 0, none⟩) 4 4 [(0, 4), (1, 9), (0, 16), (1, 1)] :=
    agg_own (fun _ => rfl) (by decide) (World.ownsRow_lit (base := w.heap.size) (e := 41) (size := 2) w #[.int .u8 0, .int .i64 4, .int .u8 1, .int .i64 9, .int .u8 0, .int .i64 16, .int .u8 1, .int .i64 1] 4 (Nat.le_refl _) (by decide) rfl) (by decide)
  refine (run_any 10 _ 4 4 _ _ hrow (by decide)).mono ?_
  rw [show runW [(0, 4), (1, 9), (0, 16), (1, 1)] 10 = (15, 3) by decide]
  rintro e w1 ⟨rfl, hb1⟩
  have hL := Lib.hid (lo_trans (lo_alloc (lo_refl w) _) hb1)
  clear hb1 hrow
  go_wp2_with fail
  refine (H6.out _).mono ?_
  rintro e w' ⟨rfl, rfl⟩
  go_wp2_with fail
  refine (H7.out _).mono ?_
  rintro e w' ⟨rfl, rfl⟩
  go_wp2_with fail
  refine (H8.out _).mono ?_
  rintro e w' ⟨rfl, rfl⟩
  go_wp2_with fail
  refine (H9.out _).mono ?_
  rintro e w' ⟨rfl, rfl⟩
  go_wp2_with fail
  go_ret
  exact ⟨rfl, hL.out⟩
end Go.Proofs.Ytlgkpogbnkpghaa
