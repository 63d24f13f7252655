import Derived.Test.YtlgkpogbnkpghaaAwake
import Derived.Deep.QuietTactic
import Derived.BigQuiet
namespace Go.Proofs.Ytlgkpogbnkpghaa
open Go.RowKit

theorem errW_yes {a : Int} (h : isB a = true) : errW a = 0 := if_pos h
theorem errW_no {a : Int} (h : isB a = false) : errW a = 8 := if_neg (by rw [h]; simp)
theorem shiftW_ok {x a b : Int} (hx : isB x = true) (ha : szB a = true) (hb : szB b = true) (h : isB (x + b - a) = true) : shiftW x a b = (x + b - a, 0) := by
  unfold shiftW
  simp [hx, ha, hb, h]
theorem shiftW_bad {x a b : Int} (hx : isB x = true) (ha : szB a = true) (hb : szB b = true) (h : isB (x + b - a) = false) : shiftW x a b = (x, 3) := by
  unfold shiftW
  simp [hx, ha, hb, h]
set_option maxHeartbeats 1600000 in
theorem there_walk (x n0 n1 n2 : Int) (w : World) (hx : -2147483648 ≤ x) (hx' : x ≤ 2147483647) (h0 : 0 ≤ n0) (h1 : 0 ≤ n1) (h2 : 0 ≤ n2) :
    Calls Try.prog 6 #[.int .i32 x, .agg #[.int .u32 n0, .int .u32 n1, .int .u32 n2]] w (AwakePost w) := by
  have hn0 : 0 ≤ n0 % 2147483648 ∧ n0 % 2147483648 ≤ 2147483647 := by omega
  have hn1 : 0 ≤ n1 % 2147483648 ∧ n1 % 2147483648 ≤ 2147483647 := by omega
  have hn2 : 0 ≤ n2 % 2147483648 ∧ n2 % 2147483648 ≤ 2147483647 := by omega
  have H0 := Lib.hid (check_any x)
  go_enter Try.func6, Try.ntmps6
  go_wp2_with fail
  go_quiet (fail)
  go_wp2_with fail
  generalize n0 % 2147483648 = a at hn0 ⊢
  generalize n1 % 2147483648 = b at hn1 ⊢
  generalize n2 % 2147483648 = c at hn2 ⊢
  obtain ⟨a1, a2⟩ := hn0
  obtain ⟨b1, b2⟩ := hn1
  obtain ⟨c1, c2⟩ := hn2
  have hs0 := szB_yes ⟨a1, a2⟩
  have hs1 := szB_yes ⟨b1, b2⟩
  have hs2 := szB_yes ⟨c1, c2⟩
  have hL := Lib.hid (lo_drewN (lo_alloc (lo_refl w) (.cells #[.int .u32 n0, .int .u32 n1, .int .u32 n2] 50)) nq)
  generalize (w.alloc (.cells #[.int .u32 n0, .int .u32 n1, .int .u32 n2] 50)).drewN nq = w1 at hL ⊢
  refine (H0.out _).mono ?_
  rintro e w' ⟨rfl, rfl⟩
  cases hk0 : isB x
  · rw [errW_no hk0]
    go_wp2_with fail
    refine (awake_any _).mono ?_
    rintro e w2 ⟨rfl, hb2⟩
    have hM := Lib.hid (lo_trans hL.out hb2)
    go_wp2_with fail
    go_ret
    exact ⟨rfl, hM.out⟩
  · obtain ⟨x1, x2⟩ := isB_iff.1 hk0
    rw [errW_yes hk0]
    cases hk1 : isB (x + b - a)
    · have H1 := Lib.hid (shift_any x a b)
      rw [shiftW_bad hk0 hs0 hs1 hk1] at H1
      go_wp2_with fail
      refine (H1.out _).mono ?_
      rintro e w' ⟨rfl, rfl⟩
      go_wp2_with fail
      refine (awake_any _).mono ?_
      rintro e w2 ⟨rfl, hb2⟩
      have hM := Lib.hid (lo_trans hL.out hb2)
      go_wp2_with fail
      go_ret
      exact ⟨rfl, hM.out⟩
    · have H1 := Lib.hid (shift_any x a b)
      have H2 := Lib.hid (shift_any (x + b - a) b a)
      rw [shiftW_ok hk0 hs0 hs1 hk1] at H1
      rw [shiftW_ok hk1 hs1 hs0 (by rw [show x + b - a + a - b = x by omega]; exact hk0), show x + b - a + a - b = x by omega] at H2
      obtain ⟨y1, y2⟩ := isB_iff.1 hk1
      have H3 := Lib.hid (shift_any (x + b - a) b c)
      have H4 := Lib.hid (shift_any x a c)
      cases hk2 : isB (x + c - a)
      · rw [shiftW_bad hk1 hs1 hs2 (by rw [show x + b - a + c - b = x + c - a by omega]; exact hk2)] at H3
        rw [shiftW_bad hk0 hs0 hs2 hk2] at H4
        have he : x + b - a - x = b - a := by omega
        generalize x + b - a = y at *
        go_wp2_with fail
        refine (H1.out _).mono ?_
        rintro e w' ⟨rfl, rfl⟩
        go_wp2_with fail
        refine (H2.out _).mono ?_
        rintro e w' ⟨rfl, rfl⟩
        go_wp2_with fail
        refine (H3.out _).mono ?_
        rintro e w' ⟨rfl, rfl⟩
        go_wp2_with fail
        refine (H4.out _).mono ?_
        rintro e w' ⟨rfl, rfl⟩
        go_wp2_with fail
        refine (awake_any _).mono ?_
        rintro e w2 ⟨rfl, hb2⟩
        have hM := Lib.hid (lo_trans hL.out hb2)
        go_wp2_with fail
        go_ret
        exact ⟨rfl, hM.out⟩
      · rw [shiftW_ok hk1 hs1 hs2 (by rw [show x + b - a + c - b = x + c - a by omega]; exact hk2), show x + b - a + c - b = x + c - a by omega] at H3
        rw [shiftW_ok hk0 hs0 hs2 hk2] at H4
        have he : x + b - a - x = b - a := by omega
        generalize x + b - a = y at *
        generalize x + c - a = z at *
        go_wp2_with fail
        refine (H1.out _).mono ?_
        rintro e w' ⟨rfl, rfl⟩
        go_wp2_with fail
        refine (H2.out _).mono ?_
        rintro e w' ⟨rfl, rfl⟩
        go_wp2_with fail
        refine (H3.out _).mono ?_
        rintro e w' ⟨rfl, rfl⟩
        go_wp2_with fail
        refine (H4.out _).mono ?_
        rintro e w' ⟨rfl, rfl⟩
        go_wp2_with fail
        refine (awake_any _).mono ?_
        rintro e w2 ⟨rfl, hb2⟩
        have hM := Lib.hid (lo_trans hL.out hb2)
        go_wp2_with fail
        go_ret
        exact ⟨rfl, hM.out⟩
theorem walk_WindowThere (a0 : Int) (s1_0 : Int) (s1_1 : Int) (s1_2 : Int) (w : World) (w0 : (Lit.int .i32 a0).wf = true) (w1_0 : (Lit.int .u32 s1_0).wf = true) (w1_1 : (Lit.int .u32 s1_1).wf = true) (w1_2 : (Lit.int .u32 s1_2).wf = true) :
    Calls Try.prog 6 #[.int .i32 a0, .agg #[.int .u32 s1_0, .int .u32 s1_1, .int .u32 s1_2]] w fun e w' => e = .returned (.bool true) ∧ Below w.heap.size w w' := by
  simp [Lit.wf, IntKind.min, IntKind.max, IntKind.signed, IntKind.bits] at w0 w1_0 w1_1 w1_2
  exact there_walk a0 s1_0 s1_1 s1_2 w (by omega) (by omega) (by omega) (by omega) (by omega)
end Go.Proofs.Ytlgkpogbnkpghaa
