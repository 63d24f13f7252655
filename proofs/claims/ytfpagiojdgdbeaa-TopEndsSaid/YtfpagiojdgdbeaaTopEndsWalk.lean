import Derived.Test.YtfpagiojdgdbeaaTop
namespace Go.Proofs.Ytfpagiojdgdbeaa
open Go.RowKit
attribute [local go_sem ↓] Go.wp_at_zero Go.wp_at_succ

set_option maxRecDepth 100000 in
set_option maxHeartbeats 1600000 in
theorem walk_TopEnds (s0_0 : Int) (s0_1 : Int) (s0_2 : Int) (a1 : Option Addr) (len1 cap1 : Nat) (xs1 : List Int) (a2 : Option Addr) (len2 cap2 : Nat) (xs2 : List Int) (w : World) (w0_0 : (Lit.int .u8 s0_0).wf = true) (w0_1 : (Lit.int .u8 s0_1).wf = true) (w0_2 : (Lit.int .u8 s0_2).wf = true) (w1 : IntRow .u8 w a1 len1 cap1 xs1) (w2 : IntRow .u8 w a2 len2 cap2 xs2) :
    Calls Try.prog 3 #[.agg #[.int .u8 s0_0, .int .u8 s0_1, .int .u8 s0_2], .slice a1 len1 cap1, .slice a2 len2 cap2] w fun e w' => e = .returned (.bool true) ∧ Below w.heap.size w w' := by
  by_cases h1 : len1 < 2
  · have HA := Lib.hid awake_any
    have hL := lo_alloc (lo_refl w) (.cells #[.int .u8 s0_0, .int .u8 s0_1, .int .u8 s0_2] 22)
    have h1' : (len1 : Int) < 2 := by omega
    clear w1 w2
    go_enter Try.func3, Try.ntmps3
    go_wp2_with fail
    refine (HA.out _).mono ?_
    rintro e w3 ⟨rfl, hb⟩
    have hM := Lib.hid (lo_trans hL hb)
    clear hb
    go_wp2_with fail
    go_ret
    exact ⟨rfl, hM.out⟩
  by_cases h2 : 4 < len1
  · have HA := Lib.hid awake_any
    have hL := lo_alloc (lo_refl w) (.cells #[.int .u8 s0_0, .int .u8 s0_1, .int .u8 s0_2] 22)
    have h1' : ¬ (len1 : Int) < 2 := by omega
    have h2' : (4 : Int) < (len1 : Int) := by omega
    clear w1 w2
    go_enter Try.func3, Try.ntmps3
    go_wp2_with fail
    refine (HA.out _).mono ?_
    rintro e w3 ⟨rfl, hb⟩
    have hM := Lib.hid (lo_trans hL hb)
    clear hb
    go_wp2_with fail
    go_ret
    exact ⟨rfl, hM.out⟩
  by_cases h3 : 200 < len2
  · have HA := Lib.hid awake_any
    have hL := lo_alloc (lo_refl w) (.cells #[.int .u8 s0_0, .int .u8 s0_1, .int .u8 s0_2] 22)
    have h1' : ¬ (len1 : Int) < 2 := by omega
    have h2' : ¬ (4 : Int) < (len1 : Int) := by omega
    have h3' : (200 : Int) < (len2 : Int) := by omega
    clear w1 w2
    go_enter Try.func3, Try.ntmps3
    go_wp2_with fail
    refine (HA.out _).mono ?_
    rintro e w3 ⟨rfl, hb⟩
    have hM := Lib.hid (lo_trans hL hb)
    clear hb
    go_wp2_with fail
    go_ret
    exact ⟨rfl, hM.out⟩
  exact ends_walk s0_0 s0_1 s0_2 a1 len1 cap1 xs1 a2 len2 cap2 xs2 w w0_0 w0_1 w0_2 w1 w2 (by omega) (by omega)
end Go.Proofs.Ytfpagiojdgdbeaa
