import Derived.Test.YtpafncellopphaaAwake
import Derived.Test.YtpafncellopphaaFindRef
import Derived.Deep.DrawnRows
namespace Go.Proofs.Ytpafncellopphaa
open Go.RowKit
attribute [local go_sem ↓] Go.wp_at_zero Go.wp_at_succ

set_option maxRecDepth 100000 in
set_option maxHeartbeats 3200000 in
theorem walk_StaticFinds (a0 : ByteArray) (a1 : ByteArray) (w : World) (_w0 : a0.size ≤ maxLen) (_w1 : a1.size ≤ maxLen) :
    Calls Try.prog 4 #[.string a0, .string a1] w fun e w' => e = .returned (.bool true) ∧ Below w.heap.size w w' := by
  by_cases h0 : a0.size > 100
  · go_enter Try.func4, Try.ntmps4
    go_wp2_with fail
    refine (awake_any _).mono ?_
    rintro e w2 ⟨rfl, hb2⟩
    have hM := Lib.hid hb2
    go_wp2_with fail
    go_ret
    exact ⟨rfl, hM.out⟩
  · by_cases h1 : a1.size > 100
    · go_enter Try.func4, Try.ntmps4
      go_wp2_with fail
      refine (awake_any _).mono ?_
      rintro e w2 ⟨rfl, hb2⟩
      have hM := Lib.hid hb2
      go_wp2_with fail
      go_ret
      exact ⟨rfl, hM.out⟩
    · have H1 := Lib.hid (find_any a0 a1)
      have H2 := Lib.hid (find_ref a0 a1)
      generalize findT a0 a1 = r at H1 H2
      go_enter Try.func4, Try.ntmps4
      go_wp2_with fail
      refine (H1.out _).mono ?_
      rintro e w2 ⟨rfl, hb2⟩
      have hL := Lib.hid hb2
      clear hb2
      go_wp2_with fail
      refine (H2.out _).mono ?_
      rintro e w3 ⟨rfl, hb3⟩
      have hL := Lib.hid (lo_trans hL.out hb3)
      clear hb3
      go_wp2_with fail
      refine (awake_any _).mono ?_
      rintro e w4 ⟨rfl, hb4⟩
      go_wp2_with fail
      go_ret
      exact ⟨rfl, lo_trans hL.out hb4⟩
end Go.Proofs.Ytpafncellopphaa
