import Derived.Test.YtpafncellopphaaAwake
import Derived.Test.YtpafncellopphaaPlain
import Derived.Deep.DrawnRows
namespace Go.Proofs.Ytpafncellopphaa
open Go.RowKit
attribute [local go_sem ↓] Go.wp_at_zero Go.wp_at_succ

set_option maxRecDepth 100000 in
set_option maxHeartbeats 3200000 in
theorem walk_StaticBack (a0 : Int) (a1 : ByteArray) (w : World) (w0 : (Lit.int .u8 a0).wf = true) (_w1 : a1.size ≤ maxLen) :
    Calls Try.prog 5 #[.int .u8 a0, .string a1] w fun e w' => e = .returned (.bool true) ∧ Below w.heap.size w w' := by
  by_cases hbig : a1.size > 100
  · go_enter Try.func5, Try.ntmps5
    go_wp2_with fail
    refine (awake_any _).mono ?_
    rintro e w2 ⟨rfl, hb2⟩
    have hM := Lib.hid hb2
    go_wp2_with fail
    go_ret
    exact ⟨rfl, hM.out⟩
  · have hb := bounds_u8 w0
    clear w0
    go_enter Try.func5, Try.ntmps5
    go_wp2_with fail
    obtain ⟨p, hp, hpe⟩ : ∃ p : Nat, p < 61 ∧ 1 + a0 % 61 = (p : Int) + 1 := ⟨(a0 % 61).toNat, by omega, by omega⟩
    rw [hpe]
    clear hpe hb
    have h1 := at_any ((p : Int) + 1)
    rw [at_in hp] at h1
    have h2 := find_self p hp
    obtain ⟨j, b, hj, h3, h4, h5⟩ := back_plain hp a1
    have h6 := at_any ((j : Int) + 1)
    rw [at_in hj] at h6
    generalize tab.getD p nofield = x at h1 h2 h3 h4
    generalize tab.getD j nofield = y at h4 h5 h6
    obtain ⟨xn, xv⟩ := x
    obtain ⟨yn, yv⟩ := y
    simp only at h2 h3 h4 h5
    subst h4
    have h7 := find_any yn xv
    rw [h2] at h7
    have h8 := find_any yn a1
    rw [h3] at h8
    have H1 := Lib.hid h1
    have H6 := Lib.hid h6
    have H7 := Lib.hid h7
    have H8 := Lib.hid h8
    clear h1 h2 h3 h6 h7 h8
    refine (H1.out _).mono ?_
    rintro e w1 ⟨rfl, hb1⟩
    have hB := Blk.new w1 23 #[.string yn, .string xv, .bool false]
    have hL := Lib.hid (lo_alloc hb1 (.cells #[.string yn, .string xv, .bool false] 23))
    clear hb1
    go_wp2_with fail
    refine (H7.out _).mono ?_
    rintro e w2 ⟨rfl, hb2⟩
    have hB := hB.lo hb2
    have hL := Lib.hid (lo_trans hL.out hb2)
    clear hb2
    obtain ⟨cB, fB⟩ := hB.facts
    go_wp2_with fail
    refine (H8.out _).mono ?_
    rintro e w3 ⟨rfl, hb3⟩
    have hB := hB.lo hb3
    have hL := Lib.hid (lo_trans hL.out hb3)
    clear hb3 cB fB
    go_wp2_with fail
    refine (H6.out _).mono ?_
    rintro e w4 ⟨rfl, hb4⟩
    have hB := (hB.lo hb4).alloc (.cells #[.string yn, .string yv, .bool false] 23)
    have hC := Blk.new w4 23 #[.string yn, .string yv, .bool false]
    have hL := Lib.hid (lo_alloc (lo_trans hL.out hb4) (.cells #[.string yn, .string yv, .bool false] 23))
    clear hb4
    obtain ⟨cB, fB⟩ := hB.facts
    obtain ⟨cC, fC⟩ := hC.facts
    rcases h5 with ⟨rfl, rfl⟩ | ⟨rfl, hne, hle⟩
    · go_wp2_with fail
      refine (awake_any _).mono ?_
      rintro e w5 ⟨rfl, hb5⟩
      go_wp2_with fail
      go_ret
      exact ⟨rfl, lo_trans hL.out hb5⟩
    · have s1 := str_ne hne
      have hle' : (j : Int) + 1 ≤ (p : Int) + 1 := by omega
      go_wp2_with fail
      refine (awake_any _).mono ?_
      rintro e w5 ⟨rfl, hb5⟩
      go_wp2_with fail
      go_ret
      exact ⟨rfl, lo_trans hL.out hb5⟩
end Go.Proofs.Ytpafncellopphaa
