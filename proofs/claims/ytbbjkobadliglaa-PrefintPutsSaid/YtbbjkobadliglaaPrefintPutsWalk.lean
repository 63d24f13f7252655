import Derived.Test.YtbbjkobadliglaaLaws
namespace Go.Proofs.Ytbbjkobadliglaa
open Go.RowKit

theorem wf_u8 {a : Int} (h : (Lit.int .u8 a).wf = true) : ∃ n : Nat, a = n ∧ n < 256 := by
  have := bounds_u8 h
  exact ⟨a.toNat, by omega, by omega⟩
set_option maxRecDepth 100000 in
set_option maxHeartbeats 1600000 in
theorem walk_PrefintPuts (a0 : Int) (a1 : Int) (a2 : Int) (w : World) (w0 : (Lit.int .u8 a0).wf = true) (w1 : (Lit.int .i64 a1).wf = true) (w2 : (Lit.int .i64 a2).wf = true) :
    Calls Try.prog 3 #[.int .u8 a0, .int .i64 a1, .int .i64 a2] w fun e w' => e = .returned (.bool true) ∧ Below w.heap.size w w' := by
  obtain ⟨f, rfl, hf⟩ := wf_u8 w0
  clear w0 w1 w2
  by_cases hbad : (a1 < 1 ∨ 8 < a1) ∨ a2 < 0 ∨ 268435455 < a2
  · have HS := Lib.hid (size_bad a1 a2 hbad)
    have HS2 := Lib.hid (size_bad_ref a1 a2 hbad)
    have HR := Lib.hid (rest_any f a1 hf)
    have HR2 := Lib.hid (rest_ref f a1 hf)
    have HB := Lib.hid hbad
    clear hbad
    have hc := fun w => run_str (w := w) (base := 0) (v := .slice none 0 0) (l := []) (World.ownsRow_nil w 0 5 1)
    go_enter Try.func3, Try.ntmps3
    go_wp2_with fail
    refine (put_bad f a1 a2 HB.out _).mono ?_
    rintro e w1 ⟨rfl, rfl⟩
    go_wp2_with fail
    refine (put_bad_ref f a1 a2 HB.out _).mono ?_
    rintro e w1 ⟨rfl, rfl⟩
    go_wp2_with fail
    refine (HS.out _).mono ?_
    rintro e w1 ⟨rfl, hb1⟩
    go_wp2_with fail
    refine (HS2.out _).mono ?_
    rintro e w2 ⟨rfl, hb2⟩
    go_wp2_with fail
    refine (HR.out _).mono ?_
    rintro e w3 ⟨rfl, rfl⟩
    go_wp2_with fail
    refine (HR2.out _).mono ?_
    rintro e w3 ⟨rfl, rfl⟩
    go_wp2_with fail
    refine (awake_any _).mono ?_
    rintro e w3 ⟨rfl, hb3⟩
    go_wp2_with fail
    go_ret
    exact ⟨rfl, (hb1.trans (hb2.mono hb1.size)).trans (hb3.mono (hb1.trans (hb2.mono hb1.size)).size)⟩
  · obtain ⟨k, rfl⟩ := Int.eq_ofNat_of_zero_le (show 0 ≤ a1 by omega)
    obtain ⟨n, rfl⟩ := Int.eq_ofNat_of_zero_le (show 0 ≤ a2 by omega)
    have hk1 : 1 ≤ k := by omega
    have hk8 : k ≤ 8 := by omega
    have hn : n ≤ 268435455 := by omega
    have HS := Lib.hid (size_good k n hk1 hk8 hn)
    have HS2 := Lib.hid (size_good_ref k n hk1 hk8 hn)
    have HR := Lib.hid (rest_any f k hf)
    have HR2 := Lib.hid (rest_ref f k hf)
    have HP := Lib.hid (put_any f k n hf hk1 hk8 hn)
    have HP2 := Lib.hid (put_ref f k n hf hk1 hk8 hn)
    clear hbad
    go_enter Try.func3, Try.ntmps3
    go_wp2_with fail
    refine (HP.out _).mono ?_
    rintro e w1 ⟨v1, rfl, hown1, hb1⟩
    go_wp2_with fail
    refine (HP2.out _).mono ?_
    rintro e w2 ⟨v2, rfl, hown2, hb2⟩
    have c1 := run_str (own_below hown1 hb2)
    have c2 := run_str hown2
    have h12 := hb1.trans (hb2.mono hb1.size)
    clear hown1 hown2
    go_wp2_with fail
    refine (HS.out _).mono ?_
    rintro e w3 ⟨rfl, hb3⟩
    go_wp2_with fail
    refine (HS2.out _).mono ?_
    rintro e w4 ⟨rfl, hb4⟩
    go_wp2_with fail
    refine (HR.out _).mono ?_
    rintro e w5 ⟨rfl, rfl⟩
    go_wp2_with fail
    refine (HR2.out _).mono ?_
    rintro e w5 ⟨rfl, rfl⟩
    go_wp2_with fail
    refine (awake_any _).mono ?_
    rintro e w5 ⟨rfl, hb5⟩
    go_wp2_with fail
    go_ret
    have h13 := h12.trans (hb3.mono h12.size)
    have h14 := h13.trans (hb4.mono h13.size)
    exact ⟨rfl, h14.trans (hb5.mono h14.size)⟩
end Go.Proofs.Ytbbjkobadliglaa
