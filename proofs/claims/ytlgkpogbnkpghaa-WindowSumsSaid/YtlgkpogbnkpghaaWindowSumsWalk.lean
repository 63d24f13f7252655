import Derived.Test.YtlgkpogbnkpghaaWindowThereWalk
namespace Go.Proofs.Ytlgkpogbnkpghaa
open Go.RowKit

theorem takeW_ok {a n : Int} (h : isB a = true) (h1 : 0 ≤ n) (h2 : n ≤ a) : takeW a n = (a - n, true) := if_pos ⟨h, h1, h2⟩
theorem takeW_no {a n : Int} (h : a < n) : takeW a n = (a, false) := if_neg (by omega)
theorem giveW_ok {a n : Int} (h : isB a = true) (h1 : 1 ≤ n) (h2 : n ≤ 2147483647) (h3 : a + n ≤ 2147483647) : giveW a n = (a + n, 0) := by
  unfold giveW
  rw [if_neg (by rw [h]; simp), if_neg (by omega), if_pos h3]
theorem giveW_bad {a n : Int} (h : isB a = true) (h1 : 1 ≤ n) (h2 : n ≤ 2147483647) (h3 : 2147483647 < a + n) : giveW a n = (a, 3) := by
  unfold giveW
  rw [if_neg (by rw [h]; simp), if_neg (by omega), if_neg (by omega)]
theorem giveW_nil {a n : Int} (h : isB a = true) (h1 : n < 1) : giveW a n = (a, 1) := by
  unfold giveW
  rw [if_neg (by rw [h]; simp), if_pos (by omega)]
set_option maxRecDepth 100000 in
set_option maxHeartbeats 3200000 in
theorem sums_walk (a0 : Int) (a1 : Option Addr) (len cap : Nat) (l : List Int) (a2 : Int) (w : World) (h0 : 0 ≤ a0) (hrow : IntRow .i32 w a1 len cap l) (h2 : 0 ≤ a2) (h2' : a2 ≤ 65535) :
    Calls Try.prog 5 #[.int .u32 a0, .slice a1 len cap, .int .u16 a2] w (AwakePost w) := by
  have hn0 : 0 ≤ a0 % 2147483648 ∧ a0 % 2147483648 ≤ 2147483647 := by omega
  have HR := Lib.hid hrow
  have hll := hrow.1
  have hlen : len ≤ maxLen := Nat.le_trans hrow.2.1 hrow.2.2.1
  clear hrow
  by_cases hbig : len > 60
  · go_enter Try.func5, Try.ntmps5
    go_wp2_with fail
    refine (awake_any _).mono ?_
    rintro e w2 ⟨rfl, hb2⟩
    have hM := Lib.hid hb2
    go_wp2_with fail
    go_ret
    exact ⟨rfl, hM.out⟩
  · go_enter Try.func5, Try.ntmps5
    go_wp2_with fail
    generalize a0 % 2147483648 = a at hn0 ⊢
    obtain ⟨va1, va2⟩ := hn0
    go_loop [7, 8, 9] (fun x y z => ∃ (k : Nat) (v : Int), k ≤ len ∧ 0 ≤ v ∧ v ≤ 2147483647 ∧ x = .int .i64 v ∧ y = .int .i64 v ∧ z = .int .i64 k) (fun _ _ z => len - (intOf z).toNat)
    case atStart => exact ⟨0, a, by omega, by omega, by omega, rfl, rfl, rfl⟩
    case round =>
      obtain ⟨k, v, hk, hv1, hv2, rfl, rfl, rfl⟩ := hrel
      have hvb := isB_yes (show -2147483647 ≤ v ∧ v ≤ 2147483647 by omega)
      by_cases hkl : k < len
      · obtain ⟨b, off, rfl, hlt, hc⟩ := HR.out.2.2.2.2.1 k l[k] (List.getElem?_eq_getElem (by omega))
        have hwf := HR.out.2.2.2.2.2 l[k] (List.getElem_mem _)
        generalize l[k] = x at hc hwf
        simp [Lit.wf, IntKind.min, IntKind.max, IntKind.signed, IntKind.bits] at hwf
        have hx1 : -2147483648 ≤ x := by omega
        have hx2 : x ≤ 2147483647 := by omega
        have hkl' : (k : Int) < (len : Int) := by omega
        clear hwf
        have hcase : (x < 0 ∧ -x ≤ v) ∨ (x < 0 ∧ v < -x) ∨ x = 0 ∨ (1 ≤ x ∧ v + x ≤ 2147483647) ∨ (1 ≤ x ∧ 2147483647 < v + x) := by omega
        rcases hcase with ⟨hx, hy⟩ | ⟨hx, hy⟩ | rfl | ⟨hx, hy⟩ | ⟨hx, hy⟩
        · have HK := Lib.hid (take_any v (-x))
          rw [takeW_ok hvb (by omega) hy, show v - -x = v + x by omega] at HK
          go_wp2_with fail
          refine (HK.out _).mono ?_
          rintro e w' ⟨rfl, rfl⟩
          go_wp2_with fail
          go_round
          case rel => exact ⟨k + 1, v + x, by omega, by omega, by omega, by go_num, by go_num, by go_num⟩
          case measure => simp [intOf]; omega
        · have HK := Lib.hid (take_any v (-x))
          rw [takeW_no hy] at HK
          go_wp2_with fail
          refine (HK.out _).mono ?_
          rintro e w' ⟨rfl, rfl⟩
          go_wp2_with fail
          go_round
          case rel => exact ⟨k + 1, v, by omega, by omega, by omega, by go_num, by go_num, by go_num⟩
          case measure => simp [intOf]; omega
        · have HK := Lib.hid (give_any v 0)
          rw [giveW_nil hvb (by omega)] at HK
          go_wp2_with fail
          refine (HK.out _).mono ?_
          rintro e w' ⟨rfl, rfl⟩
          go_wp2_with fail
          go_round
          case rel => exact ⟨k + 1, v, by omega, by omega, by omega, by go_num, by go_num, by go_num⟩
          case measure => simp [intOf]; omega
        · have HK := Lib.hid (give_any v x)
          rw [giveW_ok hvb hx hx2 hy] at HK
          have hd : v ≤ 2147483647 - x := by omega
          go_wp2_with fail
          refine (HK.out _).mono ?_
          rintro e w' ⟨rfl, rfl⟩
          go_wp2_with fail
          go_round
          case rel => exact ⟨k + 1, v + x, by omega, by omega, by omega, by go_num, by go_num, by go_num⟩
          case measure => simp [intOf]; omega
        · have HK := Lib.hid (give_any v x)
          rw [giveW_bad hvb hx hx2 hy] at HK
          have hd : ¬ v ≤ 2147483647 - x := by omega
          go_wp2_with fail
          refine (HK.out _).mono ?_
          rintro e w' ⟨rfl, rfl⟩
          go_wp2_with fail
          go_round
          case rel => exact ⟨k + 1, v, by omega, by omega, by omega, by go_num, by go_num, by go_num⟩
          case measure => simp [intOf]; omega
      · have hkl' : ¬ (k : Int) < (len : Int) := by omega
        have hn : (mayW v v 16384 a2 = 0 ∧ ((v = 0) ∨ (0 < v ∧ a2 = 0))) ∨ (1 ≤ mayW v v 16384 a2 ∧ mayW v v 16384 a2 ≤ v ∧ 0 < v ∧ 0 < a2) := by
          unfold mayW
          omega
        have H1 := Lib.hid (may_any v v 16384 a2)
        generalize mayW v v 16384 a2 = n at hn H1
        have H2 := Lib.hid (take_any v n)
        rw [takeW_ok hvb (by omega) (by omega)] at H2
        have H3 := Lib.hid (check_any v)
        rw [errW_yes hvb] at H3
        rcases hn with ⟨rfl, rfl | ⟨hv3, rfl⟩⟩ | ⟨hn1, hn2, hv3, ha3⟩
        all_goals
          go_wp2_with fail
          refine (H1.out _).mono ?_
          rintro e w' ⟨rfl, rfl⟩
          go_wp2_with fail
          refine (H2.out _).mono ?_
          rintro e w' ⟨rfl, rfl⟩
          go_wp2_with fail
          refine (H3.out _).mono ?_
          rintro e w' ⟨rfl, rfl⟩
          go_wp2_with fail
          refine (awake_any _).mono ?_
          rintro e w2 ⟨rfl, hb2⟩
          have hM := Lib.hid hb2
          go_wp2_with fail
          go_ret
          exact ⟨rfl, hM.out⟩
theorem walk_WindowSums (a0 : Int) (a1 : Option Addr) (len1 cap1 : Nat) (xs1 : List Int) (a2 : Int) (w : World) (w0 : (Lit.int .u32 a0).wf = true) (w1 : IntRow .i32 w a1 len1 cap1 xs1) (w2 : (Lit.int .u16 a2).wf = true) :
    Calls Try.prog 5 #[.int .u32 a0, .slice a1 len1 cap1, .int .u16 a2] w fun e w' => e = .returned (.bool true) ∧ Below w.heap.size w w' := by
  simp [Lit.wf, IntKind.min, IntKind.max, IntKind.signed, IntKind.bits] at w0 w2
  exact sums_walk a0 a1 len1 cap1 xs1 a2 w (by omega) w1 (by omega) (by omega)
end Go.Proofs.Ytlgkpogbnkpghaa
