import Derived.Test.YtbbjkobadliglaaKit
import Derived.Test.YtbbjkobadliglaaMath
import Derived.WalkSpells
import Derived.WalkLawsBesides
import Derived.Outline
import Derived.Lib.Hide
import Derived.Deep.DeepFit
namespace Go.Proofs.Ytbbjkobadliglaa
open Go.RowKit

theorem ones_any (k : Nat) (hk : k ≤ 8) (w : World) : Calls Try.prog 17 #[.int .i64 k] w fun e w' => e = .returned (.int .i64 (2 ^ k - 1 : Nat)) ∧ w = w' := by
  have : k = 0 ∨ k = 1 ∨ k = 2 ∨ k = 3 ∨ k = 4 ∨ k = 5 ∨ k = 6 ∨ k = 7 ∨ k = 8 := by omega
  rcases this with rfl | rfl | rfl | rfl | rfl | rfl | rfl | rfl | rfl <;> (go_enter Try.func17, Try.ntmps17; go_wp2; go_ret; exact ⟨rfl, rfl⟩)

theorem wide_yes (k : Int) (h : 1 ≤ k) (h8 : k ≤ 8) (w : World) : Calls Try.prog 16 #[.int .i64 k] w fun e w' => e = .returned (.bool true) ∧ w = w' := by
  go_enter Try.func16, Try.ntmps16
  go_wp2
  go_ret
  exact ⟨by simp [*], rfl⟩
theorem wide_no (k : Int) (h : k < 1 ∨ 8 < k) (w : World) : Calls Try.prog 16 #[.int .i64 k] w fun e w' => e = .returned (.bool false) ∧ w = w' := by
  rcases h with h | h
  · go_enter Try.func16, Try.ntmps16
    go_wp2
    go_ret
    exact ⟨rfl, rfl⟩
  · have h1 : 1 ≤ k := by omega
    go_enter Try.func16, Try.ntmps16
    go_wp2
    go_ret
    exact ⟨by simp; omega, rfl⟩
theorem pow_le (j k : Nat) (h : j ≤ k) (hk : k ≤ 8) : 2 ^ j ≤ 256 := by
  have h1 := Nat.pow_le_pow_right (n := 2) (by decide) h
  have h2 := Nat.pow_le_pow_right (n := 2) (by decide) hk
  omega
theorem pow_any (k : Nat) (hk : k ≤ 8) (w : World) : Calls Try.prog 18 #[.int .i64 k] w fun e w' => e = .returned (.int .i64 (2 ^ k : Nat)) ∧ w = w' := by
  go_enter Try.func18, Try.ntmps18
  go_wp2
  go_loop [3, 4] (fun n i => ∃ j p : Nat, j ≤ k ∧ p ≤ 256 ∧ Hid (p = 2 ^ j) ∧ n = .int .i64 p ∧ i = .int .i64 j) (fun _ i => k - (intOf i).toNat)
  case atStart => exact ⟨0, 1, by omega, by omega, rfl, rfl, rfl⟩
  case round =>
    obtain ⟨j, p, hj, hp, H, rfl, rfl⟩ := hrel
    by_cases hlt : j < k
    · have h2 : 2 * p ≤ 256 := by
        have := pow_le (j + 1) k (by omega) hk
        rw [H.out]
        rw [Nat.pow_succ] at this
        omega
      go_wp2
      go_round
      case rel => exact ⟨j + 1, 2 * p, by omega, h2, by show 2 * p = 2 ^ (j + 1); rw [H.out, Nat.pow_succ]; omega, by go_num, by go_num⟩
      case measure => simp [intOf]; omega
    · obtain rfl : j = k := by omega
      go_wp2
      go_ret
      exact ⟨congrArg (fun q : Nat => Ending.returned (.int .i64 (q : Int))) H.out, rfl⟩

theorem rest_bits : ∀ f : Fin 256, ∀ k : Fin 9, bits .andNot .u8 (f.val : Int) (IntKind.u8.wrap ((2 ^ k.val - 1 : Nat) : Int)) = (restN f.val k.val : Nat) := by decide +kernel

def clampK (b : Int) : Nat := (max 1 (min b 8)).toNat
theorem clamp_in (k : Nat) (h1 : 1 ≤ k) (h8 : k ≤ 8) : clampK k = k := by unfold clampK; omega
theorem clamp_lo (b : Int) (h : b ≤ 1) : clampK b = 1 := by unfold clampK; omega
theorem clamp_hi (b : Int) (h : 8 ≤ b) : clampK b = 8 := by unfold clampK; omega
theorem clamp_le (b : Int) : 1 ≤ clampK b ∧ clampK b ≤ 8 := by unfold clampK; omega
theorem ones_1 (w : World) : Calls Try.prog 17 #[.int .i64 1] w fun e w' => e = .returned (.int .i64 1) ∧ w = w' := ones_any 1 (by decide) w
theorem ones_8 (w : World) : Calls Try.prog 17 #[.int .i64 8] w fun e w' => e = .returned (.int .i64 255) ∧ w = w' := ones_any 8 (by decide) w
theorem pow_1 (w : World) : Calls Try.prog 18 #[.int .i64 1] w fun e w' => e = .returned (.int .i64 2) ∧ w = w' := pow_any 1 (by decide) w
theorem pow_8 (w : World) : Calls Try.prog 18 #[.int .i64 8] w fun e w' => e = .returned (.int .i64 256) ∧ w = w' := pow_any 8 (by decide) w
theorem rest_bits' (f k : Nat) (hf : f < 256) (hk : k ≤ 8) : bits .andNot .u8 (f : Int) (IntKind.u8.wrap ((2 ^ k - 1 : Nat) : Int)) = (restN f k : Nat) := rest_bits ⟨f, hf⟩ ⟨k, by omega⟩
theorem ret_int {k : IntKind} {a b : Int} (h : a = b) : Ending.returned (.int k a) = .returned (.int k b) := by rw [h]
theorem rest_any (f : Nat) (b : Int) (hf : f < 256) (w : World) : Calls Try.prog 11 #[.int .u8 f, .int .i64 b] w fun e w' => e = .returned (.int .u8 (restN f (clampK b) : Nat)) ∧ w = w' := by
  by_cases h1 : b ≤ 1
  · rw [clamp_lo b h1]
    have H := Lib.hid (rest_bits' f 1 hf (by omega))
    go_enter Try.func11, Try.ntmps11
    go_wp2_with (go_at_call 17; refine (ones_1 _).mono ?_; rintro e w' ⟨rfl, rfl⟩)
    go_ret
    exact ⟨ret_int H.out, rfl⟩
  · by_cases h8 : 8 < b
    · rw [clamp_hi b (by omega)]
      have H := Lib.hid (rest_bits' f 8 hf (by omega))
      go_enter Try.func11, Try.ntmps11
      go_wp2_with (go_at_call 17; refine (ones_8 _).mono ?_; rintro e w' ⟨rfl, rfl⟩)
      go_ret
      exact ⟨ret_int H.out, rfl⟩
    · obtain ⟨k, rfl⟩ := Int.eq_ofNat_of_zero_le (show 0 ≤ b by omega)
      rw [clamp_in k (by omega) (by omega)]
      have H := Lib.hid (rest_bits' f k hf (by omega))
      go_enter Try.func11, Try.ntmps11
      go_wp2_with (go_at_call 17; refine (ones_any k (by omega) _).mono ?_; rintro e w' ⟨rfl, rfl⟩)
      go_ret
      exact ⟨ret_int H.out, rfl⟩
theorem restN_le (f k : Nat) : restN f k ≤ f := Nat.div_mul_le_self f (2 ^ k)
theorem rest_ref (f : Nat) (b : Int) (hf : f < 256) (w : World) : Calls Try.prog 12 #[.int .u8 f, .int .i64 b] w fun e w' => e = .returned (.int .u8 (restN f (clampK b) : Nat)) ∧ w = w' := by
  by_cases h1 : b ≤ 1
  · rw [clamp_lo b h1]
    go_enter Try.func12, Try.ntmps12
    go_wp2_with (go_at_call 18; refine (pow_1 _).mono ?_; rintro e w' ⟨rfl, rfl⟩)
    go_ret
    exact ⟨ret_int (by unfold restN; simp), rfl⟩
  · by_cases h8 : 8 ≤ b
    · rw [clamp_hi b (by omega)]
      go_enter Try.func12, Try.ntmps12
      go_wp2_with (go_at_call 18; refine (pow_8 _).mono ?_; rintro e w' ⟨rfl, rfl⟩)
      go_ret
      exact ⟨ret_int (by unfold restN; simp), rfl⟩
    · obtain ⟨k, rfl⟩ := Int.eq_ofNat_of_zero_le (show 0 ≤ b by omega)
      rw [clamp_in k (by omega) (by omega)]
      obtain ⟨p, hp⟩ : ∃ p, p = 2 ^ k := ⟨_, rfl⟩
      have hp1 : 1 ≤ p := by rw [hp]; exact Nat.one_le_two_pow
      have hp2 : p ≤ 256 := by rw [hp]; exact pow_le k k (Nat.le_refl _) (by omega)
      have hle : f / p * p ≤ f := Nat.div_mul_le_self f p
      have hle' : (f : Int) / (p : Int) * (p : Int) ≤ 255 := by
        have : ((f / p * p : Nat) : Int) ≤ 255 := by omega
        simpa using this
      have hge' : 0 ≤ (f : Int) / (p : Int) * (p : Int) := Int.mul_nonneg (Int.ediv_nonneg (by omega) (by omega)) (by omega)
      have hq : (f : Int) / (p : Int) ≤ 255 := by
        have := Nat.div_le_self f p
        have : ((f / p : Nat) : Int) ≤ 255 := by omega
        simpa using this
      have hq0 : 0 ≤ (f : Int) / (p : Int) := Int.ediv_nonneg (by omega) (by omega)
      have hr : restN f k = f / p * p := by rw [hp]; rfl
      have hc : Calls Try.prog 18 #[.int .i64 (k : Int)] w fun e w' => e = .returned (.int .i64 (p : Nat)) ∧ w = w' := by rw [hp]; exact pow_any k (by omega) w
      have H := Lib.hid hr
      have HC := Lib.hid hc
      clear hp hr hc
      go_enter Try.func12, Try.ntmps12
      go_wp2_with (go_at_call 18; refine HC.out.mono ?_; rintro e w' ⟨rfl, rfl⟩)
      go_ret
      exact ⟨ret_int (by rw [H.out]; simp; try omega), rfl⟩
end Go.Proofs.Ytbbjkobadliglaa
