import Derived.Test.YtbbjkobadliglaaLaws
namespace Go.Proofs.Ytbbjkobadliglaa
open Go.RowKit

def sz (k n : Int) : Nat := (putL 0 k.toNat n.toNat).length
theorem size_int (k n : Int) (hk1 : 1 ≤ k) (hk : k ≤ 8) (hn0 : 0 ≤ n) (hn : n ≤ 268435455) (w : World) : Calls Try.prog 9 #[.int .i64 k, .int .i64 n] w (SizePost w (sz k n)) := by
  obtain ⟨k, rfl⟩ := Int.eq_ofNat_of_zero_le (show 0 ≤ k by omega)
  obtain ⟨n, rfl⟩ := Int.eq_ofNat_of_zero_le hn0
  exact size_good k n (by omega) (by omega) (by omega) w
theorem sz_mono (k a b : Int) (h : a ≤ b) : sz k a ≤ sz k b := put_mono 0 0 k.toNat a.toNat b.toNat (by omega)
theorem sz_wide (k n : Int) (h : 0 ≤ k) : sz (k + 1) n ≤ sz k n := by
  unfold sz
  rw [show (k + 1).toNat = k.toNat + 1 by omega]
  exact put_wide 0 0 k.toNat n.toNat
theorem sz_one (n : Int) (hn : 0 ≤ n) : (sz 8 n = 1) ↔ n < 255 := by
  have := put_one 0 n.toNat
  unfold sz
  rw [show (8 : Int).toNat = 8 from rfl]
  omega
set_option maxRecDepth 100000 in
set_option maxHeartbeats 1600000 in
theorem walk_PrefintGrows (a0 : Int) (a1 : Int) (a2 : Int) (w : World) (w0 : (Lit.int .u32 a0).wf = true) (w1 : (Lit.int .u32 a1).wf = true) (w2 : (Lit.int .u8 a2).wf = true) :
    Calls Try.prog 6 #[.int .u32 a0, .int .u32 a1, .int .u8 a2] w fun e w' => e = .returned (.bool true) ∧ Below w.heap.size w w' := by
  have h0 := bounds_u32 w0
  have h1 := bounds_u32 w1
  have h2 := bounds_u8 w2
  have ha0 : 0 ≤ a0 := by omega
  have ha1 : 0 ≤ a1 := by omega
  have ha2 : 0 ≤ a2 := by omega
  clear w0 w1 w2 h0 h1 h2
  have f2 : ((sz (1 + a2 % 7 + 1) (a0 % 268435456) : Nat) : Int) ≤ (sz (1 + a2 % 7) (a0 % 268435456) : Nat) := by
    have := sz_wide (1 + a2 % 7) (a0 % 268435456) (by omega)
    omega
  by_cases h255 : a0 % 268435456 < 255
  all_goals
    have f3 : (((sz 8 (a0 % 268435456) : Nat) : Int) == 1) = decide (a0 % 268435456 < 255) := by
      have h8 := sz_one (a0 % 268435456) (by omega)
      first
      | (rw [decide_eq_true h255, beq_iff_eq]; omega)
      | (rw [decide_eq_false h255, beq_eq_false_iff_ne]; omega)
    first | rw [decide_eq_true h255] at f3 | rw [decide_eq_false h255] at f3
    by_cases hxy : a0 % 268435456 < a1 % 268435456
    all_goals
      have f1 : ((sz (1 + a2 % 7) (a0 % 268435456) : Nat) : Int) ≤ (sz (1 + a2 % 7) (a1 % 268435456) : Nat) ∨ ((sz (1 + a2 % 7) (a1 % 268435456) : Nat) : Int) ≤ (sz (1 + a2 % 7) (a0 % 268435456) : Nat) := by omega
      first
      | (have f1 : ((sz (1 + a2 % 7) (a0 % 268435456) : Nat) : Int) ≤ (sz (1 + a2 % 7) (a1 % 268435456) : Nat) := by
           have := sz_mono (1 + a2 % 7) (a0 % 268435456) (a1 % 268435456) (by omega)
           omega)
      | (have f1 : ((sz (1 + a2 % 7) (a1 % 268435456) : Nat) : Int) ≤ (sz (1 + a2 % 7) (a0 % 268435456) : Nat) := by
           have := sz_mono (1 + a2 % 7) (a1 % 268435456) (a0 % 268435456) (by omega)
           omega)
      rename_i f0
      clear f0
      go_enter Try.func6, Try.ntmps6
      go_wp2_with fail
      all_goals
        refine (size_int _ _ (by omega) (by omega) (by omega) (by omega) _).mono ?_
        rintro e w1 ⟨rfl, b1⟩
        go_wp2_with fail
        refine (size_int _ _ (by omega) (by omega) (by omega) (by omega) _).mono ?_
        rintro e w2 ⟨rfl, b2⟩
        go_wp2_with fail
        refine (size_int _ _ (by omega) (by omega) (by omega) (by omega) _).mono ?_
        rintro e w3 ⟨rfl, b3⟩
        go_wp2_with fail
        refine (size_int _ _ (by omega) (by omega) (by omega) (by omega) _).mono ?_
        rintro e w4 ⟨rfl, b4⟩
        go_wp2_with fail
        refine (size_int _ _ (by omega) (by omega) (by omega) (by omega) _).mono ?_
        rintro e w5 ⟨rfl, b5⟩
        go_wp2_with fail
        refine (awake_any _).mono ?_
        rintro e w6 ⟨rfl, b6⟩
        go_wp2_with fail
        go_ret
        have c2 := b1.trans (b2.mono b1.size)
        have c3 := c2.trans (b3.mono c2.size)
        have c4 := c3.trans (b4.mono c3.size)
        have c5 := c4.trans (b5.mono c4.size)
        exact ⟨by first | rfl | (simp; omega), c5.trans (b6.mono c5.size)⟩
end Go.Proofs.Ytbbjkobadliglaa
