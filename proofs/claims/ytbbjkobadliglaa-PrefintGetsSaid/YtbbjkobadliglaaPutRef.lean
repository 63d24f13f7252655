import Derived.Test.YtbbjkobadliglaaPut
namespace Go.Proofs.Ytbbjkobadliglaa
open Go.RowKit

def putErr (b _n : Int) : Int := if b < 1 ∨ 8 < b then 2 else 8
theorem put_bad (f b n : Int) (h : (b < 1 ∨ 8 < b) ∨ n < 0 ∨ 268435455 < n) (w : World) :
    Calls Try.prog 7 #[.int .u8 f, .int .i64 b, .int .i64 n] w fun e w' => e = .returned (.tuple #[.slice none 0 0, .int .i64 (putErr b n)]) ∧ w = w' := by
  by_cases h1 : b < 1 ∨ 8 < b
  · have e1 : putErr b n = 2 := if_pos h1
    rw [e1]
    go_enter Try.func7, Try.ntmps7
    go_wp2_with (go_at_call 16; refine (wide_no _ (by omega) _).mono ?_; rintro e w' ⟨rfl, rfl⟩)
    go_ret2
    exact ⟨rfl, rfl⟩
  · have e1 : putErr b n = 8 := if_neg h1
    rw [e1]
    have hb1 : 1 ≤ b := by omega
    have hb8 : b ≤ 8 := by omega
    have h2 : n < 0 ∨ 268435455 < n := by omega
    clear h h1 e1
    rcases h2 with h2 | h2
    · go_enter Try.func7, Try.ntmps7
      go_wp2_with (go_at_call 16; refine (wide_yes _ (by omega) (by omega) _).mono ?_; rintro e w' ⟨rfl, rfl⟩)
      go_ret2
      exact ⟨rfl, rfl⟩
    · have h3 : 0 ≤ n := by omega
      go_enter Try.func7, Try.ntmps7
      go_wp2_with (go_at_call 16; refine (wide_yes _ (by omega) (by omega) _).mono ?_; rintro e w' ⟨rfl, rfl⟩)
      go_ret2
      exact ⟨rfl, rfl⟩
theorem put_bad_ref (f b n : Int) (h : (b < 1 ∨ 8 < b) ∨ n < 0 ∨ 268435455 < n) (w : World) :
    Calls Try.prog 8 #[.int .u8 f, .int .i64 b, .int .i64 n] w fun e w' => e = .returned (.tuple #[.slice none 0 0, .int .i64 (putErr b n)]) ∧ w = w' := by
  by_cases h1 : b < 1 ∨ 8 < b
  · have e1 : putErr b n = 2 := if_pos h1
    rw [e1]
    clear h e1
    rcases h1 with h2 | h2
    · go_enter Try.func8, Try.ntmps8
      go_wp2_with fail
      go_ret2
      exact ⟨rfl, rfl⟩
    · have h3 : 1 ≤ b := by omega
      go_enter Try.func8, Try.ntmps8
      go_wp2_with fail
      go_ret2
      exact ⟨rfl, rfl⟩
  · have e1 : putErr b n = 8 := if_neg h1
    rw [e1]
    have hb1 : 1 ≤ b := by omega
    have hb8 : b ≤ 8 := by omega
    have h2 : n < 0 ∨ 268435455 < n := by omega
    clear h h1 e1
    rcases h2 with h2 | h2
    · go_enter Try.func8, Try.ntmps8
      go_wp2_with fail
      go_ret2
      exact ⟨rfl, rfl⟩
    · have h3 : 0 ≤ n := by omega
      go_enter Try.func8, Try.ntmps8
      go_wp2_with fail
      go_ret2
      exact ⟨rfl, rfl⟩

set_option maxRecDepth 100000 in
set_option maxHeartbeats 1600000 in
theorem put_ref (f k n : Nat) (hf : f < 256) (hk1 : 1 ≤ k) (hk : k ≤ 8) (hn : n ≤ 268435455) (w : World) :
    Calls Try.prog 8 #[.int .u8 f, .int .i64 k, .int .i64 n] w (PutPost w (putL f k n)) := by
  obtain ⟨i0, hi, hz0, hz1, hz2⟩ := info_parts info5
  have hR := rest_ref f k hf
  rw [clamp_in k hk1 hk] at hR
  have HR := Lib.hid hR
  clear hR
  have hO := pow_any k hk
  obtain ⟨m, hm⟩ : ∃ m, m = 2 ^ k := ⟨_, rfl⟩
  have hrl := rest_lt f k hf hk
  rw [← hm] at hO hrl
  have HO := Lib.hid hO
  clear hO
  have hm0 : 2 ≤ m := by rw [hm]; have := Nat.pow_le_pow_right (n := 2) (by decide) hk1; omega
  have hm1 : m ≤ 256 := by rw [hm]; exact pow_le k k (Nat.le_refl _) hk
  have Hm := Lib.hid hm
  clear hm
  generalize hr : restN f k = r at HR hrl
  have Hr := Lib.hid hr
  clear hr
  have go_r : r ≤ 255 := by omega
  by_cases hlt : n < m - 1
  · have hlt' : (n : Int) < (m : Int) - 1 := by omega
    have hrn : (r : Int) + (n : Int) ≤ 255 := by omega
    have hn255 : n ≤ 255 := by omega
    clear hlt
    go_enter Try.func8, Try.ntmps8
    go_wp2_with (first
      | (go_at_call 18; refine (HO.out _).mono ?_; rintro e w' ⟨rfl, rfl⟩)
      | (go_at_call 12; refine (HR.out _).mono ?_; rintro e w' ⟨rfl, rfl⟩))
    go_ret2
    have hp : putL f k n = [r + n] := by rw [← Hr.out]; exact if_pos (by have := Hm.out; omega)
    refine ⟨_, rfl, ?_, (Below.refl _ _).alloc (Nat.le_refl _) _⟩
    rw [hp]
    exact World.ownsRow_lit (base := w.heap.size) (e := 5) (size := 1) w #[.int .u8 (((r + n : Nat)) : Int)] 1 (Nat.le_refl _) (by decide) rfl
  · have hS := Rel.start f k n (by have := Hm.out; omega) hn
    rw [← Hm.out, Hr.out] at hS
    have hL := putL_len f k n
    generalize putL f k n = full at hS hL ⊢
    have hge' : (m : Int) - 1 ≤ (n : Int) := by omega
    have hrn : (r : Int) + ((m : Int) - 1) ≤ 255 := by omega
    clear hlt
    go_enter Try.func8, Try.ntmps8
    go_wp2_with (first
      | (go_at_call 18; refine (HO.out _).mono ?_; rintro e w' ⟨rfl, rfl⟩)
      | (go_at_call 12; refine (HR.out _).mono ?_; rintro e w' ⟨rfl, rfl⟩))
    go_loopw [2, 9] (fun x v wr => ∃ (L : Nat) (xs : List Nat), L ≤ 268435455 ∧ x = .int .i64 L ∧ Rel xs L full ∧ wr.ownsRow w.heap.size 5 1 v xs.length (B xs) ∧ Below w.heap.size w wr) (fun x _ _ => (intOf x).toNat)
    case atStart =>
      refine ⟨n - (m - 1), _, by omega, by congr 1; omega, hS, ?_, (Below.refl w.heap.size w).alloc (Nat.le_refl _) _⟩
      have := World.ownsRow_lit (base := w.heap.size) (e := 5) (size := 1) w #[.int .u8 (((r + (m - 1) : Nat)) : Int)] 1 (Nat.le_refl _) (by decide) rfl
      have hc : (((r + (m - 1) : Nat)) : Int) = (r : Int) + ((m : Int) - 1) := by omega
      rw [hc] at this
      show World.ownsRow _ _ _ _ _ _ [Value.int .u8 (((r + (m - 1) : Nat)) : Int)]
      rw [hc]
      exact this
    case round =>
      obtain ⟨L, xs, hLb, rfl, hrel, hown, hbel⟩ := hrel
      have hx := hrel.len
      have hx2 : xs.length + 1 ≤ 1000000000 := by omega
      have hsz := hbel.size
      by_cases hge : 128 ≤ L
      · have hst := hrel.step hge
        go_wp2_with (at_builtin; refine wp_append_box rfl _ _ 22 rfl w.heap.size 5 i0 (.int .u8 0) 1 1 Try.underlying22 hi hz0 hz1 hz2 rfl (by decide) _ _ _ rfl hown 1 _ rfl rfl (by intro u hu; simp at hu; subst hu; rfl) hx2 (by decide) hsz ?_; intro v' w1 hown1 hbel1)
        go_roundw
        case rel =>
          refine ⟨L / 128, xs ++ [L % 128 + 128], by omega, by go_num, hst, ?_, hbel.trans hbel1⟩
          rw [List.length_append, B_app]
          have hc : ((L % 128 + 128 : Nat) : Int) = 128 + (L : Int) % 128 := by omega
          show World.ownsRow _ _ _ _ _ _ (B xs ++ [Value.int .u8 ((L % 128 + 128 : Nat) : Int)])
          rw [hc]
          exact hown1
        case measure => simp [intOf]; omega
      · have hst := hrel.last (by omega)
        go_wp2_with (at_builtin; refine wp_append_box rfl _ _ 22 rfl w.heap.size 5 i0 (.int .u8 0) 1 1 Try.underlying22 hi hz0 hz1 hz2 rfl (by decide) _ _ _ rfl hown 1 _ rfl rfl (by intro u hu; simp at hu; subst hu; rfl) hx2 (by decide) hsz ?_; intro v' w1 hown1 hbel1)
        go_ret2
        refine ⟨_, rfl, ?_, hbel.trans hbel1⟩
        rw [← hst, List.length_append, B_app]
        exact hown1

theorem ns_zero (l : List Nat) : (l.length : Int) = l.length := rfl
/-- Size: how many bytes a number has (0: none). -/
def sizeN (b n : Int) : Nat := if (1 ≤ b ∧ b ≤ 8) ∧ 0 ≤ n ∧ n ≤ 268435455 then (putL 0 b.toNat n.toNat).length else 0
end Go.Proofs.Ytbbjkobadliglaa
