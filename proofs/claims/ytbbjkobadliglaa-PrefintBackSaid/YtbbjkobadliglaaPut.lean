import Derived.Test.YtbbjkobadliglaaSmall
import Derived.Laws.OwnMore
namespace Go.Proofs.Ytbbjkobadliglaa
open Go.RowKit

def B (l : List Nat) : List Value := l.map fun (n : Nat) => Value.int .u8 (n : Int)
theorem B_len (l : List Nat) : (B l).length = l.length := by simp [B]
theorem B_app (a b : List Nat) : B (a ++ b) = B a ++ B b := by simp [B]
theorem info5 : (Try.prog.info? 5).map (fun i => (i.zero, i.size, i.bytes)) = some (some (.int .u8 0), 1, 1) := by kernel_rfl
/-- The call returns a slice of its own with these bytes, and no error. -/
def PutPost (w : World) (l : List Nat) (e : Ending) (w' : World) : Prop :=
  ∃ v, e = .returned (.tuple #[v, .int .i64 0]) ∧ w'.ownsRow w.heap.size 5 1 v l.length (B l) ∧ Below w.heap.size w w'
theorem or_bits_hi : ∀ f : Fin 256, bits .or .u8 (f.val : Int) 128 = (f.val % 128 + 128 : Nat) := by decide +kernel
theorem ofInt_u8 (a : Nat) (ha : a < 256) : (BitVec.ofInt 8 (a : Int)).toNat = a := by
  rw [BitVec.ofInt_natCast, BitVec.toNat_ofNat]; exact Nat.mod_eq_of_lt (by omega)
theorem u8_or_nat (a b : Nat) (ha : a < 256) (hb : b < 256) : bits .or .u8 (a : Int) (b : Int) = ((a ||| b : Nat) : Int) := by
  have hx : a ||| b < 2 ^ 8 := Nat.or_lt_two_pow (by omega) (by omega)
  show IntKind.u8.wrap ((BitVec.ofInt 8 (a : Int) ||| BitVec.ofInt 8 (b : Int)).toNat : Int) = _
  rw [BitVec.toNat_or, ofInt_u8 a ha, ofInt_u8 b hb, IntKind.wrap_u8]
  omega
theorem or_rest (f k m : Nat) (hf : f < 256) (hk : k ≤ 8) (hm : m < 2 ^ k) : bits .or .u8 (restN f k : Nat) (m : Int) = (restN f k + m : Nat) := by
  have h1 := rest_lt f k hf hk
  have h2 := pow_le k k (Nat.le_refl _) hk
  rw [u8_or_nat _ _ (by omega) (by omega)]
  congr 1
  unfold restN
  rw [Nat.mul_comm (f / 2 ^ k)]
  exact (Nat.two_pow_add_eq_or_of_lt hm _).symm
set_option maxRecDepth 100000 in
set_option maxHeartbeats 1600000 in
theorem put_any (f k n : Nat) (hf : f < 256) (hk1 : 1 ≤ k) (hk : k ≤ 8) (hn : n ≤ 268435455) (w : World) :
    Calls Try.prog 7 #[.int .u8 f, .int .i64 k, .int .i64 n] w (PutPost w (putL f k n)) := by
  obtain ⟨i0, hi, hz0, hz1, hz2⟩ := info_parts info5
  have hR := rest_any f k hf
  rw [clamp_in k hk1 hk] at hR
  have HR := Lib.hid hR
  clear hR
  have hO := ones_any k hk
  obtain ⟨m, hm⟩ : ∃ m, m = 2 ^ k - 1 := ⟨_, rfl⟩
  rw [← hm] at hO
  have HO := Lib.hid hO
  clear hO
  have hm0 : 1 ≤ m := by rw [hm]; have := Nat.pow_le_pow_right (n := 2) (by decide) hk1; omega
  have hm1 : m ≤ 255 := by rw [hm]; have := pow_le k k (Nat.le_refl _) hk; omega
  have Hm := Lib.hid hm
  clear hm
  by_cases hlt : n < m
  · go_enter Try.func7, Try.ntmps7
    go_wp2_with (first
      | (go_at_call 16; refine (wide_yes _ (by omega) (by omega) _).mono ?_; rintro e w' ⟨rfl, rfl⟩)
      | (go_at_call 17; refine (HO.out _).mono ?_; rintro e w' ⟨rfl, rfl⟩)
      | (go_at_call 11; refine (HR.out _).mono ?_; rintro e w' ⟨rfl, rfl⟩))
    go_ret2
    have e1 := or_rest f k n hf hk (by have := Hm.out; omega)
    have hp : putL f k n = [restN f k + n] := if_pos (by have := Hm.out; omega)
    refine ⟨_, rfl, ?_, (Below.refl _ _).alloc (Nat.le_refl _) _⟩
    rw [hp]
    have := World.ownsRow_lit (base := w.heap.size) (e := 5) (size := 1) w #[.int .u8 (bits .or .u8 (restN f k : Nat) (n : Int))] 1 (Nat.le_refl _) (by decide) rfl
    rw [e1] at this
    rw [e1]
    exact this
  · have hS := Rel.start f k n (by have := Hm.out; omega) hn
    rw [← Hm.out] at hS
    have hL := putL_len f k n
    generalize putL f k n = full at hS hL ⊢
    have e1 := or_rest f k m hf hk (by have := Hm.out; have := Nat.one_le_two_pow (n := k); omega)
    have E1 := Lib.hid e1
    clear e1
    obtain h | rfl : m < n ∨ m = n := by omega
    all_goals
      go_enter Try.func7, Try.ntmps7
      go_wp2_with (first
        | (go_at_call 16; refine (wide_yes _ (by omega) (by omega) _).mono ?_; rintro e w' ⟨rfl, rfl⟩)
        | (go_at_call 17; refine (HO.out _).mono ?_; rintro e w' ⟨rfl, rfl⟩)
        | (go_at_call 11; refine (HR.out _).mono ?_; rintro e w' ⟨rfl, rfl⟩))
      go_loopw [9, 10] (fun v x wr => ∃ (L : Nat) (xs : List Nat), L ≤ 268435455 ∧ x = .int .u32 L ∧ Rel xs L full ∧ wr.ownsRow w.heap.size 5 1 v xs.length (B xs) ∧ Below w.heap.size w wr) (fun _ x _ => (intOf x).toNat)
      case atStart =>
        have hown := World.ownsRow_lit (base := w.heap.size) (e := 5) (size := 1) w #[.int .u8 (bits .or .u8 (restN f k : Nat) (m : Int))] 1 (Nat.le_refl _) (by decide) rfl
        have hb := (Below.refl w.heap.size w).alloc (Nat.le_refl _) (.cells #[.int .u8 (bits .or .u8 (restN f k : Nat) (m : Int))] 5)
        rw [E1.out] at hown hb
        refine ⟨_, _, ?_, ?_, hS, ?_, ?_⟩
        · omega
        · congr 1; omega
        · rw [E1.out]; exact hown
        · rw [E1.out]; exact hb
      case round =>
        obtain ⟨L, xs, hLb, rfl, hrel, hown, hbel⟩ := hrel
        by_cases hge : 128 ≤ L
        · have hx := hrel.len
          have hx2 : xs.length + 1 ≤ 1000000000 := by omega
          have hsz := hbel.size
          have hor := or_bits_hi ⟨L % 256, by omega⟩
          have hst := hrel.step hge
          have hmod : (L % 256) % 128 = L % 128 := by omega
          simp only [hmod] at hor
          have HOR : Hid (bits .or .u8 ((L : Int) % 256) 128 = ((L % 128 + 128 : Nat) : Int)) := by rw [← hor]; rfl
          clear hor hmod
          go_wp2_with (at_builtin; refine wp_append_box rfl _ _ 22 rfl w.heap.size 5 i0 (.int .u8 0) 1 1 Try.underlying22 hi hz0 hz1 hz2 rfl (by decide) _ _ _ rfl hown 1 _ rfl rfl (by intro u hu; simp at hu; subst hu; rfl) hx2 (by decide) hsz ?_; intro v' w1 hown1 hbel1)
          go_roundw
          case rel =>
            refine ⟨L / 128, xs ++ [L % 128 + 128], by omega, by go_num, hst, ?_, hbel.trans hbel1⟩
            rw [List.length_append, B_app]
            rw [HOR.out] at hown1
            exact hown1
          case measure => simp [intOf]; omega
        · have hx := hrel.len
          have hx2 : xs.length + 1 ≤ 1000000000 := by omega
          have hsz := hbel.size
          have hst := hrel.last (by omega)
          go_wp2_with (at_builtin; refine wp_append_box rfl _ _ 22 rfl w.heap.size 5 i0 (.int .u8 0) 1 1 Try.underlying22 hi hz0 hz1 hz2 rfl (by decide) _ _ _ rfl hown 1 _ rfl rfl (by intro u hu; simp at hu; subst hu; rfl) hx2 (by decide) hsz ?_; intro v' w1 hown1 hbel1)
          go_ret2
          refine ⟨_, rfl, ?_, hbel.trans hbel1⟩
          rw [← hst, List.length_append, B_app]
          exact hown1
end Go.Proofs.Ytbbjkobadliglaa
