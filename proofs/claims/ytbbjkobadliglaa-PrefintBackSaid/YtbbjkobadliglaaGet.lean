import Derived.Test.YtbbjkobadliglaaPutRef
import Derived.Deep.QuietTactic
import Derived.BigQuiet
import Derived.WalkSmall
namespace Go.Proofs.Ytbbjkobadliglaa
open Go.RowKit

def GetPost (w : World) (R : Nat × Nat × Nat) (e : Ending) (w' : World) : Prop :=
  e = .returned (.tuple #[.int .i64 R.1, .int .i64 R.2.1, .int .i64 R.2.2]) ∧ Below w.heap.size w w'
theorem ofInt_i64 (a : Nat) (ha : a < 9223372036854775808) : (BitVec.ofInt 64 (a : Int)).toNat = a := by
  rw [BitVec.ofInt_natCast, BitVec.toNat_ofNat]; exact Nat.mod_eq_of_lt (by omega)
theorem i64_and_nat (a b : Nat) (ha : a < 9223372036854775808) (hb : b < 9223372036854775808) : bits .and .i64 (a : Int) (b : Int) = ((a &&& b : Nat) : Int) := by
  have hx : a &&& b < 2 ^ 63 := Nat.and_lt_two_pow _ (by omega)
  show IntKind.i64.wrap ((BitVec.ofInt 64 (a : Int) &&& BitVec.ofInt 64 (b : Int)).toNat : Int) = _
  rw [BitVec.toNat_and, ofInt_i64 a ha, ofInt_i64 b hb, IntKind.wrap_i64]
  omega
theorem and_ones (c k : Nat) (hc : c < 256) (hk : k ≤ 8) : bits .and .i64 (c : Int) ((2 ^ k - 1 : Nat) : Int) = ((c % 2 ^ k : Nat) : Int) := by
  have := pow_le k k (Nat.le_refl _) hk
  rw [i64_and_nat _ _ (by omega) (by omega), Nat.and_two_pow_sub_one_eq_mod]

theorem and_127 : ∀ f : Fin 256, bits .and .u8 (f.val : Int) 127 = ((f.val % 128 : Nat) : Int) := by decide +kernel
set_option maxRecDepth 100000 in
set_option maxHeartbeats 1600000 in
theorem get_any (b off cap k : Nat) (c : Nat) (t : List Nat) (w : World) (hk1 : 1 ≤ k) (hk : k ≤ 8) (hc : c < 256) (ht : ∀ x ∈ t, x < 256) (hlen : t.length ≤ 1000000)
    (h0 : w.cell? ⟨b, off, none⟩ = some (.int .u8 c)) (hcell : ∀ i (h : i < t.length), w.cell? ⟨b, off + (i + 1), none⟩ = some (.int .u8 t[i])) :
    Calls Try.prog 14 #[.slice (some ⟨b, off, none⟩) (t.length + 1 : Nat) cap, .int .i64 k] w (GetPost w (getL (c :: t) k)) := by
  have hO := ones_any k hk
  have hand := and_ones c k hc hk
  obtain ⟨m, hm⟩ : ∃ m, m = 2 ^ k - 1 := ⟨_, rfl⟩
  obtain ⟨q, hq⟩ : ∃ q, q = c % 2 ^ k := ⟨_, rfl⟩
  have hmq : getL (c :: t) k = if q < m then (q, 1, 0) else getGo 5 t 0 q 1 := by rw [hq, hm]; rfl
  have hq2 : q ≤ m := by
    have := Nat.mod_lt c (Nat.two_pow_pos k)
    omega
  have hm1 : m ≤ 255 := by rw [hm]; have := pow_le k k (Nat.le_refl _) hk; omega
  rw [← hm] at hO hand
  rw [← hq] at hand
  have HO := Lib.hid hO
  clear hO hm hq
  by_cases hlt : q < m
  · rw [hmq, if_pos hlt]
    clear hmq
    go_enter Try.func14, Try.ntmps14
    go_wp2_with (go_at_call 16; refine (wide_yes _ (by omega) (by omega) _).mono ?_; rintro e w' ⟨rfl, rfl⟩)
    go_quiet ((go_at_call 17; exact Calls.quiet_of_same ((HO.out _).mono fun _ _ h => ⟨h.1, h.2.symm⟩)))
    go_wp2_with (go_at_call 17; refine (HO.out _).mono ?_; rintro e w' ⟨rfl, rfl⟩)
    go_ret3
    exact ⟨rfl, below_drewN (Below.refl _ _) _⟩
  · rw [hmq, if_neg hlt]
    clear hmq
    obtain rfl : q = m := by omega
    generalize hRR : getGo 5 t 0 q 1 = R
    have HR : Hid (getGo (5 - 0) (t.drop 0) 0 q 1 = R) := hRR
    clear hRR
    go_enter Try.func14, Try.ntmps14
    go_wp2_with (go_at_call 16; refine (wide_yes _ (by omega) (by omega) _).mono ?_; rintro e w' ⟨rfl, rfl⟩)
    go_quiet ((go_at_call 17; exact Calls.quiet_of_same ((HO.out _).mono fun _ _ h => ⟨h.1, h.2.symm⟩)))
    go_wp2_with (go_at_call 17; refine (HO.out _).mono ?_; rintro e w' ⟨rfl, rfl⟩)
    clear h0 hand hq2 hlt
    have HC : Hid _ := hcell
    have HT : Hid _ := ht
    clear hcell ht
    go_loop [7, 30] (fun x y => ∃ i n : Nat, i ≤ 5 ∧ n < 256 * 128 ^ i ∧ Hid (getGo (5 - i) (t.drop i) i n (128 ^ i) = R) ∧ x = .int .i64 n ∧ y = .int .i64 i) (fun _ y => 5 - (intOf y).toNat)
    case atStart => exact ⟨0, q, by omega, by omega, HR, rfl, rfl⟩
    case round =>
      clear HR
      obtain ⟨i, n, hi, hn, HR', rfl, rfl⟩ := hrel
      by_cases hi5 : i = 5
      · subst hi5
        have hR8 : R = (0, 0, 8) := HR'.out.symm
        subst hR8
        clear HR' hn hi
        go_wp2
        go_ret3
        exact ⟨rfl, below_drewN (Below.refl _ _) _⟩
      · by_cases hl : i < t.length
        · have hx := HC.out i hl
          have hxl := HT.out t[i] (List.getElem_mem _)
          have ha := and_127 ⟨t[i], hxl⟩
          have hmore := fun h => (getGo_more t i n (128 ^ i) (by omega) hl h).symm.trans HR'.out
          have hdone := fun h h' => (getGo_done t i n (128 ^ i) (by omega) hl h h').symm.trans HR'.out
          have hbig := fun h h' => (getGo_big t i n (128 ^ i) (by omega) hl h h').symm.trans HR'.out
          simp only at ha
          generalize t[i] = x at hx hxl ha hmore hdone hbig
          obtain ⟨y, hy⟩ : ∃ y, y = x % 128 := ⟨_, rfl⟩
          rw [← hy] at ha hmore hdone hbig
          have hy8 : y < 128 := by omega
          obtain ⟨N, hN⟩ : ∃ N, N = n + 128 ^ i * y := ⟨_, rfl⟩
          rw [← hN] at hmore hdone hbig
          rw [show 128 * 128 ^ i = 128 ^ (i + 1) by rw [Nat.pow_succ]; omega] at hmore
          have HM := Lib.hid hmore
          have HD := Lib.hid hdone
          have HB := Lib.hid hbig
          have HN := Lib.hid hN
          have HY : Hid (x < 128 → y = x) := fun h => by omega
          clear hmore hdone hbig HR' hN hy
          have : i = 0 ∨ i = 1 ∨ i = 2 ∨ i = 3 ∨ i = 4 := by omega
          by_cases hc2 : 128 ≤ x
          · have HM' := Lib.hid (HM.out hc2)
            clear HM HD HB HY
            rcases this with rfl | rfl | rfl | rfl | rfl
            all_goals
              simp only [Nat.zero_add, Nat.reduceAdd, Nat.reducePow, Nat.reduceMul] at hx hn
              clear hi hi5
              go_wp2
              go_round
              case rel => exact ⟨_, N, by decide, by have := HN.out; omega, HM'.out, by have := HN.out; congr 1; omega, rfl⟩
              case measure => simp [intOf]
          · have hxy := HY.out (by omega)
            subst hxy
            clear hxl hy8
            by_cases hbg : 268435455 < N
            · have hR8 : (0, 0, 8) = R := HB.out (by omega) hbg
              subst hR8
              clear HM HD HB HY
              rcases this with rfl | rfl | rfl | rfl | rfl
              all_goals
                simp only [Nat.zero_add, Nat.reduceAdd, Nat.reducePow, Nat.reduceMul] at hx hn
                have hN := HN.out
                simp only [Nat.reducePow, Nat.one_mul] at hN
                clear hi hi5 HN
                subst hN
                first
                | (exfalso; omega)
                | (go_wp2
                   go_ret3
                   exact ⟨rfl, below_drewN (Below.refl _ _) _⟩)
            · have hR8 : (N, i + 2, 0) = R := HD.out (by omega) (by omega)
              subst hR8
              clear HM HD HB HY
              rcases this with rfl | rfl | rfl | rfl | rfl
              all_goals
                simp only [Nat.zero_add, Nat.reduceAdd, Nat.reducePow, Nat.reduceMul] at hx hn
                have hN := HN.out
                simp only [Nat.reducePow, Nat.one_mul] at hN
                clear hi hi5 HN
                subst hN
                go_wp2
                go_ret3
                exact ⟨by simp <;> omega, below_drewN (Below.refl _ _) _⟩
        · have hR8 : (0, 0, 3) = R := (getGo_end t i n (128 ^ i) (by omega) (by omega)).symm.trans HR'.out
          subst hR8
          clear HR' hn
          go_wp2
          go_ret3
          exact ⟨rfl, below_drewN (Below.refl _ _) _⟩
end Go.Proofs.Ytbbjkobadliglaa
