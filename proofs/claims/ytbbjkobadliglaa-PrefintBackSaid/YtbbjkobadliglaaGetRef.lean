import Derived.Test.YtbbjkobadliglaaGet
namespace Go.Proofs.Ytbbjkobadliglaa
open Go.RowKit

set_option maxRecDepth 100000 in
set_option maxHeartbeats 3200000 in
theorem get_ref (b off cap k : Nat) (c : Nat) (t : List Nat) (w : World) (hk1 : 1 ≤ k) (hk : k ≤ 8) (hc : c < 256) (ht : ∀ x ∈ t, x < 256) (hlen : t.length ≤ 1000000)
    (h0 : w.cell? ⟨b, off, none⟩ = some (.int .u8 c)) (hcell : ∀ i (h : i < t.length), w.cell? ⟨b, off + (i + 1), none⟩ = some (.int .u8 t[i])) :
    Calls Try.prog 15 #[.slice (some ⟨b, off, none⟩) (t.length + 1 : Nat) cap, .int .i64 k] w (GetPost w (getL (c :: t) k)) := by
  have hO := pow_any k hk
  obtain ⟨p, hp⟩ : ∃ p, p = 2 ^ k := ⟨_, rfl⟩
  obtain ⟨q, hq⟩ : ∃ q, q = c % 2 ^ k := ⟨_, rfl⟩
  have hmq : getL (c :: t) k = if q < p - 1 then (q, 1, 0) else getGo 5 t 0 q 1 := by rw [hq, hp]; rfl
  have hq2 : q < p := by
    have := Nat.mod_lt c (Nat.two_pow_pos k)
    omega
  have hm1 : p ≤ 256 := by rw [hp]; exact pow_le k k (Nat.le_refl _) hk
  rw [← hp] at hO hq
  have hand : (c : Int) % (p : Int) = (q : Int) := by rw [hq]; simp
  have HO := Lib.hid hO
  have hp0 : (0 : Int) < (p : Int) := by omega
  clear hO hp hq
  by_cases hlt : q < p - 1
  · rw [hmq, if_pos hlt]
    clear hmq
    have hlt2 : (q : Int) < (p : Int) - 1 := by omega
    clear hlt
    go_enter Try.func15, Try.ntmps15
    go_wp2_with (go_at_call 18; refine (HO.out _).mono ?_; rintro e w' ⟨rfl, rfl⟩)
    go_ret3
    exact ⟨by simp [hand], Below.refl _ _⟩
  · rw [hmq, if_neg hlt]
    clear hmq
    have hlt2 : (p : Int) - 1 ≤ (q : Int) := by omega
    clear hlt
    generalize hRR : getGo 5 t 0 q 1 = R
    have HR : Hid (getGo (5 - 0) (t.drop 0) 0 q 1 = R) := hRR
    clear hRR
    have hq255 : q ≤ 255 := by omega
    have HC : Hid _ := hcell
    have HT : Hid _ := ht
    clear hcell ht
    go_enter Try.func15, Try.ntmps15
    go_wp2_with (go_at_call 18; refine (HO.out _).mono ?_; rintro e w' ⟨rfl, rfl⟩)
    clear h0 hq2
    have HAND := Lib.hid hand
    clear hand
    go_loop [8, 9, 10] (fun x z y => ∃ i n u : Nat, i ≤ 5 ∧ n < 256 * 128 ^ i ∧ Hid (u = 128 ^ i) ∧ Hid (getGo (5 - i) (t.drop i) i n (128 ^ i) = R) ∧ x = .int .i64 n ∧ z = .int .i64 u ∧ y = .int .i64 ((i : Int) + 1)) (fun _ _ y => 6 - (intOf y).toNat)
    case atStart => exact ⟨0, q, 1, by omega, by omega, rfl, HR, by rw [HAND.out], rfl, rfl⟩
    case round =>
      clear HR HAND
      obtain ⟨i, n, u, hi, hn, HU, HR', rfl, rfl, rfl⟩ := hrel
      by_cases hi5 : i = 5
      · subst hi5
        have hR8 : R = (0, 0, 8) := HR'.out.symm
        subst hR8
        clear HR' hn hi
        go_wp2
        go_ret3
        exact ⟨rfl, Below.refl _ _⟩
      · by_cases hl : i < t.length
        · have hx := HC.out i hl
          have hxl := HT.out t[i] (List.getElem_mem _)
          have hmore := fun h => (getGo_more t i n (128 ^ i) (by omega) hl h).symm.trans HR'.out
          have hdone := fun h h' => (getGo_done t i n (128 ^ i) (by omega) hl h h').symm.trans HR'.out
          have hbig := fun h h' => (getGo_big t i n (128 ^ i) (by omega) hl h h').symm.trans HR'.out
          generalize t[i] = x at hx hxl hmore hdone hbig
          obtain ⟨y, hy⟩ : ∃ y, y = x % 128 := ⟨_, rfl⟩
          rw [← hy] at hmore hdone hbig
          have hy8 : y < 128 := by omega
          obtain ⟨N, hN⟩ : ∃ N, N = n + 128 ^ i * y := ⟨_, rfl⟩
          rw [← hN] at hmore hdone hbig
          rw [show 128 * 128 ^ i = 128 ^ (i + 1) by rw [Nat.pow_succ]; omega] at hmore
          have HM := Lib.hid hmore
          have HD := Lib.hid hdone
          have HB := Lib.hid hbig
          have HN := Lib.hid hN
          have hmod : (x : Int) % 128 = (y : Int) := by omega
          clear hmore hdone hbig HR' hN hy
          have : i = 0 ∨ i = 1 ∨ i = 2 ∨ i = 3 ∨ i = 4 := by omega
          by_cases hc2 : 128 ≤ x
          · have HM' := Lib.hid (HM.out hc2)
            clear HM HD HB
            rcases this with rfl | rfl | rfl | rfl | rfl
            all_goals
              simp only [Nat.zero_add, Nat.reduceAdd, Nat.reducePow, Nat.reduceMul] at hx hn
              have hu := HU.out
              simp only [Nat.reducePow] at hu
              subst hu
              clear hi hi5
              go_wp2
              go_round
              case rel => exact ⟨_, N, _, by decide, by have := HN.out; omega, rfl, HM'.out, by have := HN.out; congr 1; omega, rfl, rfl⟩
              case measure => simp [intOf]
          · by_cases hbg : 268435455 < N
            · have hR8 : (0, 0, 8) = R := HB.out (by omega) hbg
              subst hR8
              clear HM HD HB
              rcases this with rfl | rfl | rfl | rfl | rfl
              all_goals
                simp only [Nat.zero_add, Nat.reduceAdd, Nat.reducePow, Nat.reduceMul] at hx hn
                have hN := HN.out
                simp only [Nat.reducePow, Nat.one_mul] at hN
                have hu := HU.out
                simp only [Nat.reducePow] at hu
                subst hu
                clear hi hi5 HN
                subst hN
                first
                | (exfalso; omega)
                | (go_wp2
                   go_ret3
                   exact ⟨rfl, Below.refl _ _⟩)
            · have hR8 : (N, i + 2, 0) = R := HD.out (by omega) (by omega)
              subst hR8
              clear HM HD HB
              rcases this with rfl | rfl | rfl | rfl | rfl
              all_goals
                simp only [Nat.zero_add, Nat.reduceAdd, Nat.reducePow, Nat.reduceMul] at hx hn
                have hN := HN.out
                simp only [Nat.reducePow, Nat.one_mul] at hN
                have hu := HU.out
                simp only [Nat.reducePow] at hu
                subst hu
                clear hi hi5 HN
                subst hN
                go_wp2
                go_ret3
                exact ⟨by simp <;> omega, Below.refl _ _⟩
        · have hR8 : (0, 0, 3) = R := (getGo_end t i n (128 ^ i) (by omega) (by omega)).symm.trans HR'.out
          subst hR8
          clear HR' hn HU
          go_wp2
          go_ret3
          exact ⟨rfl, Below.refl _ _⟩

def getErr (b : Int) : Int := if b < 1 ∨ 8 < b then 2 else 3
theorem get_bad (a : Option Addr) (len cap : Nat) (b : Int) (h : (b < 1 ∨ 8 < b) ∨ len = 0) (w : World) :
    Calls Try.prog 14 #[.slice a len cap, .int .i64 b] w fun e w' => e = .returned (.tuple #[.int .i64 0, .int .i64 0, .int .i64 (getErr b)]) ∧ w = w' := by
  by_cases h1 : b < 1 ∨ 8 < b
  · have e1 : getErr b = 2 := if_pos h1
    rw [e1]
    go_enter Try.func14, Try.ntmps14
    go_wp2_with (go_at_call 16; refine (wide_no _ (by omega) _).mono ?_; rintro e w' ⟨rfl, rfl⟩)
    go_ret3
    exact ⟨rfl, rfl⟩
  · have e1 : getErr b = 3 := if_neg h1
    rw [e1]
    have hb1 : 1 ≤ b := by omega
    have hb8 : b ≤ 8 := by omega
    obtain rfl : len = 0 := by omega
    clear h h1 e1
    go_enter Try.func14, Try.ntmps14
    go_wp2_with (go_at_call 16; refine (wide_yes _ (by omega) (by omega) _).mono ?_; rintro e w' ⟨rfl, rfl⟩)
    go_ret3
    exact ⟨rfl, rfl⟩
theorem get_bad_ref (a : Option Addr) (len cap : Nat) (b : Int) (h : (b < 1 ∨ 8 < b) ∨ len = 0) (w : World) :
    Calls Try.prog 15 #[.slice a len cap, .int .i64 b] w fun e w' => e = .returned (.tuple #[.int .i64 0, .int .i64 0, .int .i64 (getErr b)]) ∧ w = w' := by
  by_cases h1 : b < 1 ∨ 8 < b
  · have e1 : getErr b = 2 := if_pos h1
    rw [e1]
    clear h e1
    rcases h1 with h1 | h1
    · go_enter Try.func15, Try.ntmps15
      go_wp2_with fail
      go_ret3
      exact ⟨rfl, rfl⟩
    · have h3 : 1 ≤ b := by omega
      go_enter Try.func15, Try.ntmps15
      go_wp2_with fail
      go_ret3
      exact ⟨rfl, rfl⟩
  · have e1 : getErr b = 3 := if_neg h1
    rw [e1]
    have hb1 : 1 ≤ b := by omega
    have hb8 : b ≤ 8 := by omega
    obtain rfl : len = 0 := by omega
    clear h h1 e1
    go_enter Try.func15, Try.ntmps15
    go_wp2_with fail
    go_ret3
    exact ⟨rfl, rfl⟩
end Go.Proofs.Ytbbjkobadliglaa
