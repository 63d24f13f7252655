import Derived.Test.YtlgkpogbnkpghaaRun
namespace Go.Proofs.Ytlgkpogbnkpghaa
open Go.RowKit

set_option maxRecDepth 100000 in
set_option maxHeartbeats 3200000 in
theorem run_ref (a0 : Int) (A : Option Addr) (len cap : Nat) (l : List (Int × Int)) (w : World) (hl : Acts w A len cap l) (hlen : len ≤ 1000) :
    Calls Try.prog 17 #[.int .i64 a0, .slice A len cap] w (RunPost w .i64 (runW l a0)) := by
  have HL := Lib.hid hl
  have hll := hl.1
  clear hl
  generalize hR : runW l a0 = R
  have HR : Hid (runW (l.drop 0) a0 = R) := hR
  clear hR
  go_enter Try.func17, Try.ntmps17
  go_wp2_with fail
  go_loop [0, 6] (fun z y => ∃ (k : Nat) (a : Int), k ≤ len ∧ y = .int .i64 k ∧ z = .int .i64 a ∧ Hid (runW (l.drop k) a = R)) (fun _ y => len - (intOf y).toNat)
  case atStart => exact ⟨0, a0, by omega, rfl, rfl, HR⟩
  case round =>
    clear HR
    obtain ⟨k, a, hk, rfl, rfl, HR⟩ := hrel
    by_cases hkl : k < len
    · obtain ⟨b, off, rfl, hlt, hc⟩ := HL.out.2.2.2.2.1 k l[k] (List.getElem?_eq_getElem (by omega))
      have hwf := HL.out.2.2.2.2.2 l[k] (List.getElem_mem _)
      have hd := drop_run l k a (by omega)
      rw [HR.out] at hd
      generalize l[k] = x at hc hwf hd
      obtain ⟨kd, n⟩ := x
      have hc0 := hc 0 _ rfl
      have hc1 := hc 1 _ rfl
      simp only [Nat.add_zero] at hc0 hc1
      have hkd := bounds_u8 hwf.1
      simp only at hd hkd
      have hkl' : (k : Int) < (len : Int) := by omega
      clear hc hwf HR
      have hkc : kd = 0 ∨ kd = 1 ∨ kd = 2 ∨ kd = 3 ∨ (¬ kd = 0 ∧ ¬ kd = 1 ∧ ¬ kd = 2 ∧ ¬ kd = 3) := by omega
      rcases hkc with rfl | rfl | rfl | rfl | ⟨k0, k1, k2, k3⟩
      · have hst : stepW a 0 n = ((takeW a n).1, if (takeW a n).2 = true then 0 else 3) := rfl
        rw [hst] at hd
        have HK := Lib.hid (take_ref a n)
        have hsame : (takeW a n).2 = false → (takeW a n).1 = a := by
          unfold takeW
          split
          · intro h; cases h
          · intro _; rfl
        generalize takeW a n = r at hd HK hsame
        obtain ⟨x, c⟩ := r
        simp only at hd HK hsame
        cases c
        · have hxa := hsame rfl
          subst hxa
          have hRR : R = (x, 3) := by rw [hd]; rfl
          subst hRR
          clear hd hst hsame
          go_wp2_with fail
          refine (HK.out _).mono ?_
          rintro e w' ⟨rfl, rfl⟩
          go_wp2_with fail
          go_ret2
          exact ⟨rfl, lo_refl _⟩
        · have HD : Hid (runW (l.drop (k + 1)) x = R) := by rw [hd]; rfl
          clear hd hst hsame
          go_wp2_with fail
          refine (HK.out _).mono ?_
          rintro e w' ⟨rfl, rfl⟩
          go_wp2_with fail
          go_round
          case rel => exact ⟨k + 1, x, by omega, by go_num, rfl, HD⟩
          case measure => simp [intOf]; omega
      · have hst : stepW a 1 n = giveW a n := rfl
        rw [hst] at hd
        have HK1 := Lib.hid (give_ref a n)
        generalize giveW a n = r at hd HK1
        obtain ⟨x, c⟩ := r
        simp only at hd HK1
        by_cases hcz : c = 0
        · subst hcz
          have HD : Hid (runW (l.drop (k + 1)) x = R) := by rw [hd]; rfl
          clear hd hst
          go_wp2_with fail
          refine (HK1.out _).mono ?_
          rintro e w' ⟨rfl, rfl⟩
          go_wp2_with fail
          go_round
          case rel => exact ⟨k + 1, x, by omega, by go_num, rfl, HD⟩
          case measure => simp [intOf]; omega
        · have hRR : R = (x, c) := by rw [hd]; exact if_neg hcz
          have hcb : (c != 0) = true := by simpa using hcz
          subst hRR
          clear hd hst
          go_wp2_with fail
          refine (HK1.out _).mono ?_
          rintro e w' ⟨rfl, rfl⟩
          go_wp2_with fail
          go_ret2
          exact ⟨rfl, lo_refl _⟩
      · have hst : stepW a 2 n = shiftW a 0 n := rfl
        rw [hst] at hd
        have HK1 := Lib.hid (shift_ref a 0 n)
        generalize shiftW a 0 n = r at hd HK1
        obtain ⟨x, c⟩ := r
        simp only at hd HK1
        by_cases hcz : c = 0
        · subst hcz
          have HD : Hid (runW (l.drop (k + 1)) x = R) := by rw [hd]; rfl
          clear hd hst
          go_wp2_with fail
          refine (HK1.out _).mono ?_
          rintro e w' ⟨rfl, rfl⟩
          go_wp2_with fail
          go_round
          case rel => exact ⟨k + 1, x, by omega, by go_num, rfl, HD⟩
          case measure => simp [intOf]; omega
        · have hRR : R = (x, c) := by rw [hd]; exact if_neg hcz
          have hcb : (c != 0) = true := by simpa using hcz
          subst hRR
          clear hd hst
          go_wp2_with fail
          refine (HK1.out _).mono ?_
          rintro e w' ⟨rfl, rfl⟩
          go_wp2_with fail
          go_ret2
          exact ⟨rfl, lo_refl _⟩
      · have hst : stepW a 3 n = shiftW a n 0 := rfl
        rw [hst] at hd
        have HK1 := Lib.hid (shift_ref a n 0)
        generalize shiftW a n 0 = r at hd HK1
        obtain ⟨x, c⟩ := r
        simp only at hd HK1
        by_cases hcz : c = 0
        · subst hcz
          have HD : Hid (runW (l.drop (k + 1)) x = R) := by rw [hd]; rfl
          clear hd hst
          go_wp2_with fail
          refine (HK1.out _).mono ?_
          rintro e w' ⟨rfl, rfl⟩
          go_wp2_with fail
          go_round
          case rel => exact ⟨k + 1, x, by omega, by go_num, rfl, HD⟩
          case measure => simp [intOf]; omega
        · have hRR : R = (x, c) := by rw [hd]; exact if_neg hcz
          have hcb : (c != 0) = true := by simpa using hcz
          subst hRR
          clear hd hst
          go_wp2_with fail
          refine (HK1.out _).mono ?_
          rintro e w' ⟨rfl, rfl⟩
          go_wp2_with fail
          go_ret2
          exact ⟨rfl, lo_refl _⟩
      · have hst : stepW a kd n = (a, 0) := by unfold stepW; rw [if_neg k0, if_neg k1, if_neg k2, if_neg k3]
        rw [hst] at hd
        have HD : Hid (runW (l.drop (k + 1)) a = R) := by rw [hd]; rfl
        have b0 : (kd == 0) = false := by simpa using k0
        have b1 : (kd == 1) = false := by simpa using k1
        have b2 : (kd == 2) = false := by simpa using k2
        have b3 : (kd == 3) = false := by simpa using k3
        clear hd hst k0 k1 k2 k3
        go_wp2_with fail
        go_round
        case rel => exact ⟨k + 1, a, by omega, by go_num, rfl, HD⟩
        case measure => simp [intOf]; omega
    · obtain rfl : k = len := by omega
      have hRR : R = (a, 0) := by
        rw [← HR.out, List.drop_eq_nil_of_le (by omega)]
        rfl
      subst hRR
      clear HR
      go_wp2_with fail
      go_ret2
      exact ⟨rfl, lo_refl _⟩
end Go.Proofs.Ytlgkpogbnkpghaa
