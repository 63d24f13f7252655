import Derived.Test.YtpafncellopphaaFind
import Derived.Test.YtpafncellopphaaRefAt
namespace Go.Proofs.Ytpafncellopphaa
open Go.RowKit
attribute [local go_sem ↓] Go.wp_at_zero Go.wp_at_succ

set_option maxRecDepth 100000 in
set_option maxHeartbeats 3200000 in
theorem find_ref (n v : ByteArray) (w : World) : Calls Try.prog 13 #[.string n, .string v] w (FindPost w (findT n v)) := by
  go_enter Try.func13, Try.ntmps13
  go_wp2_with fail
  go_loopw [6, 7] (fun x y wr => ∃ (k nm : Nat), k ≤ 61 ∧ nm ≤ k ∧ x = .int .i64 nm ∧ y = .int .i64 ((k : Int) + 1) ∧ Hid (findT n v = findL n v (tab.drop k) k nm) ∧ Below w.heap.size w wr) (fun _ y _ => 62 - (intOf y).toNat)
  case atStart => exact ⟨0, 0, by omega, by omega, rfl, rfl, Lib.hid rfl, lo_refl w⟩
  case round =>
    obtain ⟨k, nm, hk, hnm, rfl, rfl, hf, hbel⟩ := hrel
    by_cases hkl : k < 61
    · have hkl' : (k : Int) + 1 ≤ 61 := by omega
      have hd : tab.drop k = tab.getD k nofield :: tab.drop (k + 1) := by
        rw [List.drop_eq_getElem_cons (by rw [tab_len]; exact hkl), show tab.getD k nofield = tab[k]'(by rw [tab_len]; exact hkl) by simp [List.getD, List.getElem?_eq_getElem (show k < tab.length by rw [tab_len]; exact hkl)]]
      have hf2 := hf.out
      rw [hd, findL] at hf2
      have hR := ref_any ((k : Int) + 1)
      rw [at_in hkl] at hR
      generalize tab.getD k nofield = x at hR hf2
      obtain ⟨xn, xv⟩ := x
      have HR := Lib.hid hR
      have Hf2 := Lib.hid hf2
      have hL := Lib.hid hbel
      clear hR hf hf2 hd hbel
      go_wp2_with fail
      refine (HR.out _).mono ?_
      rintro e w2 ⟨rfl, hb2⟩
      have hL2 := Lib.hid (lo_alloc (lo_trans hL.out hb2) (.cells #[.string xn, .string xv, .bool false] 23))
      clear hL hb2
      have hf2 := Hf2.out
      (try simp only at hf2)
      clear Hf2
      by_cases h1 : xn = n
      · subst h1
        rw [if_pos rfl] at hf2
        by_cases h2 : xv = v
        · subst h2
          rw [if_pos rfl] at hf2
          have Hf2 := Lib.hid hf2
          clear hf2
          go_wp2_with fail
          go_ret2
          exact ⟨by rw [Hf2.out]; simp, hL2.out⟩
        · rw [if_neg h2] at hf2
          have s2 := str_ne h2
          have Hf2 := Lib.hid hf2
          clear hf2
          by_cases h3 : nm = 0
          · subst h3
            go_wp2_with fail
            go_roundw
            case rel => exact ⟨k + 1, k + 1, by omega, by omega, by go_num, by go_num, Lib.hid (by simpa using Hf2.out), hL2.out⟩
            case measure => simp [intOf]; omega
          · have h3' : ¬ (nm : Int) = 0 := by omega
            go_wp2_with fail
            go_roundw
            case rel => exact ⟨k + 1, nm, by omega, by omega, by go_num, by go_num, Lib.hid (by simpa [h3] using Hf2.out), hL2.out⟩
            case measure => simp [intOf]; omega
      · rw [if_neg h1] at hf2
        have s1 := str_ne h1
        have Hf2 := Lib.hid hf2
        clear hf2
        go_wp2_with fail
        go_roundw
        case rel => exact ⟨k + 1, nm, by omega, by omega, by go_num, by go_num, Hf2, hL2.out⟩
        case measure => simp [intOf]; omega
    · have hkl' : ¬ (k : Int) + 1 ≤ 61 := by omega
      have hf2 := hf.out
      rw [List.drop_eq_nil_of_le (by rw [tab_len]; omega), findL] at hf2
      have Hf2 := Lib.hid hf2
      have hL := Lib.hid hbel
      clear hf hf2 hbel
      go_wp2_with fail
      go_ret2
      exact ⟨by rw [Hf2.out]; rfl, hL.out⟩
end Go.Proofs.Ytpafncellopphaa
