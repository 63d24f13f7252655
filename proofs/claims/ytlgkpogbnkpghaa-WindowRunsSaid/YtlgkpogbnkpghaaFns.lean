import Derived.Test.YtlgkpogbnkpghaaSmall
namespace Go.Proofs.Ytlgkpogbnkpghaa
open Go.RowKit

def PairPost (w : World) (k : IntKind) (r : Int × Int) (e : Ending) (w' : World) : Prop := e = .returned (.tuple #[.int .i64 r.1, .int k r.2]) ∧ w = w'
theorem give_cases (a n : Int) : (isB a = false ∧ giveW a n = (a, 3)) ∨ (isB a = true ∧ n < 1 ∧ giveW a n = (a, 1)) ∨ (isB a = true ∧ 1 ≤ n ∧ 2147483647 < n ∧ giveW a n = (a, 1)) ∨
    (isB a = true ∧ 1 ≤ n ∧ n ≤ 2147483647 ∧ a + n ≤ 2147483647 ∧ giveW a n = (a + n, 0)) ∨ (isB a = true ∧ 1 ≤ n ∧ n ≤ 2147483647 ∧ 2147483647 < a + n ∧ giveW a n = (a, 3)) := by
  unfold giveW
  cases h : isB a
  · exact .inl ⟨rfl, rfl⟩
  · right
    simp only [Bool.true_eq_false, if_false, true_and]
    by_cases h1 : n < 1
    · exact .inl ⟨h1, if_pos (.inl h1)⟩
    · by_cases h2 : 2147483647 < n
      · exact .inr (.inl ⟨by omega, h2, if_pos (.inr h2)⟩)
      · rw [if_neg (by omega)]
        by_cases h3 : a + n ≤ 2147483647
        · exact .inr (.inr (.inl ⟨by omega, by omega, h3, if_pos h3⟩))
        · exact .inr (.inr (.inr ⟨by omega, by omega, by omega, if_neg h3⟩))
theorem give_any (a n : Int) (w : World) : Calls Try.prog 9 #[.int .i64 a, .int .i64 n] w (PairPost w .u32 (giveW a n)) := by
  rcases give_cases a n with ⟨h1, e⟩ | ⟨h1, h2, e⟩ | ⟨h1, h2, h3, e⟩ | ⟨h1, h2, h3, h4, e⟩ | ⟨h1, h2, h3, h4, e⟩
  · rw [e]
    have hm := moved_any a n (fun h => by rw [h1] at h; cases h)
    rw [h1] at hm
    have HM := Lib.hid hm
    clear e hm
    go_enter Try.func9, Try.ntmps9
    go_wp2_with (first | (go_at_call 20; refine (is_any _ _).mono ?_; rintro e w' ⟨rfl, rfl⟩) | (go_at_call 22; refine (size_any _ _).mono ?_; rintro e w' ⟨rfl, rfl⟩) | (go_at_call 23; refine (HM.out _).mono ?_; rintro e w' ⟨rfl, rfl⟩))
    go_ret2
    exact ⟨rfl, rfl⟩
  · rw [e]
    clear e
    go_enter Try.func9, Try.ntmps9
    go_wp2_with (first | (go_at_call 20; refine (is_any _ _).mono ?_; rintro e w' ⟨rfl, rfl⟩) | (go_at_call 22; refine (size_any _ _).mono ?_; rintro e w' ⟨rfl, rfl⟩))
    go_ret2
    exact ⟨rfl, rfl⟩
  · rw [e]
    have hs : szB n = false := szB_no (by omega)
    clear e
    go_enter Try.func9, Try.ntmps9
    go_wp2_with (first | (go_at_call 20; refine (is_any _ _).mono ?_; rintro e w' ⟨rfl, rfl⟩) | (go_at_call 22; refine (size_any _ _).mono ?_; rintro e w' ⟨rfl, rfl⟩))
    go_ret2
    exact ⟨rfl, rfl⟩
  · rw [e]
    have hs : szB n = true := szB_yes (by omega)
    have hm := moved_any a n (fun _ => by omega)
    obtain ⟨h5, h6⟩ := isB_iff.1 h1
    have h7 : isB (a + n) = true := isB_yes (by omega)
    rw [h1, h7] at hm
    have HM := Lib.hid hm
    clear e hm
    go_enter Try.func9, Try.ntmps9
    go_wp2_with (first | (go_at_call 20; refine (is_any _ _).mono ?_; rintro e w' ⟨rfl, rfl⟩) | (go_at_call 22; refine (size_any _ _).mono ?_; rintro e w' ⟨rfl, rfl⟩) | (go_at_call 23; refine (HM.out _).mono ?_; rintro e w' ⟨rfl, rfl⟩))
    go_ret2
    exact ⟨rfl, rfl⟩
  · rw [e]
    have hs : szB n = true := szB_yes (by omega)
    have hm := moved_any a n (fun _ => by omega)
    obtain ⟨h5, h6⟩ := isB_iff.1 h1
    have h7 : isB (a + n) = false := isB_no (by omega)
    rw [h1, h7] at hm
    have HM := Lib.hid hm
    clear e hm
    go_enter Try.func9, Try.ntmps9
    go_wp2_with (first | (go_at_call 20; refine (is_any _ _).mono ?_; rintro e w' ⟨rfl, rfl⟩) | (go_at_call 22; refine (size_any _ _).mono ?_; rintro e w' ⟨rfl, rfl⟩) | (go_at_call 23; refine (HM.out _).mono ?_; rintro e w' ⟨rfl, rfl⟩))
    go_ret2
    exact ⟨rfl, rfl⟩
theorem give_ref (a n : Int) (w : World) : Calls Try.prog 10 #[.int .i64 a, .int .i64 n] w (PairPost w .i64 (giveW a n)) := by
  rcases give_cases a n with ⟨h1, e⟩ | ⟨h1, h2, e⟩ | ⟨h1, h2, h3, e⟩ | ⟨h1, h2, h3, h4, e⟩ | ⟨h1, h2, h3, h4, e⟩
  · rw [e]
    clear e
    go_enter Try.func10, Try.ntmps10
    go_wp2_with (go_at_call 21; refine (is_ref _ _).mono ?_; rintro e w' ⟨rfl, rfl⟩)
    go_ret2
    exact ⟨rfl, rfl⟩
  all_goals
    rw [e]
    obtain ⟨h5, h6⟩ := isB_iff.1 h1
    clear e
    go_enter Try.func10, Try.ntmps10
    go_wp2_with (go_at_call 21; refine (is_ref _ _).mono ?_; rintro e w' ⟨rfl, rfl⟩)
    go_ret2
    exact ⟨rfl, rfl⟩
theorem shift_cases (a m n : Int) : (isB a = false ∧ shiftW a m n = (a, 3)) ∨ (isB a = true ∧ szB m = false ∧ shiftW a m n = (a, 1)) ∨ (isB a = true ∧ szB m = true ∧ szB n = false ∧ shiftW a m n = (a, 1)) ∨
    (isB a = true ∧ szB m = true ∧ szB n = true ∧ isB (a + n - m) = true ∧ shiftW a m n = (a + n - m, 0)) ∨ (isB a = true ∧ szB m = true ∧ szB n = true ∧ isB (a + n - m) = false ∧ shiftW a m n = (a, 3)) := by
  unfold shiftW
  cases isB a <;> cases szB m <;> cases szB n <;> cases isB (a + n - m) <;> simp
theorem szB_iff {n : Int} : szB n = true ↔ (0 ≤ n ∧ n ≤ 2147483647) := decide_eq_true_iff
theorem szB_iff' {n : Int} : szB n = false ↔ (n < 0 ∨ 2147483647 < n) := by
  unfold szB
  rw [decide_eq_false_iff_not]
  omega
theorem shift_any (a m n : Int) (w : World) : Calls Try.prog 11 #[.int .i64 a, .int .i64 m, .int .i64 n] w (PairPost w .u32 (shiftW a m n)) := by
  rcases shift_cases a m n with ⟨h1, e⟩ | ⟨h1, h2, e⟩ | ⟨h1, h2, h3, e⟩ | ⟨h1, h2, h3, h4, e⟩ | ⟨h1, h2, h3, h4, e⟩
  · rw [e]
    clear e
    go_enter Try.func11, Try.ntmps11
    go_wp2_with (first | (go_at_call 20; refine (is_any _ _).mono ?_; rintro e w' ⟨rfl, rfl⟩) | (go_at_call 22; refine (size_any _ _).mono ?_; rintro e w' ⟨rfl, rfl⟩))
    go_ret2
    exact ⟨rfl, rfl⟩
  · rw [e]
    clear e
    go_enter Try.func11, Try.ntmps11
    go_wp2_with (first | (go_at_call 20; refine (is_any _ _).mono ?_; rintro e w' ⟨rfl, rfl⟩) | (go_at_call 22; refine (size_any _ _).mono ?_; rintro e w' ⟨rfl, rfl⟩))
    go_ret2
    exact ⟨rfl, rfl⟩
  · rw [e]
    clear e
    go_enter Try.func11, Try.ntmps11
    go_wp2_with (first | (go_at_call 20; refine (is_any _ _).mono ?_; rintro e w' ⟨rfl, rfl⟩) | (go_at_call 22; refine (size_any _ _).mono ?_; rintro e w' ⟨rfl, rfl⟩))
    go_ret2
    exact ⟨rfl, rfl⟩
  all_goals
    rw [e]
    obtain ⟨h5, h6⟩ := isB_iff.1 h1
    obtain ⟨h7, h8⟩ := szB_iff.1 h2
    obtain ⟨h9, h10⟩ := szB_iff.1 h3
    have hm := moved_any a (n - m) (fun _ => by omega)
    rw [show a + (n - m) = a + n - m by omega, h1, h4] at hm
    have HM := Lib.hid hm
    clear e hm h4
    go_enter Try.func11, Try.ntmps11
    go_wp2_with (first | (go_at_call 20; refine (is_any _ _).mono ?_; rintro e w' ⟨rfl, rfl⟩) | (go_at_call 22; refine (size_any _ _).mono ?_; rintro e w' ⟨rfl, rfl⟩) | (go_at_call 23; refine (HM.out _).mono ?_; rintro e w' ⟨rfl, rfl⟩))
    go_ret2
    exact ⟨rfl, rfl⟩
theorem shift_ref (a m n : Int) (w : World) : Calls Try.prog 12 #[.int .i64 a, .int .i64 m, .int .i64 n] w (PairPost w .i64 (shiftW a m n)) := by
  rcases shift_cases a m n with ⟨h1, e⟩ | ⟨h1, h2, e⟩ | ⟨h1, h2, h3, e⟩ | ⟨h1, h2, h3, h4, e⟩ | ⟨h1, h2, h3, h4, e⟩
  · rw [e]
    clear e
    go_enter Try.func12, Try.ntmps12
    go_wp2_with (go_at_call 21; refine (is_ref _ _).mono ?_; rintro e w' ⟨rfl, rfl⟩)
    go_ret2
    exact ⟨rfl, rfl⟩
  · rw [e]
    clear e
    rcases szB_iff'.1 h2 with h3 | h3
    · go_enter Try.func12, Try.ntmps12
      go_wp2_with (go_at_call 21; refine (is_ref _ _).mono ?_; rintro e w' ⟨rfl, rfl⟩)
      go_ret2
      exact ⟨rfl, rfl⟩
    · have h4 : 0 ≤ m := by omega
      go_enter Try.func12, Try.ntmps12
      go_wp2_with (go_at_call 21; refine (is_ref _ _).mono ?_; rintro e w' ⟨rfl, rfl⟩)
      go_ret2
      exact ⟨rfl, rfl⟩
  · rw [e]
    obtain ⟨h7, h8⟩ := szB_iff.1 h2
    clear e
    rcases szB_iff'.1 h3 with h4 | h4
    · go_enter Try.func12, Try.ntmps12
      go_wp2_with (go_at_call 21; refine (is_ref _ _).mono ?_; rintro e w' ⟨rfl, rfl⟩)
      go_ret2
      exact ⟨rfl, rfl⟩
    · have h5 : 0 ≤ n := by omega
      go_enter Try.func12, Try.ntmps12
      go_wp2_with (go_at_call 21; refine (is_ref _ _).mono ?_; rintro e w' ⟨rfl, rfl⟩)
      go_ret2
      exact ⟨rfl, rfl⟩
  all_goals
    rw [e]
    obtain ⟨h5, h6⟩ := isB_iff.1 h1
    obtain ⟨h7, h8⟩ := szB_iff.1 h2
    obtain ⟨h9, h10⟩ := szB_iff.1 h3
    clear e
    go_enter Try.func12, Try.ntmps12
    go_wp2_with (go_at_call 21; refine (is_ref _ _).mono ?_; rintro e w' ⟨rfl, rfl⟩)
    go_ret2
    exact ⟨rfl, rfl⟩
def IntPost (w : World) (n : Int) (e : Ending) (w' : World) : Prop := e = .returned (.int .i64 n) ∧ w = w'
theorem check_any (a : Int) (w : World) : Calls Try.prog 13 #[.int .i64 a] w (IntPost w (errW a)) := by
  unfold errW
  cases h : isB a
  all_goals
    go_enter Try.func13, Try.ntmps13
    go_wp2_with (go_at_call 20; refine (is_any _ _).mono ?_; rintro e w' ⟨rfl, rfl⟩)
    go_ret
    exact ⟨rfl, rfl⟩
theorem check_ref (a : Int) (w : World) : Calls Try.prog 14 #[.int .i64 a] w (IntPost w (errW a)) := by
  unfold errW
  cases h : isB a
  all_goals
    go_enter Try.func14, Try.ntmps14
    go_wp2_with (go_at_call 21; refine (is_ref _ _).mono ?_; rintro e w' ⟨rfl, rfl⟩)
    go_ret
    exact ⟨rfl, rfl⟩
end Go.Proofs.Ytlgkpogbnkpghaa
