import Derived.Test.YtlgkpogbnkpghaaKit
import Derived.WalkSpells
import Derived.WalkLawsBesides
import Derived.Outline
namespace Go.Proofs.Ytlgkpogbnkpghaa
open Go.RowKit

def isB (w : Int) : Bool := decide (-2147483647 ≤ w ∧ w ≤ 2147483647)
def szB (n : Int) : Bool := decide (0 ≤ n ∧ n ≤ 2147483647)
theorem isB_yes {w : Int} (h : -2147483647 ≤ w ∧ w ≤ 2147483647) : isB w = true := decide_eq_true h
theorem isB_no {w : Int} (h : ¬ (-2147483647 ≤ w ∧ w ≤ 2147483647)) : isB w = false := decide_eq_false h
theorem isB_iff {w : Int} : isB w = true ↔ (-2147483647 ≤ w ∧ w ≤ 2147483647) := decide_eq_true_iff
theorem szB_yes {n : Int} (h : 0 ≤ n ∧ n ≤ 2147483647) : szB n = true := decide_eq_true h
theorem szB_no {n : Int} (h : ¬ (0 ≤ n ∧ n ≤ 2147483647)) : szB n = false := decide_eq_false h
theorem is_any (n : Int) (w : World) : Calls Try.prog 20 #[.int .i64 n] w fun e w' => e = .returned (.bool (isB n)) ∧ w = w' := by
  by_cases h : -2147483647 ≤ n
  · go_enter Try.func20, Try.ntmps20
    go_wp2
    go_ret
    exact ⟨by simp [isB, h], rfl⟩
  · rw [isB_no (by omega)]
    go_enter Try.func20, Try.ntmps20
    go_wp2
    go_ret
    exact ⟨rfl, rfl⟩
theorem is_ref (n : Int) (w : World) : Calls Try.prog 21 #[.int .i64 n] w fun e w' => e = .returned (.bool (isB n)) ∧ w = w' := by
  by_cases h : -2147483647 ≤ n
  · go_enter Try.func21, Try.ntmps21
    go_wp2
    go_ret
    exact ⟨by simp [isB, h], rfl⟩
  · rw [isB_no (by omega)]
    go_enter Try.func21, Try.ntmps21
    go_wp2
    go_ret
    exact ⟨rfl, rfl⟩
theorem size_any (n : Int) (w : World) : Calls Try.prog 22 #[.int .i64 n] w fun e w' => e = .returned (.bool (szB n)) ∧ w = w' := by
  by_cases h : 0 ≤ n
  · go_enter Try.func22, Try.ntmps22
    go_wp2
    go_ret
    exact ⟨by simp [szB, h], rfl⟩
  · rw [szB_no (by omega)]
    go_enter Try.func22, Try.ntmps22
    go_wp2
    go_ret
    exact ⟨rfl, rfl⟩

def takeW (w n : Int) : Int × Bool := if isB w = true ∧ 0 ≤ n ∧ n ≤ w then (w - n, true) else (w, false)
def giveW (w n : Int) : Int × Int := if isB w = false then (w, 3) else if n < 1 ∨ 2147483647 < n then (w, 1) else if w + n ≤ 2147483647 then (w + n, 0) else (w, 3)
def shiftW (w a b : Int) : Int × Int := if isB w = false then (w, 3) else if szB a = false ∨ szB b = false then (w, 1) else if isB (w + b - a) = true then (w + b - a, 0) else (w, 3)
def errW (w : Int) : Int := if isB w = true then 0 else 8
def mayW (a b c d : Int) : Int := max 0 (min (min a b) (min c d))

theorem take_any (a n : Int) (w : World) : Calls Try.prog 7 #[.int .i64 a, .int .i64 n] w fun e w' => e = .returned (.tuple #[.int .i64 (takeW a n).1, .bool (takeW a n).2]) ∧ w = w' := by
  by_cases h : isB a = true ∧ 0 ≤ n ∧ n ≤ a
  · have e : takeW a n = (a - n, true) := if_pos h
    rw [e]
    obtain ⟨h1, h2, h3⟩ := h
    have h4 := isB_iff.1 h1
    obtain ⟨h5, h6⟩ := h4
    clear e
    go_enter Try.func7, Try.ntmps7
    go_wp2_with (go_at_call 20; refine (is_any _ _).mono ?_; rintro e w' ⟨rfl, rfl⟩)
    go_ret2
    exact ⟨rfl, rfl⟩
  · have e : takeW a n = (a, false) := if_neg h
    rw [e]
    have hc : isB a = false ∨ (isB a = true ∧ n < 0) ∨ (isB a = true ∧ 0 ≤ n ∧ a < n) := by
      cases h1 : isB a
      · exact .inl rfl
      · right
        by_cases h2 : n < 0
        · exact .inl ⟨rfl, h2⟩
        · exact .inr ⟨rfl, by omega, by
            apply Classical.byContradiction
            intro h3
            exact h ⟨h1, by omega, by omega⟩⟩
    clear h e
    rcases hc with h1 | ⟨h1, h2⟩ | ⟨h1, h2, h3⟩
    all_goals
      go_enter Try.func7, Try.ntmps7
      go_wp2_with (go_at_call 20; refine (is_any _ _).mono ?_; rintro e w' ⟨rfl, rfl⟩)
      go_ret2
      exact ⟨rfl, rfl⟩
theorem take_ref (a n : Int) (w : World) : Calls Try.prog 8 #[.int .i64 a, .int .i64 n] w fun e w' => e = .returned (.tuple #[.int .i64 (takeW a n).1, .bool (takeW a n).2]) ∧ w = w' := by
  by_cases h : isB a = true ∧ 0 ≤ n ∧ n ≤ a
  · have e : takeW a n = (a - n, true) := if_pos h
    rw [e]
    obtain ⟨h1, h2, h3⟩ := h
    have h4 := isB_iff.1 h1
    obtain ⟨h5, h6⟩ := h4
    clear e
    go_enter Try.func8, Try.ntmps8
    go_wp2_with (go_at_call 21; refine (is_ref _ _).mono ?_; rintro e w' ⟨rfl, rfl⟩)
    go_ret2
    exact ⟨rfl, rfl⟩
  · have e : takeW a n = (a, false) := if_neg h
    rw [e]
    have hc : isB a = false ∨ (isB a = true ∧ n < 0) ∨ (isB a = true ∧ 0 ≤ n ∧ a < n) := by
      cases h1 : isB a
      · exact .inl rfl
      · right
        by_cases h2 : n < 0
        · exact .inl ⟨rfl, h2⟩
        · exact .inr ⟨rfl, by omega, by
            apply Classical.byContradiction
            intro h3
            exact h ⟨h1, by omega, by omega⟩⟩
    clear h e
    rcases hc with h1 | ⟨h1, h2⟩ | ⟨h1, h2, h3⟩
    all_goals
      go_enter Try.func8, Try.ntmps8
      go_wp2_with (go_at_call 21; refine (is_ref _ _).mono ?_; rintro e w' ⟨rfl, rfl⟩)
      go_ret2
      exact ⟨rfl, rfl⟩
theorem moved_any (a n : Int) (hn : isB a = true → -4294967294 ≤ n ∧ n ≤ 4294967294) (w : World) : Calls Try.prog 23 #[.int .i64 a, .int .i64 n] w fun e w' => e = .returned (.tuple #[.int .i64 (if isB a = true ∧ isB (a + n) = true then a + n else a), .int .u32 (if isB a = true ∧ isB (a + n) = true then 0 else 3)]) ∧ w = w' := by
  cases h1 : isB a
  · clear hn
    simp only [Bool.false_eq_true, false_and, if_false]
    go_enter Try.func23, Try.ntmps23
    go_wp2_with (go_at_call 20; refine (is_any _ _).mono ?_; rintro e w' ⟨rfl, rfl⟩)
    go_ret2
    exact ⟨rfl, rfl⟩
  · obtain ⟨n1, n2⟩ := hn h1
    clear hn
    obtain ⟨h4, h5⟩ := isB_iff.1 h1
    cases h2 : isB (a + n)
    · simp only [Bool.false_eq_true, and_false, if_false]
      go_enter Try.func23, Try.ntmps23
      go_wp2_with (go_at_call 20; refine (is_any _ _).mono ?_; rintro e w' ⟨rfl, rfl⟩)
      go_ret2
      exact ⟨rfl, rfl⟩
    · simp only [and_self, if_true]
      go_enter Try.func23, Try.ntmps23
      go_wp2_with (go_at_call 20; refine (is_any _ _).mono ?_; rintro e w' ⟨rfl, rfl⟩)
      go_ret2
      exact ⟨rfl, rfl⟩
end Go.Proofs.Ytlgkpogbnkpghaa
