import Derived.Test.YtcgnoaaejaofiaaTake
namespace Go.Proofs.Ytcgnoaaejaofiaa
open Go.RowKit

noncomputable def waitA (a : Bk) : Int :=
  if a.err ≠ 0 then -1 else if a.per ≤ a.level then 0 else if a.rate = 0 then -1 else if 1099511627776 - a.now < (a.per - a.level + a.rate - 1) / a.rate then -1 else (a.per - a.level + a.rate - 1) / a.rate
/-- How many ticks there are to the next token. -/
noncomputable def waitB (b : Bk) (tick : Int) : Int := waitA (atB b tick)
set_option maxHeartbeats 1600000 in
theorem wait_bad (b : Bk) (tick : Int) (w : World) (h : (atB b tick).err = 8) :
    Calls Try.prog 22 #[.agg #[.int .i64 b.burst, .int .i64 b.rate, .int .i64 b.per, .int .i64 b.level, .int .i64 b.now], .int .i64 tick] w (IntPost w (-1)) := by
  have HA := Lib.hid (at_any b tick)
  generalize atB b tick = a at HA h
  have HC := check_any a
  rw [h] at HC
  clear h
  obtain ⟨a0, a1, a2, a3, a4⟩ := a
  have HH := Lib.hid HC
  clear HC
  by_cases hall : a0 = 0 ∧ a1 = 0 ∧ a2 = 0 ∧ a3 = 0 ∧ a4 = 0
  · obtain ⟨rfl, rfl, rfl, rfl, rfl⟩ := hall
    go_enter Try.func22, Try.ntmps22
    go_wp2_with fail
    refine (HA.out _).mono ?_
    rintro e w1 ⟨rfl, hb1⟩
    have hL2 := Lib.hid (lo_alloc (lo_trans (lo_alloc (lo_refl w) _) hb1) (.cells #[.int .i64 0, .int .i64 0, .int .i64 0, .int .i64 0, .int .i64 0] 26))
    clear hb1
    go_wp2_with fail
    go_ret
    exact ⟨rfl, hL2.out⟩
  have hcase : ¬ a0 = 0 ∨ (a0 = 0 ∧ ¬ a1 = 0) ∨ (a0 = 0 ∧ a1 = 0 ∧ ¬ a2 = 0) ∨ (a0 = 0 ∧ a1 = 0 ∧ a2 = 0 ∧ ¬ a3 = 0) ∨ (a0 = 0 ∧ a1 = 0 ∧ a2 = 0 ∧ a3 = 0 ∧ ¬ a4 = 0) := by omega
  clear hall
  rcases hcase with h | ⟨rfl, h⟩ | ⟨rfl, rfl, h⟩ | ⟨rfl, rfl, rfl, h⟩ | ⟨rfl, rfl, rfl, rfl, h⟩
  all_goals
    go_enter Try.func22, Try.ntmps22
    go_wp2_with fail
    refine (HA.out _).mono ?_
    rintro e w1 ⟨rfl, hb1⟩
    have hL := lo_trans (lo_alloc (lo_refl w) _) hb1
    clear hb1
    go_wp2_with fail
    refine (HH.out _).mono ?_
    rintro e w2 ⟨rfl, hb2⟩
    have hL2 := Lib.hid (lo_trans (lo_alloc hL _) hb2)
    clear hL hb2
    go_wp2_with fail
    go_ret
    exact ⟨rfl, hL2.out⟩

set_option maxHeartbeats 1600000 in
theorem wait_good (b : Bk) (tick : Int) (w : World) (h : (atB b tick).ok) :
    Calls Try.prog 22 #[.agg #[.int .i64 b.burst, .int .i64 b.rate, .int .i64 b.per, .int .i64 b.level, .int .i64 b.now], .int .i64 tick] w (IntPost w (waitB b tick)) := by
  have HA := Lib.hid (at_any b tick)
  unfold waitB
  generalize atB b tick = a at HA h ⊢
  have HC := check_any a
  have he : a.err = 0 := if_pos h
  rw [he] at HC
  have HH := Lib.hid HC
  unfold waitA
  rw [if_neg (by rw [he]; decide)]
  clear HC he
  obtain ⟨⟨⟨q1, q2⟩, ⟨q3, q4⟩, ⟨q5, q6⟩⟩, ⟨q7, q8⟩, ⟨q9, q10⟩⟩ := h
  obtain ⟨p1, p2⟩ := prod_le q1 q2 q5 q6
  have q11 : a.level ≤ 1000000 := by omega
  have hne : ¬ a.burst = 0 := by omega
  clear q8 p1 p2
  by_cases c1 : a.per ≤ a.level
  · rw [if_pos c1]
    go_enter Try.func22, Try.ntmps22
    go_wp2_with fail
    refine (HA.out _).mono ?_
    rintro e w1 ⟨rfl, hb1⟩
    have hL := lo_trans (lo_alloc (lo_refl w) _) hb1
    clear hb1
    go_wp2_with fail
    refine (HH.out _).mono ?_
    rintro e w2 ⟨rfl, hb2⟩
    have hA := (Blk.new w1 26 #[.int .i64 a.burst, .int .i64 a.rate, .int .i64 a.per, .int .i64 a.level, .int .i64 a.now]).lo hb2
    obtain ⟨cA, fA⟩ := hA.facts
    have hL2 := Lib.hid (lo_trans (lo_alloc hL _) hb2)
    clear hL hb2 hA
    go_wp2_with fail
    go_ret
    exact ⟨rfl, hL2.out⟩
  · rw [if_neg c1]
    by_cases c2 : a.rate = 0
    · rw [if_pos c2]
      have c2' : (a.rate == 0) = true := by simpa using c2
      obtain ⟨a0, a1, a2, a3, a4⟩ := a
      simp only at *
      subst c2
      clear c2' q3 q4
      go_enter Try.func22, Try.ntmps22
      go_wp2_with fail
      refine (HA.out _).mono ?_
      rintro e w1 ⟨rfl, hb1⟩
      have hL := lo_trans (lo_alloc (lo_refl w) _) hb1
      clear hb1
      go_wp2_with fail
      refine (HH.out _).mono ?_
      rintro e w2 ⟨rfl, hb2⟩
      have hA := (Blk.new w1 26 #[.int .i64 a0, .int .i64 0, .int .i64 a2, .int .i64 a3, .int .i64 a4]).lo hb2
      obtain ⟨cA, fA⟩ := hA.facts
      have hL2 := Lib.hid (lo_trans (lo_alloc hL _) hb2)
      clear hL hb2 hA
      go_wp2_with fail
      go_ret
      exact ⟨rfl, hL2.out⟩
    · rw [if_neg c2]
      have hr1 : 1 ≤ a.rate := by omega
      have hn0 : 0 ≤ a.per - a.level + a.rate - 1 := by omega
      have hd0 : 0 ≤ (a.per - a.level + a.rate - 1) / a.rate := Int.ediv_nonneg (by omega) (by omega)
      have hd1 : (a.per - a.level + a.rate - 1) / a.rate ≤ a.per - a.level + a.rate - 1 := Int.ediv_le_self _ (by omega)
      by_cases c3 : 1099511627776 - a.now < (a.per - a.level + a.rate - 1) / a.rate
      all_goals
        first | rw [if_pos c3] | rw [if_neg c3]
        go_enter Try.func22, Try.ntmps22
        go_wp2_with fail
        refine (HA.out _).mono ?_
        rintro e w1 ⟨rfl, hb1⟩
        have hL := lo_trans (lo_alloc (lo_refl w) _) hb1
        clear hb1
        go_wp2_with fail
        refine (HH.out _).mono ?_
        rintro e w2 ⟨rfl, hb2⟩
        have hA := (Blk.new w1 26 #[.int .i64 a.burst, .int .i64 a.rate, .int .i64 a.per, .int .i64 a.level, .int .i64 a.now]).lo hb2
        obtain ⟨cA, fA⟩ := hA.facts
        have hL2 := Lib.hid (lo_trans (lo_alloc hL _) hb2)
        clear hL hb2 hA
        go_wp2_with fail
        go_ret
        exact ⟨by first | rfl | simp, hL2.out⟩
theorem wait_any (b : Bk) (tick : Int) (w : World) :
    Calls Try.prog 22 #[.agg #[.int .i64 b.burst, .int .i64 b.rate, .int .i64 b.per, .int .i64 b.level, .int .i64 b.now], .int .i64 tick] w (IntPost w (waitB b tick)) := by
  rcases err_cases (atB b tick) with ⟨h1, _⟩ | ⟨_, h1⟩
  · exact wait_good b tick w h1
  · have e : waitB b tick = -1 := if_pos (by rw [h1]; decide)
    rw [e]
    exact wait_bad b tick w h1
end Go.Proofs.Ytcgnoaaejaofiaa
