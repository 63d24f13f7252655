import Derived.Test.YtcgnoaaejaofiaaDec
namespace Go.Proofs.Ytcgnoaaejaofiaa
open Go.RowKit
attribute [local go_sem ↓] Go.wp_at_zero Go.wp_at_succ

set_option maxHeartbeats 1600000 in
/-- Nothing turns. -/
theorem at_same_ref (b : Bk) (tick : Int) (w : World) (h : b.err ≠ 0 ∨ tick ≤ b.now ∨ 1099511627776 < tick) :
    Calls Try.prog 28 #[.agg #[.int .i64 b.burst, .int .i64 b.rate, .int .i64 b.per, .int .i64 b.level, .int .i64 b.now], .int .i64 tick] w (BkPost w b) := by
  have HC := Lib.hid (check_ref b)
  have hne : (b.err != 0) = true ∨ (b.err != 0) = false := by cases b.err != 0 <;> simp
  have h3 : (b.err != 0) = true ∨ ((b.err != 0) = false ∧ tick ≤ b.now) ∨ ((b.err != 0) = false ∧ b.now < tick ∧ 1099511627776 < tick) := by
    rcases hne with h1 | h1
    · exact .inl h1
    · have : b.err = 0 := by simpa using h1
      by_cases h2 : tick ≤ b.now
      · exact .inr (.inl ⟨h1, h2⟩)
      · exact .inr (.inr ⟨h1, by omega, by omega⟩)
  clear h hne
  rcases h3 with h1 | ⟨h1, h2⟩ | ⟨h1, h2, h3⟩
  all_goals
    go_enter Try.func28, Try.ntmps28
    go_wp2_with fail
    refine (HC.out _).mono ?_
    rintro e w1 ⟨rfl, hb1⟩
    have hA := ((Blk.new w 25 #[.int .i64 b.burst, .int .i64 b.rate, .int .i64 b.per, .int .i64 b.level, .int .i64 b.now]).alloc (.cells #[.int .i64 0, .int .i64 0, .int .i64 0, .int .i64 0, .int .i64 0] 25)).lo hb1
    have hB := (Blk.new (w.alloc (.cells #[.int .i64 b.burst, .int .i64 b.rate, .int .i64 b.per, .int .i64 b.level, .int .i64 b.now] 25)) 25 #[.int .i64 0, .int .i64 0, .int .i64 0, .int .i64 0, .int .i64 0]).lo hb1
    simp only [World.size_alloc] at hB
    have hL := lo_trans (lo_alloc (lo_alloc (lo_refl w) _) _) hb1
    clear hb1
    obtain ⟨cB, fB⟩ := hB.facts
    obtain ⟨cA, fA⟩ := hA.facts
    have hL2 := Lib.hid hL
    clear hL hA hB
    go_wp2_with fail
    refine bodyPost_ret (v := .agg #[.int .i64 b.burst, .int .i64 b.rate, .int .i64 b.per, .int .i64 b.level, .int .i64 b.now]) (by simp [results, Try.results28, go_sem, cB]) rfl ⟨rfl, ?_⟩
    have hl := hL2.out
    repeat' (first | with_reducible exact hl | with_reducible apply lo_set | simp)

set_option maxHeartbeats 3200000 in
theorem at_goes_ref (b : Bk) (tick : Int) (w : World) (hok : b.ok) (h1 : b.now < tick) (h2 : tick ≤ 1099511627776) :
    Calls Try.prog 28 #[.agg #[.int .i64 b.burst, .int .i64 b.rate, .int .i64 b.per, .int .i64 b.level, .int .i64 b.now], .int .i64 tick] w (BkPost w ⟨b.burst, b.rate, b.per, min (b.burst * b.per) (b.level + (tick - b.now) * b.rate), tick⟩) := by
  have hC := check_ref b
  have he : b.err = 0 := if_pos hok
  rw [he] at hC
  have HC := Lib.hid hC
  clear hC he
  obtain ⟨⟨⟨q1, q2⟩, ⟨q3, q4⟩, ⟨q5, q6⟩⟩, ⟨q7, q8⟩, ⟨q9, q10⟩⟩ := hok
  obtain ⟨p1, p2⟩ := prod_le q1 q2 q5 q6
  have hA0 := (Blk.new w 25 #[.int .i64 b.burst, .int .i64 b.rate, .int .i64 b.per, .int .i64 b.level, .int .i64 b.now]).alloc (.cells #[.int .i64 0, .int .i64 0, .int .i64 0, .int .i64 0, .int .i64 0] 25)
  have hB0 := Blk.new (w.alloc (.cells #[.int .i64 b.burst, .int .i64 b.rate, .int .i64 b.per, .int .i64 b.level, .int .i64 b.now] 25)) 25 #[.int .i64 0, .int .i64 0, .int .i64 0, .int .i64 0, .int .i64 0]
  simp only [World.size_alloc] at hB0
  have hL0 := lo_alloc (lo_alloc (lo_refl w) (.cells #[.int .i64 b.burst, .int .i64 b.rate, .int .i64 b.per, .int .i64 b.level, .int .i64 b.now] 25)) (.cells #[.int .i64 0, .int .i64 0, .int .i64 0, .int .i64 0, .int .i64 0] 25)
  have HA0 := Lib.hid hA0
  have HB0 := Lib.hid hB0
  have HL0 := Lib.hid hL0
  clear hA0 hB0 hL0
  rw [show (tick - b.now) * b.rate = b.rate * (tick - b.now) from Int.mul_comm _ _]
  have hx0 : 0 ≤ b.rate * (tick - b.now) := Int.mul_nonneg q3 (by omega)
  have hx1 : b.rate * (tick - b.now) ≤ 1000 * 1099511627776 := Int.mul_le_mul q4 (by omega) (by omega) (by omega)
  have hw1 : IntKind.i64.wrap (b.rate * (tick - b.now)) = b.rate * (tick - b.now) := IntWalk.i64_in _ (by omega)
  have hw2 : IntKind.i64.wrap (b.level + b.rate * (tick - b.now)) = b.level + b.rate * (tick - b.now) := IntWalk.i64_in _ (by omega)
  by_cases hm : b.level + b.rate * (tick - b.now) < b.burst * b.per
  all_goals
    go_enter Try.func28, Try.ntmps28
    go_wp2_with fail
    refine (HC.out _).mono ?_
    rintro e w1 ⟨rfl, hb1⟩
    have hA := HA0.out.lo hb1
    have hB := HB0.out.lo hb1
    have hL := lo_trans HL0.out hb1
    clear hb1
    obtain ⟨cA, fA⟩ := hA.facts
    obtain ⟨cB, fB⟩ := hB.facts
    have hlt := hA.lt
    have hL2 := Lib.hid hL
    clear hL hA hB
    go_wp2_with fail
    refine bodyPost_ret (v := .agg #[.int .i64 b.burst, .int .i64 b.rate, .int .i64 b.per, .int .i64 (min (b.burst * b.per) (b.level + b.rate * (tick - b.now))), .int .i64 tick]) (by simp [results, Try.results28, go_sem, cB]; omega) rfl ⟨rfl, ?_⟩
    have hl := hL2.out
    repeat' (first | with_reducible exact hl | with_reducible apply lo_set | simp)
theorem at_ref (b : Bk) (tick : Int) (w : World) : Calls Try.prog 28 #[.agg #[.int .i64 b.burst, .int .i64 b.rate, .int .i64 b.per, .int .i64 b.level, .int .i64 b.now], .int .i64 tick] w (BkPost w (atB b tick)) := by
  by_cases h : b.err = 0 ∧ b.now < tick ∧ tick ≤ 1099511627776
  · have hok : b.ok := by
      rcases err_cases b with ⟨h1, _⟩ | ⟨_, h1⟩
      · exact h1
      · exact absurd h.1 (by rw [h1]; decide)
    have e : atB b tick = ⟨b.burst, b.rate, b.per, min (b.burst * b.per) (b.level + (tick - b.now) * b.rate), tick⟩ := if_pos h
    rw [e]
    exact at_goes_ref b tick w hok h.2.1 h.2.2
  · have e : atB b tick = b := if_neg h
    rw [e]
    refine at_same_ref b tick w ?_
    by_cases h1 : b.err = 0
    · by_cases h2 : tick ≤ b.now
      · exact .inr (.inl h2)
      · exact .inr (.inr (by have := fun h3 => h ⟨h1, by omega, h3⟩; omega))
    · exact .inl h1
set_option maxHeartbeats 1600000 in
theorem has_ref (b : Bk) (w : World) :
    Calls Try.prog 29 #[.agg #[.int .i64 b.burst, .int .i64 b.rate, .int .i64 b.per, .int .i64 b.level, .int .i64 b.now]] w (IntPost w (hasB b)) := by
  have hC := check_ref b
  rcases err_cases b with ⟨hok, he⟩ | ⟨hok, he⟩
  · have e : hasB b = b.level / b.per := if_pos he
    rw [e]
    rw [he] at hC
    have HC := Lib.hid hC
    have q1 := hok.1.2.2.1
    have q2 := hok.2.1.1
    have q3 := (prod_le hok.1.1.1 hok.1.1.2 hok.1.2.2.1 hok.1.2.2.2).2
    have q4 := hok.2.1.2
    have hq0 : 0 ≤ b.level / b.per := Int.ediv_nonneg q2 (by omega)
    have hq1 : b.level / b.per ≤ b.level := Int.ediv_le_self _ q2
    have q5 : b.level ≤ 1000000 := by omega
    clear q3 q4
    clear hC he hok e
    go_enter Try.func29, Try.ntmps29
    go_wp2_with fail
    refine (HC.out _).mono ?_
    rintro e w1 ⟨rfl, hb1⟩
    have hA := (Blk.new w 25 #[.int .i64 b.burst, .int .i64 b.rate, .int .i64 b.per, .int .i64 b.level, .int .i64 b.now]).lo hb1
    have hL := Lib.hid (lo_trans (lo_alloc (lo_refl w) _) hb1)
    obtain ⟨cA, fA⟩ := hA.facts
    clear hA hb1
    go_wp2_with fail
    go_ret
    exact ⟨by simp, hL.out⟩
  · have e : hasB b = 0 := if_neg (by rw [he]; decide)
    rw [e]
    rw [he] at hC
    have HC := Lib.hid hC
    clear hC he hok e
    go_enter Try.func29, Try.ntmps29
    go_wp2_with fail
    refine (HC.out _).mono ?_
    rintro e w1 ⟨rfl, hb1⟩
    have hL := Lib.hid (lo_trans (lo_alloc (lo_refl w) _) hb1)
    clear hb1
    go_wp2_with fail
    go_ret
    exact ⟨rfl, hL.out⟩
set_option maxHeartbeats 1600000 in
theorem take_ref (b : Bk) (tick : Int) (w : World) :
    Calls Try.prog 23 #[.agg #[.int .i64 b.burst, .int .i64 b.rate, .int .i64 b.per, .int .i64 b.level, .int .i64 b.now], .int .i64 tick] w (TakePost w (takeB b tick)) := by
  have HA := Lib.hid (at_ref b tick)
  unfold takeB
  generalize atB b tick = a at HA ⊢
  have HH := Lib.hid (has_ref a)
  have hA0 := (Blk.new w 25 #[.int .i64 b.burst, .int .i64 b.rate, .int .i64 b.per, .int .i64 b.level, .int .i64 b.now]).alloc (.cells #[.int .i64 0, .int .i64 0, .int .i64 0, .int .i64 0, .int .i64 0] 25)
  have hB0 := Blk.new (w.alloc (.cells #[.int .i64 b.burst, .int .i64 b.rate, .int .i64 b.per, .int .i64 b.level, .int .i64 b.now] 25)) 25 #[.int .i64 0, .int .i64 0, .int .i64 0, .int .i64 0, .int .i64 0]
  simp only [World.size_alloc] at hB0
  have hL0 := lo_alloc (lo_alloc (lo_refl w) (.cells #[.int .i64 b.burst, .int .i64 b.rate, .int .i64 b.per, .int .i64 b.level, .int .i64 b.now] 25)) (.cells #[.int .i64 0, .int .i64 0, .int .i64 0, .int .i64 0, .int .i64 0] 25)
  have HA0 := Lib.hid hA0
  have HB0 := Lib.hid hB0
  have HL0 := Lib.hid hL0
  clear hA0 hB0 hL0
  by_cases hz : hasB a = 0
  · rw [if_pos hz]
    rw [hz] at HH
    clear hz
    go_enter Try.func23, Try.ntmps23
    go_wp2_with fail
    refine (HA.out _).mono ?_
    rintro e w1 ⟨rfl, hb1⟩
    have hA := HA0.out.lo hb1
    have hB := HB0.out.lo hb1
    have hL := lo_trans HL0.out hb1
    have hlt := hA.lt
    obtain ⟨cA, fA⟩ := hA.facts
    clear hb1
    go_wp2_with fail
    refine (HH.out _).mono ?_
    rintro e w2 ⟨rfl, hb2⟩
    have hA2 := (put5 hA (.int .i64 a.burst) (.int .i64 a.rate) (.int .i64 a.per) (.int .i64 a.level) (.int .i64 a.now)).lo hb2
    have hB2 := (far5 hB (show w.heap.size + 1 ≠ w.heap.size by omega) (.int .i64 a.burst) (.int .i64 a.rate) (.int .i64 a.per) (.int .i64 a.level) (.int .i64 a.now)).lo hb2
    have hL2 := Lib.hid (lo_trans (lo5 hL (Nat.le_refl _) (.int .i64 a.burst) (.int .i64 a.rate) (.int .i64 a.per) (.int .i64 a.level) (.int .i64 a.now)) hb2)
    clear cA fA hb2 hA hB hL
    obtain ⟨cA, fA⟩ := hA2.facts
    obtain ⟨cB, fB⟩ := hB2.facts
    clear hA2 hB2
    go_wp2_with fail
    refine bodyPost_ret (v := .tuple #[.agg #[.int .i64 a.burst, .int .i64 a.rate, .int .i64 a.per, .int .i64 a.level, .int .i64 a.now], .bool false]) (by simp [results, Try.results23, go_sem, cB]) rfl ⟨rfl, ?_⟩
    have hl := hL2.out
    repeat' (first | with_reducible exact hl | with_reducible apply lo_set | simp)
  · rw [if_neg hz]
    have hok := ok_of_has hz
    have hz2 : ¬ hasB a < 1 := by have := has_some a; omega
    have q1 := hok.2.1.1
    have q2 := hok.2.1.2
    have q3 := (prod_le hok.1.1.1 hok.1.1.2 hok.1.2.2.1 hok.1.2.2.2).2
    have q4 := hok.1.2.2.1
    have q5 := hok.1.2.2.2
    have q6 : a.level ≤ 1000000 := by omega
    clear hz hok q2 q3
    go_enter Try.func23, Try.ntmps23
    go_wp2_with fail
    refine (HA.out _).mono ?_
    rintro e w1 ⟨rfl, hb1⟩
    have hA := HA0.out.lo hb1
    have hB := HB0.out.lo hb1
    have hL := lo_trans HL0.out hb1
    have hlt := hA.lt
    obtain ⟨cA, fA⟩ := hA.facts
    clear hb1
    go_wp2_with fail
    refine (HH.out _).mono ?_
    rintro e w2 ⟨rfl, hb2⟩
    have hA2 := (put5 hA (.int .i64 a.burst) (.int .i64 a.rate) (.int .i64 a.per) (.int .i64 a.level) (.int .i64 a.now)).lo hb2
    have hB2 := (far5 hB (show w.heap.size + 1 ≠ w.heap.size by omega) (.int .i64 a.burst) (.int .i64 a.rate) (.int .i64 a.per) (.int .i64 a.level) (.int .i64 a.now)).lo hb2
    have hL2 := Lib.hid (lo_trans (lo5 hL (Nat.le_refl _) (.int .i64 a.burst) (.int .i64 a.rate) (.int .i64 a.per) (.int .i64 a.level) (.int .i64 a.now)) hb2)
    clear cA fA hb2 hA hB hL
    obtain ⟨cA, fA⟩ := hA2.facts
    obtain ⟨cB, fB⟩ := hB2.facts
    clear hA2 hB2
    go_wp2_with fail
    refine bodyPost_ret (v := .tuple #[.agg #[.int .i64 a.burst, .int .i64 a.rate, .int .i64 a.per, .int .i64 (a.level - a.per), .int .i64 a.now], .bool true]) (by simp [results, Try.results23, go_sem, cB]) rfl ⟨rfl, ?_⟩
    have hl := hL2.out
    repeat' (first | with_reducible exact hl | with_reducible apply lo_set | simp)
end Go.Proofs.Ytcgnoaaejaofiaa
