import Derived.Test.YtcgnoaaejaofiaaRef
namespace Go.Proofs.Ytcgnoaaejaofiaa
open Go.RowKit
attribute [local go_sem ↓] Go.wp_at_zero Go.wp_at_succ

theorem at_ok_any {b : Bk} (h : b.ok) (t : Int) : (atB b t).ok := by
  by_cases h1 : t ≤ b.now
  · rw [at_old h1]; exact h
  · by_cases h2 : 1099511627776 < t
    · rw [at_far h2]; exact h
    · exact at_isok h (by omega) (by omega)
theorem wait_char {a : Bk} (h : a.ok) : (∃ c : Int, 0 ≤ c ∧ c ≤ 1000 ∧ (waitA a = if 1099511627776 - a.now < c then -1 else c) ∧ ∀ n, 0 ≤ n → a.now + n ≤ 1099511627776 → (0 < hasB (atB a (a.now + n)) ↔ c ≤ n)) ∨
    (waitA a = -1 ∧ ∀ n, 0 ≤ n → a.now + n ≤ 1099511627776 → ¬ 0 < hasB (atB a (a.now + n))) := by
  have hq := h
  obtain ⟨⟨⟨q1, q2⟩, ⟨q3, q4⟩, ⟨q5, q6⟩⟩, ⟨q7, q8⟩, ⟨q9, q10⟩⟩ := hq
  have key : ∀ n, 0 ≤ n → a.now + n ≤ 1099511627776 → (0 < hasB (atB a (a.now + n)) ↔ a.per ≤ a.level + n * a.rate) := by
    intro n h0 h1
    rw [token_at h (by omega) h1, show a.now + n - a.now = n by omega]
  unfold waitA
  rw [err_ok h]
  simp only [ne_eq, not_true_eq_false, if_false]
  by_cases c1 : a.per ≤ a.level
  · rw [if_pos c1]
    refine .inl ⟨0, by decide, by decide, by rw [if_neg (by omega)], fun n h0 h1 => ?_⟩
    rw [key n h0 h1]
    have := Int.mul_nonneg h0 q3
    constructor
    · intro _; exact h0
    · intro _; omega
  · rw [if_neg c1]
    by_cases c2 : a.rate = 0
    · rw [if_pos c2]
      refine .inr ⟨rfl, fun n h0 h1 => ?_⟩
      rw [key n h0 h1, c2, Int.mul_zero]
      omega
    · rw [if_neg c2]
      have hd := Int.mul_ediv_add_emod (a.per - a.level + a.rate - 1) a.rate
      have hm0 := Int.emod_nonneg (a.per - a.level + a.rate - 1) c2
      have hm1 := Int.emod_lt_of_pos (a.per - a.level + a.rate - 1) (show 0 < a.rate by omega)
      have hd0 : 0 ≤ (a.per - a.level + a.rate - 1) / a.rate := Int.ediv_nonneg (by omega) (by omega)
      generalize (a.per - a.level + a.rate - 1) / a.rate = c at *
      generalize (a.per - a.level + a.rate - 1) % a.rate = r at *
      have hcomm : a.rate * c = c * a.rate := Int.mul_comm _ _
      have hc1 : c ≤ 1000 := by
        rcases Int.lt_or_le c 1 with h0 | h0
        · omega
        · have := Int.mul_le_mul_of_nonneg_left (a := 1) (b := a.rate) (c := c - 1) (by omega) (by omega)
          rw [Int.sub_mul, Int.sub_mul] at this
          omega
      refine .inl ⟨c, hd0, hc1, rfl, fun n h0 h1 => ?_⟩
      rw [key n h0 h1]
      constructor
      · intro hk
        rcases Int.lt_or_le n c with h2 | h2
        · have := Int.mul_le_mul_of_nonneg_right (a := n) (b := c - 1) (c := a.rate) (by omega) q3
          rw [Int.sub_mul, Int.one_mul] at this
          omega
        · exact h2
      · intro hk
        have := Int.mul_le_mul_of_nonneg_right hk q3
        omega
/-- The walk's word of it: at a try that comes up. -/
def WaitInv (a : Bk) (R : Int) (k : Nat) : Prop :=
  (∃ c : Int, (k : Int) ≤ c ∧ c ≤ 1000 ∧ (R = if 1099511627776 - a.now < c then -1 else c) ∧ ∀ n, 0 ≤ n → a.now + n ≤ 1099511627776 → (0 < hasB (atB a (a.now + n)) ↔ c ≤ n)) ∨
    (R = -1 ∧ ∀ n, 0 ≤ n → a.now + n ≤ 1099511627776 → ¬ 0 < hasB (atB a (a.now + n)))
theorem winv_late {a : Bk} {R : Int} {k : Nat} (h : WaitInv a R k) (hl : 1099511627776 - (k : Int) < a.now) : R = -1 := by
  rcases h with ⟨c, h1, _, h3, _⟩ | ⟨h1, _⟩
  · rw [h3, if_pos (by omega)]
  · exact h1
theorem winv_yes {a : Bk} {R : Int} {k : Nat} (h : WaitInv a R k) (hl : a.now ≤ 1099511627776 - (k : Int)) (ht : 0 < hasB (atB a (a.now + (k : Int)))) : R = (k : Int) := by
  rcases h with ⟨c, h1, _, h3, h4⟩ | ⟨_, h2⟩
  · have := (h4 (k : Int) (by omega) (by omega)).1 ht
    rw [h3, if_neg (by omega)]
    omega
  · exact absurd ht (h2 _ (by omega) (by omega))
theorem winv_no {a : Bk} {R : Int} {k : Nat} (h : WaitInv a R k) (hl : a.now ≤ 1099511627776 - (k : Int)) (ht : ¬ 0 < hasB (atB a (a.now + (k : Int)))) : WaitInv a R (k + 1) := by
  rcases h with ⟨c, h1, h2, h3, h4⟩ | ⟨h1, h2⟩
  · refine .inl ⟨c, ?_, h2, h3, h4⟩
    have : ¬ c ≤ (k : Int) := fun hh => ht ((h4 (k : Int) (by omega) (by omega)).2 hh)
    omega
  · exact .inr ⟨h1, h2⟩
theorem winv_end {a : Bk} {R : Int} (h : WaitInv a R 1001) : R = -1 := by
  rcases h with ⟨c, h1, h2, _, _⟩ | ⟨h1, _⟩
  · exact absurd h1 (by omega)
  · exact h1
set_option maxHeartbeats 3200000 in
theorem wait_ref (b : Bk) (tick : Int) (w : World) :
    Calls Try.prog 31 #[.agg #[.int .i64 b.burst, .int .i64 b.rate, .int .i64 b.per, .int .i64 b.level, .int .i64 b.now], .int .i64 tick] w (IntPost w (waitB b tick)) := by
  have hC := check_ref b
  rcases err_cases b with ⟨hok, he⟩ | ⟨hok, he⟩
  · rw [he] at hC
    have HC := Lib.hid hC
    have HA := Lib.hid (at_ref b tick)
    have haok := at_ok_any hok tick
    have hinv : WaitInv (atB b tick) (waitB b tick) 0 := by
      unfold waitB
      rcases wait_char haok with ⟨c, h1, h2, h3, h4⟩ | h
      · exact .inl ⟨c, h1, h2, h3, h4⟩
      · exact .inr h
    generalize waitB b tick = R at hinv ⊢
    generalize atB b tick = a at hinv HA haok
    obtain ⟨_, _, ⟨p1, p2⟩⟩ := haok
    have HI := Lib.hid hinv
    clear hC he hok hinv
    have hB0 := Blk.new w 25 #[.int .i64 b.burst, .int .i64 b.rate, .int .i64 b.per, .int .i64 b.level, .int .i64 b.now]
    have hL0 := lo_alloc (lo_refl w) (.cells #[.int .i64 b.burst, .int .i64 b.rate, .int .i64 b.per, .int .i64 b.level, .int .i64 b.now] 25)
    go_enter Try.func31, Try.ntmps31
    go_wp2_with fail
    refine (HC.out _).mono ?_
    rintro e w1 ⟨rfl, hb⟩
    have hB := hB0.lo hb
    have hL := lo_trans hL0 hb
    clear hb
    obtain ⟨cB, fB⟩ := hB.facts
    go_wp2_with fail
    refine (HA.out _).mono ?_
    rintro e w2 ⟨rfl, hb⟩
    have hB := put5 (hB.lo hb) (.int .i64 a.burst) (.int .i64 a.rate) (.int .i64 a.per) (.int .i64 a.level) (.int .i64 a.now)
    have hL := lo5 (lo_trans hL hb) (Nat.le_refl _) (.int .i64 a.burst) (.int .i64 a.rate) (.int .i64 a.per) (.int .i64 a.level) (.int .i64 a.now)
    have hB1 := (‹Blk w1 _ _ _›).lo hb
    clear hb cB fB
    obtain ⟨cB, fB⟩ := hB1.facts
    have lB := hB1.lt
    go_wp2_with fail
    clear cB fB lB hB1
    go_loopw [5] (fun y wr => ∃ k : Nat, k ≤ 1001 ∧ y = .int .i64 k ∧ Hid (WaitInv a R k) ∧ Blk wr w.heap.size 25 #[.int .i64 a.burst, .int .i64 a.rate, .int .i64 a.per, .int .i64 a.level, .int .i64 a.now] ∧ Below w.heap.size w wr) (fun y _ => 1001 - (intOf y).toNat)
    case atStart => exact ⟨0, by omega, rfl, HI, hB, hL⟩
    case round =>
      clear hB hL HI hB0 hL0
      obtain ⟨k, hk, rfl, HI, hB, hL⟩ := hrel
      by_cases hk1 : k = 1001
      · subst hk1
        have hR := winv_end HI.out
        subst hR
        go_wp2_with fail
        go_ret
        exact ⟨rfl, hL⟩
      · have hk2 : (k : Int) ≤ 1000 := by omega
        obtain ⟨cB, fB⟩ := hB.facts
        by_cases hl : 1099511627776 - (k : Int) < a.now
        · have hR := winv_late HI.out hl
          subst hR
          go_wp2_with fail
          go_ret
          exact ⟨rfl, hL⟩
        · have hl' : a.now ≤ 1099511627776 - (k : Int) := by omega
          have HT := Lib.hid (at_ref a (a.now + (k : Int)))
          have HH := Lib.hid (has_ref (atB a (a.now + (k : Int))))
          have hyes := winv_yes HI.out hl'
          have hno := winv_no HI.out hl'
          generalize atB a (a.now + (k : Int)) = a2 at HT HH hyes hno
          generalize hasB a2 = n at HH hyes hno
          have HY := Lib.hid hyes
          have HN := Lib.hid hno
          clear hyes hno
          go_wp2_with fail
          refine (HT.out _).mono ?_
          rintro e w3 ⟨rfl, hb⟩
          have hB := hB.lo hb
          have hL := lo_trans hL hb
          clear hb cB fB
          go_wp2_with fail
          refine (HH.out _).mono ?_
          rintro e w4 ⟨rfl, hb⟩
          have hB := hB.lo hb
          have hL := lo_trans hL hb
          clear hb
          by_cases hn : 0 < n
          · have hR := HY.out hn
            subst hR
            go_wp2_with fail
            go_ret
            exact ⟨rfl, hL⟩
          · have HI2 := Lib.hid (HN.out (by omega))
            go_wp2_with fail
            go_roundw
            case rel => exact ⟨k + 1, by omega, by go_num, HI2, hB, hL⟩
            case measure => simp [intOf]; omega
  · rw [he] at hC
    have HC := Lib.hid hC
    have e : waitB b tick = -1 := by
      unfold waitB
      rw [at_bad hok]
      exact if_pos (by rw [he]; decide)
    rw [e]
    clear hC he hok e
    have hL0 := lo_alloc (lo_refl w) (.cells #[.int .i64 b.burst, .int .i64 b.rate, .int .i64 b.per, .int .i64 b.level, .int .i64 b.now] 25)
    go_enter Try.func31, Try.ntmps31
    go_wp2_with fail
    refine (HC.out _).mono ?_
    rintro e w1 ⟨rfl, hb⟩
    have hL := lo_trans hL0 hb
    clear hb
    go_wp2_with fail
    go_ret
    exact ⟨rfl, hL⟩
end Go.Proofs.Ytcgnoaaejaofiaa
