import Derived.Test.YtokedcdjclbliaaAwake
namespace Go.Proofs.Ytokedcdjclbliaa
open Go.RowKit

/-- A bucket that may be, at any later tick. -/
theorem at_later {b : Bk} (h : b.ok) {t : Int} (h1 : b.now ≤ t) (h2 : t ≤ 1099511627776) :
    atB b t = ⟨b.burst, b.rate, b.per, min (b.burst * b.per) (b.level + (t - b.now) * b.rate), t⟩ := by
  by_cases he : b.now < t
  · exact at_ok h he h2
  · obtain rfl : t = b.now := by omega
    rw [at_old (Int.le_refl _)]
    have := h.2.1.2
    obtain ⟨b0, b1, b2, b3, b4⟩ := b
    simp only [Bk.mk.injEq, true_and, and_true, Int.sub_self, Int.zero_mul, Int.add_zero]
    simp only at this
    omega
theorem gain_nonneg {b : Bk} (h : b.ok) {t : Int} (h1 : b.now ≤ t) : 0 ≤ (t - b.now) * b.rate := Int.mul_nonneg (by omega) h.1.2.1.1
theorem at_isok {b : Bk} (h : b.ok) {t : Int} (h1 : b.now ≤ t) (h2 : t ≤ 1099511627776) : (atB b t).ok := by
  rw [at_later h h1 h2]
  have hg := gain_nonneg h h1
  obtain ⟨⟨⟨q1, q2⟩, ⟨q3, q4⟩, ⟨q5, q6⟩⟩, ⟨q7, q8⟩, ⟨q9, q10⟩⟩ := h
  obtain ⟨p1, p2⟩ := prod_le q1 q2 q5 q6
  exact ⟨⟨⟨q1, q2⟩, ⟨q3, q4⟩, ⟨q5, q6⟩⟩, ⟨by simp only; omega, by simp only; omega⟩, ⟨by simp only; omega, h2⟩⟩
theorem per_le {b : Bk} (h : b.ok) : b.per ≤ b.burst * b.per := by
  have := Int.mul_le_mul_of_nonneg_right (a := 1) (b := b.burst) (c := b.per) h.1.1.1 (by have := h.1.2.2.1; omega)
  omega
theorem has_pos {b : Bk} (h : b.ok) : 0 < hasB b ↔ b.per ≤ b.level := by
  rw [has_ok h]
  have hp := h.1.2.2.1
  have := Int.le_ediv_iff_mul_le (a := 1) (b := b.level) (c := b.per) (by omega)
  omega
theorem has_nonneg {b : Bk} (h : b.ok) : 0 ≤ hasB b := by
  rw [has_ok h]
  exact Int.ediv_nonneg h.2.1.1 (by have := h.1.2.2.1; omega)
theorem take_snd {b : Bk} (h : b.ok) {t : Int} (h1 : b.now ≤ t) (h2 : t ≤ 1099511627776) : (takeB b t).2 = true ↔ 0 < hasB (atB b t) := by
  have := has_nonneg (at_isok h h1 h2)
  unfold takeB
  split
  · rename_i h0
    rw [h0]
    simp
  · simp
    omega
/-- A token at a later tick. -/
theorem token_at {b : Bk} (h : b.ok) {t : Int} (h1 : b.now ≤ t) (h2 : t ≤ 1099511627776) : 0 < hasB (atB b t) ↔ b.per ≤ b.level + (t - b.now) * b.rate := by
  rw [has_pos (at_isok h h1 h2), at_later h h1 h2]
  have := per_le h
  simp only
  omega
/-- What Wait tells, of ticks that are not too late. -/
theorem waits {b : Bk} (h : b.ok) (hn : b.now ≤ 1073741824) {g : Int} (hg : 0 ≤ g) (hg2 : g ≤ 65535) :
    (waitB b (b.now + g) < 0 → waitB b (b.now + g) = -1 ∧ hasB (atB b (b.now + g + 1000)) = 0 ∧ b.rate = 0) ∧
    (0 ≤ waitB b (b.now + g) → waitB b (b.now + g) ≤ 1000 ∧ (takeB b (b.now + g + waitB b (b.now + g))).2 = true ∧ (0 < waitB b (b.now + g) → hasB (atB b (b.now + g + waitB b (b.now + g) - 1)) = 0)) := by
  have hq := h
  obtain ⟨⟨⟨q1, q2⟩, ⟨q3, q4⟩, ⟨q5, q6⟩⟩, ⟨q7, q8⟩, ⟨q9, q10⟩⟩ := hq
  have hF := per_le h
  have hat := at_later h (t := b.now + g) (by omega) (by omega)
  have hok := at_isok h (t := b.now + g) (by omega) (by omega)
  rw [show b.now + g - b.now = g by omega] at hat
  have hX : 0 ≤ g * b.rate := Int.mul_nonneg hg q3
  have key : ∀ n, 0 ≤ n → n ≤ 2000 → (0 < hasB (atB b (b.now + g + n)) ↔ b.per ≤ b.level + (g * b.rate + n * b.rate)) := by
    intro n h0 h1
    rw [token_at h (by omega) (by omega), show b.now + g + n - b.now = g + n by omega, Int.add_mul]
  have hw : waitB b (b.now + g) = waitA (atB b (b.now + g)) := rfl
  have hnn : ∀ n, 0 ≤ n → n ≤ 2000 → 0 ≤ hasB (atB b (b.now + g + n)) := fun n h0 h1 => has_nonneg (at_isok h (by omega) (by omega))
  have htk : ∀ n, 0 ≤ n → n ≤ 2000 → ((takeB b (b.now + g + n)).2 = true ↔ 0 < hasB (atB b (b.now + g + n))) := fun n h0 h1 => take_snd h (by omega) (by omega)
  unfold waitA at hw
  rw [err_ok hok, hat] at hw
  simp only [ne_eq, not_true_eq_false, if_false] at hw
  generalize waitB b (b.now + g) = n at hw ⊢
  by_cases c1 : b.per ≤ min (b.burst * b.per) (b.level + g * b.rate)
  · rw [if_pos c1] at hw
    subst hw
    refine ⟨fun h => absurd h (by decide), fun _ => ⟨by decide, ?_, fun h => absurd h (by decide)⟩⟩
    rw [htk 0 (by omega) (by omega), key 0 (by omega) (by omega)]
    omega
  · rw [if_neg c1] at hw
    have hm : min (b.burst * b.per) (b.level + g * b.rate) = b.level + g * b.rate := by omega
    rw [hm] at hw c1
    by_cases c2 : b.rate = 0
    · rw [if_pos c2] at hw
      subst hw
      refine ⟨fun _ => ⟨rfl, ?_, c2⟩, fun h => absurd h (by decide)⟩
      have h1 := key 1000 (by omega) (by omega)
      have h2 := hnn 1000 (by omega) (by omega)
      rw [c2, Int.mul_zero, Int.mul_zero] at h1
      rw [c2, Int.mul_zero] at c1
      omega
    · rw [if_neg c2] at hw
      generalize hY : g * b.rate = Y at *
      have hd := Int.mul_ediv_add_emod (b.per - (b.level + Y) + b.rate - 1) b.rate
      have hm0 := Int.emod_nonneg (b.per - (b.level + Y) + b.rate - 1) c2
      have hm1 := Int.emod_lt_of_pos (b.per - (b.level + Y) + b.rate - 1) (show 0 < b.rate by omega)
      have hd0 : 0 ≤ (b.per - (b.level + Y) + b.rate - 1) / b.rate := Int.ediv_nonneg (by omega) (by omega)
      have hd1 : (b.per - (b.level + Y) + b.rate - 1) / b.rate ≤ (b.per - (b.level + Y) + b.rate - 1) := Int.ediv_le_self _ (by omega)
      generalize hq : (b.per - (b.level + Y) + b.rate - 1) / b.rate = q at *
      generalize hr : (b.per - (b.level + Y) + b.rate - 1) % b.rate = r at *
      rw [if_neg (by omega)] at hw
      subst hw
      have hcomm : b.rate * n = n * b.rate := Int.mul_comm _ _
      have hn1 : n ≤ 1000 := by
        rcases Int.lt_or_le n 1 with h0 | h0
        · omega
        · have := Int.mul_le_mul_of_nonneg_left (a := 1) (b := b.rate) (c := n - 1) (by omega) (by omega)
          rw [Int.sub_mul, Int.sub_mul] at this
          omega
      refine ⟨fun h => absurd h (by omega), fun _ => ⟨hn1, ?_, fun hp => ?_⟩⟩
      · rw [htk n hd0 (by omega), key n hd0 (by omega)]
        omega
      · have h1 := key (n - 1) (by omega) (by omega)
        have h2 := hnn (n - 1) (by omega) (by omega)
        rw [show b.now + g + (n - 1) = b.now + g + n - 1 by omega, Int.sub_mul, Int.one_mul] at h1
        rw [show b.now + g + (n - 1) = b.now + g + n - 1 by omega] at h2
        omega
end Go.Proofs.Ytokedcdjclbliaa
