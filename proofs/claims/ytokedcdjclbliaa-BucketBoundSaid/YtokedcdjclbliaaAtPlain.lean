import Derived.Test.YtokedcdjclbliaaPlain
namespace Go.Proofs.Ytokedcdjclbliaa
open Go.RowKit

theorem ats_plain {b : Bk} (h : b.ok) (hn : b.now ≤ 1073741824) {g1 g2 m Lv : Int} (hg1 : 0 ≤ g1) (hg1' : g1 ≤ 65535) (hg2 : 0 ≤ g2) (hg2' : g2 ≤ 65535) (hm : 0 ≤ m)
    (hLv : (if b.level + m < b.burst * b.per then b.level + m else b.burst * b.per) = Lv) :
    atB (atB b (b.now + g1)) (b.now + g1 + g2) = atB b (b.now + g1 + g2) ∧
    (atB b (b.now + g1 + g2)).level ≤ (atB ⟨b.burst, b.rate, b.per, Lv, b.now⟩ (b.now + g1 + g2)).level ∧
    hasB (atB b (b.now + g1 + g2)) ≤ hasB (atB ⟨b.burst, b.rate, b.per, Lv, b.now⟩ (b.now + g1 + g2)) ∧
    (atB b (b.now + g1 + g2)).now = b.now + g1 + g2 ∧ b.level ≤ (atB b (b.now + g1 + g2)).level := by
  have hq := h
  obtain ⟨⟨⟨q1, q2⟩, ⟨q3, q4⟩, ⟨q5, q6⟩⟩, ⟨q7, q8⟩, ⟨q9, q10⟩⟩ := hq
  have hL : b.level ≤ Lv ∧ Lv ≤ b.burst * b.per := by
    split at hLv <;> omega
  have hc : (⟨b.burst, b.rate, b.per, Lv, b.now⟩ : Bk).ok := ⟨⟨⟨q1, q2⟩, ⟨q3, q4⟩, ⟨q5, q6⟩⟩, ⟨by simp only; omega, by simp only; omega⟩, ⟨q9, q10⟩⟩
  have e1 := at_later h (t := b.now + g1) (by omega) (by omega)
  have e2 := at_later h (t := b.now + g1 + g2) (by omega) (by omega)
  have e3 := at_later hc (t := b.now + g1 + g2) (by simp only; omega) (by omega)
  have k1 := at_isok h (t := b.now + g1) (by omega) (by omega)
  have k2 := at_isok h (t := b.now + g1 + g2) (by omega) (by omega)
  have k3 := at_isok hc (t := b.now + g1 + g2) (by simp only; omega) (by omega)
  have hX : 0 ≤ g1 * b.rate := Int.mul_nonneg hg1 q3
  have hY : 0 ≤ g2 * b.rate := Int.mul_nonneg hg2 q3
  have hd : (b.now + g1 + g2 - b.now) * b.rate = g1 * b.rate + g2 * b.rate := by
    rw [show b.now + g1 + g2 - b.now = g1 + g2 by omega, Int.add_mul]
  have hd1 : (b.now + g1 - b.now) * b.rate = g1 * b.rate := by
    rw [show b.now + g1 - b.now = g1 by omega]
  have hd2 : (b.now + g1 + g2 - (b.now + g1)) * b.rate = g2 * b.rate := by
    rw [show b.now + g1 + g2 - (b.now + g1) = g2 by omega]
  have hlev : (atB b (b.now + g1 + g2)).level ≤ (atB ⟨b.burst, b.rate, b.per, Lv, b.now⟩ (b.now + g1 + g2)).level := by
    rw [e2, e3]
    simp only
    rw [hd]
    omega
  refine ⟨?_, hlev, ?_, ?_, ?_⟩
  · have e4 := at_later k1 (t := b.now + g1 + g2) (by rw [e1]; simp only; omega) (by omega)
    rw [e4, e2, e1]
    simp only [Bk.mk.injEq, true_and, and_true]
    rw [hd, hd1, hd2]
    omega
  · rw [has_ok k2, has_ok k3]
    have hp : (atB b (b.now + g1 + g2)).per = b.per := by rw [e2]
    have hp' : (atB ⟨b.burst, b.rate, b.per, Lv, b.now⟩ (b.now + g1 + g2)).per = b.per := by rw [e3]
    rw [hp, hp']
    exact Int.ediv_le_ediv (by omega) hlev
  · rw [e2]
  · rw [e2]
    simp only
    rw [hd]
    omega
end Go.Proofs.Ytokedcdjclbliaa
