import Derived.Test.YtokedcdjclbliaaAtPlain
namespace Go.Proofs.Ytokedcdjclbliaa
open Go.RowKit

/-- What stays so while tokens are taken at ticks. -/
structure Inv (b c : Bk) (xs : List Int) : Prop where
  ok : c.ok
  burst : c.burst = b.burst
  rate : c.rate = b.rate
  per : c.per = b.per
  now : b.now ≤ c.now
  low : ∀ (i : Nat) (x : Int), xs[i]? = some x → b.now ≤ x ∧ x ≤ c.now ∧ c.level + ((xs.length : Int) - (i : Int)) * b.per ≤ b.burst * b.per + b.rate * (c.now - x)
  pair : ∀ (i k : Nat) (x y : Int), i ≤ k → xs[i]? = some x → xs[k]? = some y → x ≤ y ∧ ((k : Int) - (i : Int) + 1) * b.per ≤ b.burst * b.per + b.rate * (y - x)

theorem inv_start {b : Bk} (h : b.ok) : Inv b b [] := by
  constructor
  · exact h
  · rfl
  · rfl
  · rfl
  · exact Int.le_refl _
  · intro i x hx; simp at hx
  · intro i k x y _ hx; simp at hx

theorem inv_later {b c : Bk} {xs : List Int} (h : Inv b c xs) {t : Int} (h1 : c.now ≤ t) (h2 : t ≤ 1099511627776) : Inv b (atB c t) xs ∧ (atB c t).now = t := by
  have e := at_later h.ok h1 h2
  have hk := at_isok h.ok h1 h2
  refine ⟨⟨hk, ?_, ?_, ?_, ?_, ?_, h.pair⟩, ?_⟩
  · rw [e]; exact h.burst
  · rw [e]; exact h.rate
  · rw [e]; exact h.per
  · rw [e]; have := h.now; simp only; omega
  · intro i x hx
    obtain ⟨l1, l2, l3⟩ := h.low i x hx
    rw [e]
    simp only
    refine ⟨l1, by omega, ?_⟩
    rw [h.rate, h.burst, h.per]
    have hd : b.rate * (t - x) = b.rate * (c.now - x) + (t - c.now) * b.rate := by
      rw [Int.mul_comm (t - c.now), ← Int.mul_add]
      congr 1
      omega
    omega
  · rw [e]

theorem inv_take {b c : Bk} {xs : List Int} (h : Inv b c xs) {t : Int} (h1 : c.now ≤ t) (h2 : t ≤ 1099511627776) :
    (takeB c t).1.now = t ∧ (((takeB c t).2 = true ∧ Inv b (takeB c t).1 (xs ++ [t])) ∨ ((takeB c t).2 = false ∧ Inv b (takeB c t).1 xs)) := by
  obtain ⟨hi, hn⟩ := inv_later h h1 h2
  unfold takeB
  generalize atB c t = a at hi hn
  split
  · exact ⟨hn, Or.inr ⟨rfl, hi⟩⟩
  · rename_i hz
    have hpos : 0 < hasB a := by have := has_nonneg hi.ok; omega
    have hlev := (has_pos hi.ok).1 hpos
    have hk := hi.ok
    obtain ⟨⟨⟨q1, q2⟩, ⟨q3, q4⟩, ⟨q5, q6⟩⟩, ⟨q7, q8⟩, ⟨q9, q10⟩⟩ := hk
    have hper := hi.per
    refine ⟨hn, Or.inl ⟨rfl, ⟨?_, hi.burst, hi.rate, hi.per, hi.now, ?_, ?_⟩⟩⟩
    · exact ⟨⟨⟨q1, q2⟩, ⟨q3, q4⟩, ⟨q5, q6⟩⟩, ⟨by simp only; omega, by simp only; omega⟩, ⟨q9, q10⟩⟩
    · intro i x hx
      simp only
      rw [List.length_append, List.length_singleton]
      rcases Nat.lt_trichotomy i xs.length with hl | hl | hl
      · rw [List.getElem?_append_left hl] at hx
        obtain ⟨l1, l2, l3⟩ := hi.low i x hx
        refine ⟨l1, l2, ?_⟩
        have : (((xs.length + 1 : Nat) : Int) - (i : Int)) * b.per = ((xs.length : Int) - (i : Int)) * b.per + b.per := by
          rw [show ((xs.length + 1 : Nat) : Int) - (i : Int) = ((xs.length : Int) - (i : Int)) + 1 by omega, Int.add_mul, Int.one_mul]
        rw [this, hper]
        omega
      · subst hl
        simp at hx
        subst hx
        have hb := hi.now
        refine ⟨by omega, by omega, ?_⟩
        rw [hn, Int.sub_self, Int.mul_zero, show ((xs.length + 1 : Nat) : Int) - (xs.length : Int) = 1 by omega, Int.one_mul]
        have := hi.burst
        rw [hper] at q8 ⊢
        rw [this] at q8
        omega
      · rw [List.getElem?_eq_none (by simp; omega)] at hx
        cases hx
    · intro i k x y hik hx hy
      rcases Nat.lt_trichotomy k xs.length with hl | hl | hl
      · rw [List.getElem?_append_left hl] at hy
        rw [List.getElem?_append_left (by omega)] at hx
        exact hi.pair i k x y hik hx hy
      · subst hl
        simp at hy
        subst hy
        rcases Nat.lt_or_ge i xs.length with hl2 | hl2
        · rw [List.getElem?_append_left hl2] at hx
          obtain ⟨l1, l2, l3⟩ := hi.low i x hx
          rw [hn] at l2 l3
          refine ⟨l2, ?_⟩
          have : ((xs.length : Int) - (i : Int) + 1) * b.per = ((xs.length : Int) - (i : Int)) * b.per + b.per := by
            rw [Int.add_mul, Int.one_mul]
          rw [this]
          omega
        · obtain rfl : i = xs.length := by omega
          simp at hx
          subst hx
          refine ⟨Int.le_refl _, ?_⟩
          simp only [Int.sub_self, Int.mul_zero, Int.zero_add, Int.one_mul]
          have := hi.burst
          rw [hper, this] at q8
          omega
      · rw [List.getElem?_eq_none (by simp; omega)] at hy
        cases hy
/-- The products of the law's test are small. -/
theorem small_prod {a b A B : Int} (h1 : 0 ≤ a) (h2 : a ≤ A) (h3 : 0 ≤ b) (h4 : b ≤ B) : 0 ≤ a * b ∧ a * b ≤ A * B :=
  ⟨Int.mul_nonneg h1 h3, Int.mul_le_mul h2 h4 h3 (by omega)⟩
end Go.Proofs.Ytokedcdjclbliaa
