import Derived.Test.YtbjfdmgfmdccgaaAwake
namespace Go.Proofs.Ytbjfdmgfmdccgaa
open Go.RowKit

theorem low_look {s : St} (h : s.ok) (hl : s.limit < s.most) : seeS s (s.low - 1) = if s.calm + 1 < s.quiet then (⟨s.limit, s.least, s.most, s.low, s.high, s.quiet, s.calm + 1⟩, false) else (⟨s.limit + 1, s.least, s.most, s.low, s.high, s.quiet, 0⟩, true) := by
  have hq := h
  obtain ⟨⟨q1, q2, q3, q4⟩, ⟨q5, q6, q7⟩, ⟨q8, q9⟩, q10, q11⟩ := hq
  unfold seeS
  rw [if_pos h, if_neg (by omega), if_neg (by omega)]
  by_cases hc : s.calm + 1 < s.quiet
  · rw [if_pos hc, if_pos hc]
  · rw [if_neg hc, if_neg hc, show min (s.limit + 1) s.most = s.limit + 1 by omega, decide_eq_true (by omega)]
theorem lows : ∀ (n : Nat) (s : St) (c : Int), s.ok → (s.limit - s.least) * s.quiet + s.calm + (n : Int) = (s.most - s.least) * s.quiet →
    runS (List.replicate n (s.low - 1)) s c = (⟨s.most, s.least, s.most, s.low, s.high, s.quiet, 0⟩, c + (s.most - s.limit))
  | 0, s, c, h, hp => by
    obtain ⟨⟨q1, q2, q3, q4⟩, ⟨q5, q6, q7⟩, ⟨q8, q9⟩, q10, q11⟩ := h
    have e : (s.most - s.limit) * s.quiet = s.calm := by
      have h1 : (s.most - s.limit) * s.quiet = (s.most - s.least) * s.quiet - (s.limit - s.least) * s.quiet := by rw [← Int.sub_mul]; congr 1; omega
      omega
    have hl : s.limit = s.most := by
      rcases Int.lt_or_le s.limit s.most with hlt | hge
      · have := Int.mul_le_mul_of_nonneg_right (a := 1) (b := s.most - s.limit) (c := s.quiet) (by omega) (by omega)
        omega
      · omega
    rw [hl, Int.sub_self, Int.zero_mul] at e
    obtain ⟨limit, least, most, low, high, quiet, calm⟩ := s
    simp only at hl e
    subst hl e
    show (_, _) = (_, _)
    simp
  | n + 1, s, c, h, hp => by
    have hq := h
    obtain ⟨⟨q1, q2, q3, q4⟩, ⟨q5, q6, q7⟩, ⟨q8, q9⟩, q10, q11⟩ := hq
    have hl : s.limit < s.most := by
      rcases Int.lt_or_le s.limit s.most with hlt | hge
      · exact hlt
      · have : s.limit = s.most := by omega
        rw [this] at hp
        omega
    rw [List.replicate_succ]
    show runS _ (seeS s (s.low - 1)).1 (if (seeS s (s.low - 1)).2 then c + 1 else c) = _
    rw [low_look h hl]
    by_cases hc : s.calm + 1 < s.quiet
    · rw [if_pos hc]
      have := lows n ⟨s.limit, s.least, s.most, s.low, s.high, s.quiet, s.calm + 1⟩ c (by unfold St.ok; simp only; omega) (by simp only; omega)
      exact this
    · rw [if_neg hc]
      have hm : (s.limit + 1 - s.least) * s.quiet = (s.limit - s.least) * s.quiet + s.quiet := by
        rw [show s.limit + 1 - s.least = (s.limit - s.least) + 1 by omega, Int.add_mul, Int.one_mul]
      have := lows n ⟨s.limit + 1, s.least, s.most, s.low, s.high, s.quiet, 0⟩ (c + 1) (by unfold St.ok; simp only; omega) (by simp only; omega)
      simp only [if_true]
      rw [this]
      simp only [Prod.mk.injEq, true_and]
      omega
theorem high_look {s : St} (h : s.ok) : (seeS s (s.high + 1)).1 = ⟨max (s.limit / 2) s.least, s.least, s.most, s.low, s.high, s.quiet, 0⟩ := by
  unfold seeS
  rw [if_pos h, if_pos (by omega)]
theorem high_ok {s : St} (h : s.ok) : (⟨max (s.limit / 2) s.least, s.least, s.most, s.low, s.high, s.quiet, 0⟩ : St).ok := by
  unfold St.ok at h ⊢
  simp only
  omega
/-- Five looks of too much. -/
theorem five {s : St} (h : s.ok) : (runS [s.high + 1, s.high + 1, s.high + 1, s.high + 1, s.high + 1] s 0).1 = ⟨s.least, s.least, s.most, s.low, s.high, s.quiet, 0⟩ := by
  have go : ∀ (n : Int) (l : List Int) (t : St) (c : Int), ∃ c', runS (n :: l) t c = runS l (seeS t n).1 c' := fun n l t c => ⟨_, rfl⟩
  have o1 := high_ok h
  have o2 := high_ok o1
  have o3 := high_ok o2
  have o4 := high_ok o3
  have o5 := high_ok o4
  have l1 := high_look h
  have l2 := high_look o1
  have l3 := high_look o2
  have l4 := high_look o3
  have l5 := high_look o4
  simp only at l2 l3 l4 l5
  obtain ⟨c1, e1⟩ := go (s.high + 1) [s.high + 1, s.high + 1, s.high + 1, s.high + 1] s 0
  rw [e1, l1]
  obtain ⟨c2, e2⟩ := go (s.high + 1) [s.high + 1, s.high + 1, s.high + 1] ⟨max (s.limit / 2) s.least, s.least, s.most, s.low, s.high, s.quiet, 0⟩ c1
  rw [e2, l2]
  obtain ⟨c3, e3⟩ := go (s.high + 1) [s.high + 1, s.high + 1] ⟨max (max (s.limit / 2) s.least / 2) s.least, s.least, s.most, s.low, s.high, s.quiet, 0⟩ c2
  rw [e3, l3]
  obtain ⟨c4, e4⟩ := go (s.high + 1) [s.high + 1] ⟨max (max (max (s.limit / 2) s.least / 2) s.least / 2) s.least, s.least, s.most, s.low, s.high, s.quiet, 0⟩ c3
  rw [e4, l4]
  obtain ⟨c5, e5⟩ := go (s.high + 1) [] ⟨max (max (max (max (s.limit / 2) s.least / 2) s.least / 2) s.least / 2) s.least, s.least, s.most, s.low, s.high, s.quiet, 0⟩ c4
  rw [e5, l5]
  show (⟨_, _, _, _, _, _, _⟩ : St) = _
  obtain ⟨⟨q1, q2, q3, q4⟩, _, _, _, _⟩ := h
  have : max (max (max (max (max (s.limit / 2) s.least / 2) s.least / 2) s.least / 2) s.least / 2) s.least = s.least := by omega
  rw [this]
/-- What HystFalls asks. -/
theorem falls_plain {s : St} (h : s.ok) {n : Nat} (hn : (n : Int) = s.quiet * (s.most - s.least)) :
    runS (List.replicate n (s.low - 1)) ⟨s.least, s.least, s.most, s.low, s.high, s.quiet, 0⟩ 0 = (⟨s.most, s.least, s.most, s.low, s.high, s.quiet, 0⟩, s.most - s.least) := by
  have ho : (⟨s.least, s.least, s.most, s.low, s.high, s.quiet, 0⟩ : St).ok := by
    unfold St.ok at h ⊢
    simp only
    omega
  have := lows n ⟨s.least, s.least, s.most, s.low, s.high, s.quiet, 0⟩ 0 ho (by simp only; rw [Int.sub_self, Int.zero_mul, hn, Int.mul_comm]; omega)
  rw [this]
  simp
/-- What HystStays asks of a look. -/
theorem stays_plain {s y : St} (h : s.ok) {n : Int} {is : Bool} {z since : Int} (hs : seeS s n = (y, is)) (hz : zoneS s n = z) (hc : s.calm ≤ since) :
    y.ok ∧ y.quiet = s.quiet ∧ ((y.limit = s.limit ∧ is = false ∧ (z = 1 ∨ z = 0 ∨ z = -1) ∧ y.calm ≤ since + 1) ∨ (y.limit < s.limit ∧ is = true ∧ z = 1 ∧ y.calm ≤ since + 1) ∨ (s.limit < y.limit ∧ is = true ∧ z = -1 ∧ y.calm = 0 ∧ s.quiet ≤ since + 1)) := by
  have hq := h
  obtain ⟨⟨q1, q2, q3, q4⟩, ⟨q5, q6, q7⟩, ⟨q8, q9⟩, q10, q11⟩ := hq
  unfold seeS at hs
  unfold zoneS at hz
  rw [if_pos h] at hs
  by_cases c1 : s.high < n
  · rw [if_pos c1] at hs hz
    injection hs with e1 e2
    subst e1
    refine ⟨high_ok h, rfl, ?_⟩
    by_cases hm : max (s.limit / 2) s.least = s.limit
    · rw [decide_eq_false (by simpa using hm)] at e2
      exact .inl ⟨hm, e2.symm, .inl hz.symm, by simp only; omega⟩
    · rw [decide_eq_true hm] at e2
      exact .inr (.inl ⟨by simp only; omega, e2.symm, hz.symm, by simp only; omega⟩)
  · rw [if_neg c1] at hs hz
    by_cases c2 : n < s.low
    · rw [if_neg (by omega)] at hs
      rw [if_pos c2] at hz
      by_cases c3 : s.calm + 1 < s.quiet
      · rw [if_pos c3] at hs
        injection hs with e1 e2
        subst e1 e2
        exact ⟨by unfold St.ok; simp only; omega, rfl, .inl ⟨rfl, rfl, .inr (.inr hz.symm), by simp only; omega⟩⟩
      · rw [if_neg c3] at hs
        injection hs with e1 e2
        subst e1
        refine ⟨by unfold St.ok; simp only; omega, rfl, ?_⟩
        by_cases hm : min (s.limit + 1) s.most = s.limit
        · rw [decide_eq_false (by simpa using hm)] at e2
          exact .inl ⟨hm, e2.symm, .inr (.inr hz.symm), by simp only; omega⟩
        · rw [decide_eq_true hm] at e2
          exact .inr (.inr ⟨by simp only; omega, e2.symm, hz.symm, rfl, by omega⟩)
    · rw [if_pos c2] at hs
      rw [if_neg c2] at hz
      injection hs with e1 e2
      subst e1 e2
      exact ⟨by unfold St.ok; simp only; omega, rfl, .inl ⟨rfl, rfl, .inr (.inl hz.symm), by simp only; omega⟩⟩
end Go.Proofs.Ytbjfdmgfmdccgaa
