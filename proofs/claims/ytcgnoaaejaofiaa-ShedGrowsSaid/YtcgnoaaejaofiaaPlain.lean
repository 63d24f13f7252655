import Derived.Test.YtcgnoaaejaofiaaWait
namespace Go.Proofs.Ytcgnoaaejaofiaa
open Go.RowKit

theorem err_ok {b : Bk} (h : b.ok) : b.err = 0 := if_pos h
theorem err_no {b : Bk} (h : ¬ b.ok) : b.err = 8 := if_neg h
theorem has_ok {b : Bk} (h : b.ok) : hasB b = b.level / b.per := if_pos (err_ok h)
theorem has_no {b : Bk} (h : ¬ b.ok) : hasB b = 0 := if_neg (by rw [err_no h]; decide)
theorem at_ok {b : Bk} {tick : Int} (h : b.ok) (h1 : b.now < tick) (h2 : tick ≤ 1099511627776) : atB b tick = ⟨b.burst, b.rate, b.per, min (b.burst * b.per) (b.level + (tick - b.now) * b.rate), tick⟩ := if_pos ⟨err_ok h, h1, h2⟩
theorem at_old {b : Bk} {tick : Int} (h : tick ≤ b.now) : atB b tick = b := if_neg fun h' => by omega
theorem at_far {b : Bk} {tick : Int} (h : 1099511627776 < tick) : atB b tick = b := if_neg fun h' => by omega
theorem at_bad {b : Bk} {tick : Int} (h : ¬ b.ok) : atB b tick = b := if_neg fun h' => absurd h'.1 (by rw [err_no h]; decide)
theorem take_yes {b : Bk} {tick : Int} {a : Bk} (h : atB b tick = a) (h1 : a.ok) (h2 : a.per ≤ a.level) : takeB b tick = ({ a with level := a.level - a.per }, true) := by
  unfold takeB
  rw [h]
  refine if_neg ?_
  rw [has_ok h1]
  have hp := h1.1.2.2.1
  have := (Int.le_ediv_iff_mul_le (a := 1) (b := a.level) (c := a.per) (by omega)).2 (by omega)
  omega
theorem take_no {b : Bk} {tick : Int} {a : Bk} (h : atB b tick = a) (h1 : a.ok) (h2 : a.level < a.per) : takeB b tick = (a, false) := by
  unfold takeB
  rw [h]
  refine if_pos ?_
  rw [has_ok h1]
  exact Int.ediv_eq_zero_of_lt h1.2.1.1 h2
/-- A bucket that may be, at any later tick. -/
theorem at_later {b : Bk} (h : b.ok) {t : Int} (h1 : b.now ≤ t) (h2 : t ≤ 1099511627776) :
    atB b t = ⟨b.burst, b.rate, b.per, min (b.burst * b.per) (b.level + (t - b.now) * b.rate), t⟩ := by
  by_cases he : b.now < t
  · exact at_ok h he h2
  · obtain rfl : t = b.now := by omega
    rw [at_old (Int.le_refl _)]
    have := h.2.1.2
    obtain ⟨b0, b1, b2, b3, b4⟩ := b
    simp only [Bk.mk.injEq, true_and, and_true, Int.sub_self, Int.zero_mul, Int.add_zero]
    simp only at this
    omega
theorem gain_nonneg {b : Bk} (h : b.ok) {t : Int} (h1 : b.now ≤ t) : 0 ≤ (t - b.now) * b.rate := Int.mul_nonneg (by omega) h.1.2.1.1
theorem at_isok {b : Bk} (h : b.ok) {t : Int} (h1 : b.now ≤ t) (h2 : t ≤ 1099511627776) : (atB b t).ok := by
  rw [at_later h h1 h2]
  have hg := gain_nonneg h h1
  obtain ⟨⟨⟨q1, q2⟩, ⟨q3, q4⟩, ⟨q5, q6⟩⟩, ⟨q7, q8⟩, ⟨q9, q10⟩⟩ := h
  obtain ⟨p1, p2⟩ := prod_le q1 q2 q5 q6
  exact ⟨⟨⟨q1, q2⟩, ⟨q3, q4⟩, ⟨q5, q6⟩⟩, ⟨by simp only; omega, by simp only; omega⟩, ⟨by simp only; omega, h2⟩⟩
theorem per_le {b : Bk} (h : b.ok) : b.per ≤ b.burst * b.per := by
  have := Int.mul_le_mul_of_nonneg_right (a := 1) (b := b.burst) (c := b.per) h.1.1.1 (by have := h.1.2.2.1; omega)
  omega
theorem has_pos {b : Bk} (h : b.ok) : 0 < hasB b ↔ b.per ≤ b.level := by
  rw [has_ok h]
  have hp := h.1.2.2.1
  have := Int.le_ediv_iff_mul_le (a := 1) (b := b.level) (c := b.per) (by omega)
  omega
theorem has_nonneg {b : Bk} (h : b.ok) : 0 ≤ hasB b := by
  rw [has_ok h]
  exact Int.ediv_nonneg h.2.1.1 (by have := h.1.2.2.1; omega)
theorem take_snd {b : Bk} (h : b.ok) {t : Int} (h1 : b.now ≤ t) (h2 : t ≤ 1099511627776) : (takeB b t).2 = true ↔ 0 < hasB (atB b t) := by
  have := has_nonneg (at_isok h h1 h2)
  unfold takeB
  split
  · rename_i h0
    rw [h0]
    simp
  · simp
    omega
/-- A token at a later tick. -/
theorem token_at {b : Bk} (h : b.ok) {t : Int} (h1 : b.now ≤ t) (h2 : t ≤ 1099511627776) : 0 < hasB (atB b t) ↔ b.per ≤ b.level + (t - b.now) * b.rate := by
  rw [has_pos (at_isok h h1 h2), at_later h h1 h2]
  have := per_le h
  simp only
  omega

/-! The shed's plain functions. -/
structure Lk where
  opn : Int
  told : Int
  agreed : Int
  away : Bool
  cost : Int
  backlog : Int
  cap : Int
  tick : Int
  second : Int
/-- Is there room? -/
def Lk.fits (x : Lk) : Bool := decide (0 < x.cost ∧ 0 ≤ x.backlog ∧ x.backlog ≤ x.cap ∧ x.cost ≤ x.cap - x.backlog)
/-- The fate by all but the bucket. -/
def Lk.ahead (x : Lk) : Int := if x.agreed ≤ x.opn then 4 else if x.away = true ∨ x.told ≤ x.opn then 1 else if x.fits = true then 0 else 3
/-- Ticks in seconds. -/
def secs (ticks per : Int) : Int := if ticks < 1 then 1 else (ticks - 1) / max per 1 + 1
/-- A request's fate, the bucket behind it, and how long to wait. -/
noncomputable def decB (x : Lk) (b : Bk) : Int × Bk × Int :=
  if x.ahead = 0 then (if (takeB b x.tick).2 = true then (0, (takeB b x.tick).1, 0) else (2, (takeB b x.tick).1, secs (waitB b x.tick) x.second))
  else if x.ahead = 3 then (3, b, 1) else (x.ahead, b, 0)
def statusB (f : Int) : Int := if f = 2 then 429 else if f = 3 then 503 else 0
def codeB (f : Int) : Int := if f = 1 then 7 else if f = 4 then 1 else 0
theorem ahead_cases (x : Lk) : (x.ahead = 4 ∧ x.agreed ≤ x.opn) ∨ (x.ahead = 1 ∧ x.opn < x.agreed ∧ (x.away = true ∨ x.told ≤ x.opn)) ∨
    (x.ahead = 3 ∧ x.opn < x.agreed ∧ x.away = false ∧ x.opn < x.told ∧ x.fits = false) ∨ (x.ahead = 0 ∧ x.opn < x.agreed ∧ x.away = false ∧ x.opn < x.told ∧ x.fits = true) := by
  unfold Lk.ahead
  by_cases h1 : x.agreed ≤ x.opn
  · rw [if_pos h1]; exact .inl ⟨rfl, h1⟩
  · rw [if_neg h1]
    by_cases h2 : x.away = true ∨ x.told ≤ x.opn
    · rw [if_pos h2]; exact .inr (.inl ⟨rfl, by omega, h2⟩)
    · rw [if_neg h2]
      have h3 : x.away = false := by
        cases h : x.away
        · rfl
        · exact absurd (.inl h) h2
      have h4 : x.opn < x.told := Int.not_le.1 fun h => h2 (.inr h)
      cases h5 : x.fits
      · exact .inr (.inr (.inl ⟨by simp, by omega, h3, h4, rfl⟩))
      · exact .inr (.inr (.inr ⟨by simp, by omega, h3, h4, rfl⟩))
theorem secs_pos (n s : Int) : 1 ≤ secs n s := by
  unfold secs
  split
  · exact Int.le_refl _
  · have := Int.ediv_nonneg (a := n - 1) (b := max s 1) (by omega) (by omega)
    omega
theorem secs_le (n s : Int) (h : 1 ≤ n) : secs n s ≤ n := by
  unfold secs
  rw [if_neg (by omega)]
  have := Int.ediv_le_self (max s 1) (a := n - 1) (by omega)
  omega
theorem has_some (b : Bk) : 0 ≤ hasB b := by
  by_cases h : b.ok
  · exact has_nonneg h
  · rw [has_no h]; exact Int.le_refl _
theorem at_again (b : Bk) (t : Int) : atB (atB b t) t = atB b t := by
  by_cases h : b.err = 0 ∧ b.now < t ∧ t ≤ 1099511627776
  · have e : atB b t = ⟨b.burst, b.rate, b.per, min (b.burst * b.per) (b.level + (t - b.now) * b.rate), t⟩ := if_pos h
    rw [e]
    exact at_old (Int.le_refl _)
  · have e : atB b t = b := if_neg h
    rw [e, e]
theorem take_parts (b : Bk) (t : Int) : (hasB (atB b t) = 0 ∧ takeB b t = (atB b t, false)) ∨ (0 < hasB (atB b t) ∧ (takeB b t).2 = true ∧ hasB (takeB b t).1 = hasB (atB b t) - 1) := by
  have h0 := has_some (atB b t)
  unfold takeB
  generalize atB b t = a at *
  by_cases h : hasB a = 0
  · exact .inl ⟨h, if_pos h⟩
  · refine .inr ⟨by omega, by rw [if_neg h], ?_⟩
    rw [if_neg h]
    have hok := ok_of_has h
    have hp := (has_pos hok).1 (by omega)
    have hq := hok
    obtain ⟨⟨⟨q1, q2⟩, ⟨q3, q4⟩, ⟨q5, q6⟩⟩, ⟨q7, q8⟩, ⟨q9, q10⟩⟩ := hok
    have hk : ({ a with level := a.level - a.per } : Bk).ok := ⟨⟨⟨q1, q2⟩, ⟨q3, q4⟩, ⟨q5, q6⟩⟩, ⟨by simp only; omega, by simp only; omega⟩, ⟨q9, q10⟩⟩
    rw [has_ok hk, has_ok hq]
    simp only
    have := Int.add_mul_ediv_right a.level (-1) (show a.per ≠ 0 by omega)
    rw [show a.level - a.per = a.level + -1 * a.per by omega, this]
    omega
/-- What ShedFates asks. -/
theorem fates_plain (x : Lk) (b : Bk) :
    ((decB x b).1 = 0 ↔ (x.opn < x.agreed ∧ x.opn < x.told ∧ x.away = false ∧ x.fits = true ∧ 0 < hasB (atB b x.tick))) ∧
    0 ≤ (decB x b).1 ∧ (decB x b).1 ≤ 4 ∧ (0 < (decB x b).2.2 ↔ (decB x b).1 = 2 ∨ (decB x b).1 = 3) ∧
    ((decB x b).1 = 0 → hasB (decB x b).2.1 = hasB (atB b x.tick) - 1) ∧
    ((decB x b).1 ≠ 0 → hasB (atB (decB x b).2.1 x.tick) = hasB (atB b x.tick)) := by
  unfold decB
  rcases ahead_cases x with ⟨h, h1⟩ | ⟨h, h1, h2⟩ | ⟨h, h1, h2, h3, h4⟩ | ⟨h, h1, h2, h3, h4⟩
  · rw [h]
    simp
    omega
  · rw [h]
    simp
    rcases h2 with h2 | h2
    · simp [h2]
    · omega
  · rw [h]
    simp [h4]
  · rw [h]
    rcases take_parts b x.tick with ⟨t0, t1⟩ | ⟨t0, t1, t2⟩
    · rw [t1]
      have := secs_pos (waitB b x.tick) x.second
      simp [at_again, t0]
      omega
    · rw [t1]
      simp [t2, t0, h1, h2, h3, h4]
theorem told_plain {f : Int} (h0 : 0 ≤ f) (h1 : f ≤ 4) : (if statusB f = 0 then (0 : Int) else 1) + (if codeB f = 0 then 0 else 1) = min 1 f := by
  have : f = 0 ∨ f = 1 ∨ f = 2 ∨ f = 3 ∨ f = 4 := by omega
  rcases this with rfl | rfl | rfl | rfl | rfl <;> decide
/-- What Wait tells. -/
theorem waits {b : Bk} (h : b.ok) (hn : b.now ≤ 1073741824) (hr : b.rate ≠ 0) {t m : Int} (ht : t ≤ 1073741824) (hm : max t b.now = m) (hz : hasB (atB b t) = 0) :
    1 ≤ waitB b t ∧ waitB b t ≤ 1000 ∧ ∀ n, 0 ≤ n → n ≤ 2000000 → (0 < hasB (atB b (m + n)) ↔ waitB b t ≤ n) := by
  have hq := h
  obtain ⟨⟨⟨q1, q2⟩, ⟨q3, q4⟩, ⟨q5, q6⟩⟩, ⟨q7, q8⟩, ⟨q9, q10⟩⟩ := hq
  have hF := per_le h
  have ham : atB b t = atB b m := by
    by_cases ho : t ≤ b.now
    · rw [at_old ho, at_old (by omega)]
    · rw [show m = t by omega]
  have hw : waitB b t = waitA (atB b t) := rfl
  rw [ham] at hw hz
  have hat := at_later h (t := m) (by omega) (by omega)
  have hok := at_isok h (t := m) (by omega) (by omega)
  have hX : 0 ≤ (m - b.now) * b.rate := Int.mul_nonneg (by omega) q3
  have key : ∀ n, 0 ≤ n → n ≤ 2000000 → (0 < hasB (atB b (m + n)) ↔ b.per ≤ b.level + ((m - b.now) * b.rate + n * b.rate)) := by
    intro n h0 h1
    rw [token_at h (by omega) (by omega), show m + n - b.now = (m - b.now) + n by omega, Int.add_mul]
  have hz0 := key 0 (by omega) (by omega)
  rw [show m + 0 = m by omega] at hz0
  unfold waitA at hw
  rw [err_ok hok, hat] at hw
  simp only [ne_eq, not_true_eq_false, if_false] at hw
  generalize waitB b t = n at hw ⊢
  generalize (m - b.now) * b.rate = Y at *
  have c1 : ¬ b.per ≤ min (b.burst * b.per) (b.level + Y) := by omega
  rw [if_neg c1, if_neg hr] at hw
  have hmn : min (b.burst * b.per) (b.level + Y) = b.level + Y := by omega
  rw [hmn] at hw c1
  have hd := Int.mul_ediv_add_emod (b.per - (b.level + Y) + b.rate - 1) b.rate
  have hm0 := Int.emod_nonneg (b.per - (b.level + Y) + b.rate - 1) hr
  have hm1 := Int.emod_lt_of_pos (b.per - (b.level + Y) + b.rate - 1) (show 0 < b.rate by omega)
  have hd0 : 0 ≤ (b.per - (b.level + Y) + b.rate - 1) / b.rate := Int.ediv_nonneg (by omega) (by omega)
  have hd1 : (b.per - (b.level + Y) + b.rate - 1) / b.rate ≤ (b.per - (b.level + Y) + b.rate - 1) := Int.ediv_le_self _ (by omega)
  generalize hq : (b.per - (b.level + Y) + b.rate - 1) / b.rate = q at *
  generalize hr' : (b.per - (b.level + Y) + b.rate - 1) % b.rate = r at *
  rw [if_neg (by omega)] at hw
  subst hw
  have hcomm : b.rate * n = n * b.rate := Int.mul_comm _ _
  have hn0 : 1 ≤ n := by
    rcases Int.lt_or_le n 1 with h0 | h0
    · have : n = 0 := by omega
      subst this
      rw [Int.mul_zero] at hd
      omega
    · exact h0
  have hn1 : n ≤ 1000 := by
    have := Int.mul_le_mul_of_nonneg_left (a := 1) (b := b.rate) (c := n - 1) (by omega) (by omega)
    rw [Int.sub_mul, Int.sub_mul] at this
    omega
  refine ⟨hn0, hn1, fun k k0 k1 => ?_⟩
  rw [key k k0 k1]
  constructor
  · intro hk
    rcases Int.lt_or_le k n with h0 | h0
    · have := Int.mul_le_mul_of_nonneg_right (a := k) (b := n - 1) (c := b.rate) (by omega) q3
      rw [Int.sub_mul, Int.one_mul] at this
      omega
    · exact h0
  · intro hk
    have := Int.mul_le_mul_of_nonneg_right hk q3
    omega
/-- What ShedWaits asks. -/
theorem shedwaits_plain {x : Lk} {b : Bk} (h : b.ok) (hn : b.now ≤ 1073741824) (hr : b.rate ≠ 0) (ht : x.tick ≤ 1073741824) (hs : 1 ≤ x.second) (hs2 : x.second ≤ 1000)
    (hf : (decB x b).1 = 2) {m w : Int} (hm : max x.tick b.now = m) (hw : (decB x b).2.2 = w) :
    1 ≤ w ∧ w ≤ 1000 ∧ 0 < hasB (atB b (m + w * x.second)) ∧ (w = 1 ∨ hasB (atB b (m + (w - 1) * x.second)) = 0) := by
  have hz : hasB (atB b x.tick) = 0 ∧ w = secs (waitB b x.tick) x.second := by
    unfold decB at hf hw
    rcases ahead_cases x with ⟨h, _⟩ | ⟨h, _⟩ | ⟨h, _⟩ | ⟨h, _⟩
    · rw [h] at hf; simp at hf
    · rw [h] at hf; simp at hf
    · rw [h] at hf; simp at hf
    · rw [h] at hf hw
      rcases take_parts b x.tick with ⟨t0, t1⟩ | ⟨t0, t1, t2⟩
      · rw [t1] at hw
        exact ⟨t0, by simpa using hw.symm⟩
      · rw [t1] at hf; simp at hf
  obtain ⟨hz, rfl⟩ := hz
  obtain ⟨w1, w2, w3⟩ := waits h hn hr ht hm hz
  generalize waitB b x.tick = n at *
  have p1 := secs_pos n x.second
  have p2 := secs_le n x.second w1
  have hS : max x.second 1 = x.second := by omega
  have he : secs n x.second = (n - 1) / x.second + 1 := by
    unfold secs
    rw [if_neg (by omega), hS]
  have hd := Int.mul_ediv_add_emod (n - 1) x.second
  have hm0 := Int.emod_nonneg (n - 1) (show x.second ≠ 0 by omega)
  have hm1 := Int.emod_lt_of_pos (n - 1) (show 0 < x.second by omega)
  rw [he] at p1 p2 ⊢
  generalize (n - 1) / x.second = q at *
  generalize (n - 1) % x.second = r at *
  have hc : x.second * q = q * x.second := Int.mul_comm _ _
  have hq2 : q * x.second ≤ 1000000 := by omega
  have hq0 : 0 ≤ q * x.second := Int.mul_nonneg (by omega) (by omega)
  refine ⟨p1, by omega, ?_, ?_⟩
  · rw [w3 _ (by rw [Int.add_mul]; omega) (by rw [Int.add_mul]; omega), Int.add_mul]
    omega
  · right
    rw [show q + 1 - 1 = q by omega]
    have h1 := w3 (q * x.second) (by omega) (by omega)
    have h2 := has_some (atB b (m + q * x.second))
    omega
/-- What ShedGrows asks. -/
theorem grows_plain {x : Lk} {b : Bk} (hf : (decB x b).1 = 0) {n0 n1 n2 n3 k L : Int} (h0 : 0 ≤ n0) (h1 : 0 ≤ n1) (h2 : 0 ≤ n2) (h3 : 0 ≤ n3) (hk : 0 ≤ k) (hkb : k ≤ x.backlog)
    (hL : b.level ≤ L) (hL2 : b.ok → L ≤ b.burst * b.per) :
    (decB ⟨x.opn - n0, x.told + n1, x.agreed + n2, x.away, x.cost, k, x.cap + n3, x.tick, x.second⟩ ⟨b.burst, b.rate, b.per, L, b.now⟩).1 = 0 ∧
    (decB ⟨x.opn - n0, x.told + n1, x.agreed + n2, x.away, x.cost, k, x.cap + n3, x.tick, x.second⟩ ⟨b.burst, b.rate, b.per, L, b.now⟩).2.2 = 0 := by
  obtain ⟨f1, f2, f3, f4, f5⟩ := (fates_plain x b).1.1 hf
  have hok : (atB b x.tick).ok := ok_of_has (by omega)
  have hb : b.ok := by
    by_cases h : b.ok
    · exact h
    · rw [at_bad h] at hok; exact hok
  have hc : (⟨b.burst, b.rate, b.per, L, b.now⟩ : Bk).ok := by
    have := hL2 hb
    obtain ⟨⟨⟨q1, q2⟩, ⟨q3, q4⟩, ⟨q5, q6⟩⟩, ⟨q7, q8⟩, ⟨q9, q10⟩⟩ := hb
    exact ⟨⟨⟨q1, q2⟩, ⟨q3, q4⟩, ⟨q5, q6⟩⟩, ⟨by simp only; omega, by simp only; omega⟩, ⟨q9, q10⟩⟩
  have hfit : 0 < x.cost ∧ 0 ≤ x.backlog ∧ x.backlog ≤ x.cap ∧ x.cost ≤ x.cap - x.backlog := by simpa [Lk.fits] using f4
  have htok : 0 < hasB (atB ⟨b.burst, b.rate, b.per, L, b.now⟩ x.tick) := by
    by_cases ho : x.tick ≤ b.now
    · rw [at_old ho] at f5
      rw [at_old (by simpa using ho)]
      rw [has_pos hb] at f5
      rw [has_pos hc]
      simp only
      omega
    · by_cases hu : 1099511627776 < x.tick
      · rw [at_far hu] at f5 ⊢
        rw [has_pos hb] at f5
        rw [has_pos hc]
        simp only
        omega
      · rw [token_at hb (by omega) (by omega)] at f5
        rw [token_at hc (by simp only; omega) (by omega)]
        simp only
        omega
  have hg := (fates_plain ⟨x.opn - n0, x.told + n1, x.agreed + n2, x.away, x.cost, k, x.cap + n3, x.tick, x.second⟩ ⟨b.burst, b.rate, b.per, L, b.now⟩)
  have hz : (decB ⟨x.opn - n0, x.told + n1, x.agreed + n2, x.away, x.cost, k, x.cap + n3, x.tick, x.second⟩ ⟨b.burst, b.rate, b.per, L, b.now⟩).1 = 0 := by
    refine hg.1.2 ⟨by simp only; omega, by simp only; omega, f3, ?_, htok⟩
    simp only [Lk.fits, decide_eq_true_eq]
    omega
  refine ⟨hz, ?_⟩
  have ha : (⟨x.opn - n0, x.told + n1, x.agreed + n2, x.away, x.cost, k, x.cap + n3, x.tick, x.second⟩ : Lk).ahead = 0 := by
    rcases ahead_cases ⟨x.opn - n0, x.told + n1, x.agreed + n2, x.away, x.cost, k, x.cap + n3, x.tick, x.second⟩ with ⟨h, _⟩ | ⟨h, _⟩ | ⟨h, _⟩ | ⟨h, _⟩
    · unfold decB at hz; rw [h] at hz; simp at hz
    · unfold decB at hz; rw [h] at hz; simp at hz
    · unfold decB at hz; rw [h] at hz; simp at hz
    · exact h
  unfold decB at hz ⊢
  rw [if_pos ha] at hz ⊢
  split at hz
  · rename_i h; rw [if_pos h]
  · simp at hz
theorem grows_away {x : Lk} (b : Bk) (h : x.away = true) : (decB x b).1 ≠ 0 := fun hf => by
  have := ((fates_plain x b).1.1 hf).2.2.1
  rw [h] at this; cases this
theorem grows_full {x : Lk} (b : Bk) (h : x.cap = 0) : (decB x b).1 ≠ 0 := fun hf => by
  have := ((fates_plain x b).1.1 hf).2.2.2.1
  simp only [Lk.fits, decide_eq_true_eq] at this
  omega
end Go.Proofs.Ytcgnoaaejaofiaa
