/-
  The plain mathematics of layer 1: the bytes of a number, and how they are read. No program in sight.
-/
import GoSem.Claim
namespace Go.Proofs.Ytbbjkobadliglaa
/-- other bits of a first byte -/
def restN (f k : Nat) : Nat := f / 2 ^ k * 2 ^ k
def vint : Nat → Nat → List Nat
  | 0, n => [n]
  | g + 1, n => if n < 128 then [n] else (n % 128 + 128) :: vint g (n / 128)
def putL (f k n : Nat) : List Nat := if n < 2 ^ k - 1 then [restN f k + n] else (restN f k + (2 ^ k - 1)) :: vint 4 (n - (2 ^ k - 1))
/-- (n, size, error) -/
def getGo : Nat → List Nat → Nat → Nat → Nat → Nat × Nat × Nat
  | 0, _, _, _, _ => (0, 0, 8)
  | _ + 1, [], _, _, _ => (0, 0, 3)
  | g + 1, c :: t, i, n, u => if c < 128 then (if n + u * (c % 128) > 268435455 then (0, 0, 8) else (n + u * (c % 128), i + 2, 0)) else getGo g t (i + 1) (n + u * (c % 128)) (128 * u)
def getL (l : List Nat) (k : Nat) : Nat × Nat × Nat :=
  match l with
  | [] => (0, 0, 3)
  | b :: t => if b % 2 ^ k < 2 ^ k - 1 then (b % 2 ^ k, 1, 0) else getGo 5 t 0 (b % 2 ^ k) 1
theorem getGo_vint (g : Nat) : ∀ (G n i a u : Nat) (tail : List Nat), g ≤ G → n < 128 ^ (g + 1) → a + u * n ≤ 268435455 →
    getGo (G + 1) (vint g n ++ tail) i a u = (a + u * n, i + 1 + (vint g n).length, 0) := by
  induction g with
  | zero =>
    intro G n i a u tail _ h hn
    have hlt : n < 128 := by simpa using h
    simp [vint, getGo, hlt, Nat.mod_eq_of_lt hlt]
    omega
  | succ g ih =>
    intro G n i a u tail hG h hn
    unfold vint
    split
    · rename_i hlt
      simp [getGo, hlt, Nat.mod_eq_of_lt hlt]
      omega
    · rename_i hge
      obtain ⟨G', rfl⟩ : ∃ G', G = G' + 1 := ⟨G - 1, by omega⟩
      have e : u * n = u * (n % 128) + 128 * u * (n / 128) := by
        have := Nat.div_add_mod n 128
        calc u * n = u * (128 * (n / 128) + n % 128) := by rw [this]
          _ = _ := by rw [Nat.mul_add, ← Nat.mul_assoc, Nat.mul_comm u 128]; omega
      have h2 : n / 128 < 128 ^ (g + 1) := by
        rw [Nat.div_lt_iff_lt_mul (by decide)]
        rwa [Nat.pow_succ] at h
      have := ih G' (n / 128) (i + 1) (a + u * (n % 128)) (128 * u) tail (by omega) h2 (by omega)
      rw [List.cons_append, getGo, if_neg (by omega)]
      have e2 : (n % 128 + 128) % 128 = n % 128 := by omega
      rw [e2, this]
      simp only [List.length_cons, Prod.mk.injEq, and_true]
      omega
theorem getGo_cut (g : Nat) : ∀ (G n i a u : Nat), g ≤ G → n < 128 ^ (g + 1) →
    getGo (G + 1) ((vint g n).dropLast) i a u = (0, 0, 3) := by
  induction g with
  | zero => intro G n i a u _ _; simp [vint, getGo]
  | succ g ih =>
    intro G n i a u hG h
    unfold vint
    split
    · simp [getGo]
    · obtain ⟨G', rfl⟩ : ∃ G', G = G' + 1 := ⟨G - 1, by omega⟩
      have h2 : n / 128 < 128 ^ (g + 1) := by
        rw [Nat.div_lt_iff_lt_mul (by decide)]
        rwa [Nat.pow_succ] at h
      have hne : vint g (n / 128) ≠ [] := by cases g <;> simp [vint]; split <;> simp
      rw [List.dropLast_cons_of_ne_nil hne, getGo, if_neg (by omega)]
      exact ih G' _ _ _ _ (by omega) h2
theorem vint_len_mono (g : Nat) : ∀ a b, a ≤ b → (vint g a).length ≤ (vint g b).length := by
  induction g with
  | zero => intro a b _; simp [vint]
  | succ g ih =>
    intro a b h
    unfold vint
    have := ih (a / 128) (b / 128) (Nat.div_le_div_right h)
    split <;> split <;> simp <;> omega
theorem vint_pos (g n : Nat) : 1 ≤ (vint g n).length := by cases g <;> simp [vint]; split <;> simp
theorem rest_lt (f k : Nat) (hf : f < 256) (hk : k ≤ 8) : restN f k + (2 ^ k - 1) < 256 := by
  unfold restN
  have : k = 0 ∨ k = 1 ∨ k = 2 ∨ k = 3 ∨ k = 4 ∨ k = 5 ∨ k = 6 ∨ k = 7 ∨ k = 8 := by omega
  rcases this with rfl | rfl | rfl | rfl | rfl | rfl | rfl | rfl | rfl <;> simp <;> omega
theorem vint_lt (g : Nat) : ∀ n, n < 128 ^ (g + 1) → ∀ c ∈ vint g n, c < 256 := by
  induction g with
  | zero => intro n h c hc; simp [vint] at hc h; omega
  | succ g ih =>
    intro n h c hc
    unfold vint at hc
    have h2 : n / 128 < 128 ^ (g + 1) := by
      rw [Nat.div_lt_iff_lt_mul (by decide)]
      rwa [Nat.pow_succ] at h
    split at hc
    · simp at hc; omega
    · rcases List.mem_cons.1 hc with h1 | h1
      · omega
      · exact ih _ h2 _ h1
theorem putL_pos (f k n : Nat) : 1 ≤ (putL f k n).length := by unfold putL; split <;> simp
theorem get_put (f k n : Nat) (tail : List Nat) (hk : 1 ≤ k) (hn : n ≤ 268435455) : getL (putL f k n ++ tail) k = (n, (putL f k n).length, 0) := by
  have hp : 2 ≤ 2 ^ k := by have := Nat.pow_le_pow_right (n := 2) (by decide) hk; simpa using this
  have hm : ∀ m, m < 2 ^ k → (restN f k + m) % 2 ^ k = m := by
    intro m hm
    unfold restN
    rw [Nat.add_comm, Nat.add_mul_mod_self_right, Nat.mod_eq_of_lt hm]
  unfold putL
  split
  · rename_i h
    simp only [List.cons_append, List.nil_append, getL]
    rw [hm n (by omega), if_pos h]; simp
  · rename_i h
    simp only [List.cons_append, getL]
    rw [hm _ (by omega), if_neg (by omega), getGo_vint 4 4 _ _ _ _ _ (by omega) (by simp; omega) (by omega)]
    simp only [List.length_cons, Prod.mk.injEq, and_true]
    omega
theorem get_cut (f k n : Nat) (hk : 1 ≤ k) (hn : n ≤ 268435455) : getL (putL f k n).dropLast k = (0, 0, 3) := by
  have hp : 2 ≤ 2 ^ k := by have := Nat.pow_le_pow_right (n := 2) (by decide) hk; simpa using this
  have hm : ∀ m, m < 2 ^ k → (restN f k + m) % 2 ^ k = m := by
    intro m hm
    unfold restN
    rw [Nat.add_comm, Nat.add_mul_mod_self_right, Nat.mod_eq_of_lt hm]
  unfold putL
  split
  · simp [getL]
  · rename_i h
    have hne : vint 4 (n - (2 ^ k - 1)) ≠ [] := by intro h; have := vint_pos 4 (n - (2 ^ k - 1)); rw [h] at this; simp at this
    rw [List.dropLast_cons_of_ne_nil hne]
    simp only [getL]
    rw [hm _ (by omega), if_neg (by omega), getGo_cut 4 4 _ _ _ _ (by omega) (by simp; omega)]
theorem put_mono (f g k a b : Nat) (h : a ≤ b) : (putL f k a).length ≤ (putL g k b).length := by
  unfold putL
  have := vint_len_mono 4 (a - (2 ^ k - 1)) (b - (2 ^ k - 1)) (by omega)
  split <;> split <;> simp <;> omega
theorem put_wide (f g k n : Nat) : (putL f (k + 1) n).length ≤ (putL g k n).length := by
  have hp : 2 ^ (k + 1) = 2 * 2 ^ k := by rw [Nat.pow_succ]; omega
  have hp1 : 1 ≤ 2 ^ k := Nat.one_le_two_pow
  unfold putL
  have := vint_len_mono 4 (n - (2 ^ (k + 1) - 1)) (n - (2 ^ k - 1)) (by omega)
  split <;> split <;> simp <;> omega
theorem put_one (f n : Nat) : (putL f 8 n).length = 1 ↔ n < 255 := by
  have := vint_pos 4 (n - (2 ^ 8 - 1))
  by_cases h : n < 255
  · have e : putL f 8 n = [restN f 8 + n] := if_pos h
    rw [e]
    exact ⟨fun _ => h, fun _ => rfl⟩
  · have e : putL f 8 n = (restN f 8 + (2 ^ 8 - 1)) :: vint 4 (n - (2 ^ 8 - 1)) := if_neg h
    rw [e, List.length_cons]
    omega
theorem restN_restN (f k m : Nat) (hm : m < 2 ^ k) : restN (restN f k + m) k = restN f k := by
  unfold restN
  have hp : 0 < 2 ^ k := Nat.two_pow_pos k
  rw [Nat.add_comm, Nat.add_mul_div_right _ _ hp, Nat.div_eq_of_lt hm, Nat.zero_add]
theorem vint_len_le (g : Nat) : ∀ n, (vint g n).length ≤ g + 1 := by
  induction g with
  | zero => intro n; simp [vint]
  | succ g ih =>
    intro n
    unfold vint
    have := ih (n / 128)
    split <;> simp <;> omega
theorem putL_len (f k n : Nat) : (putL f k n).length ≤ 6 := by
  unfold putL
  have := vint_len_le 4 (n - (2 ^ k - 1))
  split <;> simp <;> omega
/-- What stands in the slice so far, and what is left of the number, make all the bytes. -/
def Rel (xs : List Nat) (L : Nat) (full : List Nat) : Prop := ∃ g, g ≤ 4 ∧ L < 128 ^ (g + 1) ∧ xs ++ vint g L = full
theorem Rel.start (f k n : Nat) (h : ¬ n < 2 ^ k - 1) (hn : n ≤ 268435455) : Rel [restN f k + (2 ^ k - 1)] (n - (2 ^ k - 1)) (putL f k n) :=
  ⟨4, Nat.le_refl _, by simp; omega, by unfold putL; rw [if_neg h]; rfl⟩
theorem Rel.step {xs : List Nat} {L : Nat} {full : List Nat} (h : Rel xs L full) (hL : 128 ≤ L) : Rel (xs ++ [L % 128 + 128]) (L / 128) full := by
  obtain ⟨g, hg, hl, he⟩ := h
  cases g with
  | zero => simp at hl; omega
  | succ g =>
    refine ⟨g, by omega, ?_, ?_⟩
    · rw [Nat.div_lt_iff_lt_mul (by decide)]
      rwa [Nat.pow_succ] at hl
    · rw [← he]
      conv => rhs; unfold vint
      rw [if_neg (by omega)]
      simp
theorem Rel.last {xs : List Nat} {L : Nat} {full : List Nat} (h : Rel xs L full) (hL : L < 128) : xs ++ [L] = full := by
  obtain ⟨g, hg, hl, he⟩ := h
  rw [← he]
  cases g with
  | zero => rfl
  | succ g => unfold vint; rw [if_pos hL]
theorem Rel.len {xs : List Nat} {L : Nat} {full : List Nat} (h : Rel xs L full) : xs.length ≤ full.length := by
  obtain ⟨g, hg, hl, he⟩ := h
  rw [← he, List.length_append]
  omega
theorem Rel.small {xs : List Nat} {L : Nat} {full : List Nat} (h : Rel xs L full) : L < 34359738368 := by
  obtain ⟨g, hg, hl, he⟩ := h
  have := Nat.pow_le_pow_right (n := 128) (by decide) (show g + 1 ≤ 5 by omega)
  omega
end Go.Proofs.Ytbbjkobadliglaa
namespace Go.Proofs.Ytbbjkobadliglaa
theorem getGo_end (t : List Nat) (i n u : Nat) (hi : i < 5) (h : t.length ≤ i) : getGo (5 - i) (t.drop i) i n u = (0, 0, 3) := by
  rw [List.drop_eq_nil_of_le h, show 5 - i = (4 - i) + 1 by omega]
  rfl
theorem getGo_more (t : List Nat) (i n u : Nat) (hi : i < 5) (h : i < t.length) (hc : 128 ≤ t[i]) :
    getGo (5 - i) (t.drop i) i n u = getGo (5 - (i + 1)) (t.drop (i + 1)) (i + 1) (n + u * (t[i] % 128)) (128 * u) := by
  rw [List.drop_eq_getElem_cons h, show 5 - i = (4 - i) + 1 by omega, show 5 - (i + 1) = 4 - i by omega, getGo, if_neg (by omega)]
theorem getGo_done (t : List Nat) (i n u : Nat) (hi : i < 5) (h : i < t.length) (hc : t[i] < 128) (hn : n + u * (t[i] % 128) ≤ 268435455) :
    getGo (5 - i) (t.drop i) i n u = (n + u * (t[i] % 128), i + 2, 0) := by
  rw [List.drop_eq_getElem_cons h, show 5 - i = (4 - i) + 1 by omega, getGo, if_pos hc, if_neg (by omega)]
theorem getGo_big (t : List Nat) (i n u : Nat) (hi : i < 5) (h : i < t.length) (hc : t[i] < 128) (hn : 268435455 < n + u * (t[i] % 128)) :
    getGo (5 - i) (t.drop i) i n u = (0, 0, 8) := by
  rw [List.drop_eq_getElem_cons h, show 5 - i = (4 - i) + 1 by omega, getGo, if_pos hc, if_pos (by omega)]
theorem getGo_five (t : List Nat) (n u : Nat) : getGo (5 - 5) (t.drop 5) 5 n u = (0, 0, 8) := rfl
end Go.Proofs.Ytbbjkobadliglaa
