import Derived.Laws.Cover3
import Derived.Test.YtfpagiojdgdbeaaCut
import Derived.Test.YtfpagiojdgdbeaaUntil
namespace Go.Proofs.Ytfpagiojdgdbeaa
open Go.RowKit
attribute [local go_sem ↓] Go.wp_at_zero Go.wp_at_succ

def cellsI (x : Int × Int) : List Value := [.int .i64 x.1, .int .i64 x.2]
theorem cellsI_len (x : Int × Int) : (cellsI x).length = 2 := rfl
/-- A row of items. -/
abbrev Its (w : World) (A : Option Addr) (n cap : Nat) (l : List (Int × Int)) : Prop := AggRow 2 cellsI (fun _ => True) w A n cap l
/-! Heaps. -/
theorem less_asym {a b : Int × Int} (h : lessP a b) : ¬ lessP b a := by
  unfold lessP at *
  omega
theorem less_le {a b c : Int × Int} (h : ¬ lessP b a) (k : ¬ lessP c b) : ¬ lessP c a := by
  unfold lessP at *
  omega
theorem less_lt {a b c : Int × Int} (h : lessP b a) (k : ¬ lessP c a) : ¬ lessP c b := by
  unfold lessP at *
  omega
def heapOk (l : List (Int × Int)) : Prop := ∀ k (h : k < l.length), 0 < k → ¬ lessP l[k] (l[(k - 1) / 2]'(by omega))
theorem heap_min {l : List (Int × Int)} (h : heapOk l) : ∀ k (hk : k < l.length), ¬ lessP l[k] (l[0]'(by omega)) := by
  intro k
  induction k using Nat.strongRecOn with
  | _ k ih =>
    intro hk
    rcases Nat.eq_zero_or_pos k with rfl | h0
    · exact fun h => less_asym h h
    · exact less_le (ih ((k - 1) / 2) (by omega) (by omega)) (h k hk h0)
/-- A heap, but for the item at i, which may be too small. -/
def upInv (l : List (Int × Int)) (i : Nat) : Prop :=
  (∀ k (h : k < l.length), 0 < k → k ≠ i → ¬ lessP l[k] (l[(k - 1) / 2]'(by omega))) ∧
  (∀ k (h : k < l.length), 0 < k → ∀ (_e : (k - 1) / 2 = i), 0 < i → ¬ lessP l[k] (l[(i - 1) / 2]'(by omega)))
/-- A heap, but for the item at i, which may be too great. -/
def downInv (l : List (Int × Int)) (i : Nat) : Prop :=
  (∀ k (h : k < l.length), 0 < k → (k - 1) / 2 ≠ i → ¬ lessP l[k] (l[(k - 1) / 2]'(by omega))) ∧
  (∀ k (h : k < l.length), 0 < k → ∀ (_e : (k - 1) / 2 = i), 0 < i → ¬ lessP l[k] (l[(i - 1) / 2]'(by omega)))
def swapL (l : List (Int × Int)) (i j : Nat) (hi : i < l.length) (hj : j < l.length) : List (Int × Int) := (l.set i l[j]).set j l[i]
theorem swap_len (l : List (Int × Int)) (i j : Nat) (hi : i < l.length) (hj : j < l.length) : (swapL l i j hi hj).length = l.length := by simp [swapL]
theorem swap_perm (l : List (Int × Int)) (i j : Nat) (hi : i < l.length) (hj : j < l.length) : (swapL l i j hi hj).Perm l := List.set_set_perm hi hj
theorem swap_get (l : List (Int × Int)) (i j : Nat) (hi : i < l.length) (hj : j < l.length) (k : Nat) (hk : k < (swapL l i j hi hj).length) : (swapL l i j hi hj)[k] = if k = j then l[i] else if k = i then l[j] else l[k]'(by rwa [swap_len] at hk) := by
  simp only [swapL, List.getElem_set, @eq_comm _ j k, @eq_comm _ i k]
theorem up_done {l : List (Int × Int)} {i : Nat} (h : upInv l i) (hi : i < l.length) (hd : i = 0 ∨ ¬ lessP l[i] (l[(i - 1) / 2]'(by omega))) : heapOk l := by
  intro k hk h0
  by_cases hki : k = i
  · subst hki
    rcases hd with hd | hd
    · omega
    · exact hd
  · exact h.1 k hk h0 hki
theorem up_step {l : List (Int × Int)} {i : Nat} (h : upInv l i) (hi : i < l.length) (h0 : 0 < i) (hp : (i - 1) / 2 < l.length) (hd : lessP l[i] l[(i - 1) / 2]) : upInv (swapL l i ((i - 1) / 2) hi hp) ((i - 1) / 2) := by
  obtain ⟨p, hpe⟩ : ∃ p, (i - 1) / 2 = p := ⟨_, rfl⟩
  constructor
  · intro k hk hk0 hkp
    have hkl : k < l.length := by rwa [swap_len] at hk
    rw [swap_get, swap_get, if_neg hkp]
    by_cases hki : k = i
    · subst hki
      rw [if_pos rfl, if_pos rfl]
      exact less_asym hd
    · rw [if_neg hki]
      by_cases h1 : (k - 1) / 2 = (i - 1) / 2
      · rw [if_pos h1]
        have := h.1 k hkl hk0 hki
        simp only [h1] at this
        exact less_lt hd this
      · rw [if_neg h1]
        by_cases h2 : (k - 1) / 2 = i
        · rw [if_pos h2]
          exact h.2 k hkl hk0 h2 h0
        · rw [if_neg h2]
          exact h.1 k hkl hk0 hki
  · intro k hk hk0 hkp hp0
    have hkl : k < l.length := by rwa [swap_len] at hk
    rw [swap_get, swap_get, if_neg (show ¬ k = (i - 1) / 2 by omega), if_neg (show ¬ ((i - 1) / 2 - 1) / 2 = (i - 1) / 2 by omega), if_neg (show ¬ ((i - 1) / 2 - 1) / 2 = i by omega)]
    have hpp := h.1 ((i - 1) / 2) hp hp0 (by omega)
    by_cases hki : k = i
    · rw [if_pos hki]
      exact hpp
    · rw [if_neg hki]
      have := h.1 k hkl hk0 hki
      simp only [hkp] at this
      exact less_le hpp this
theorem up_start {l : List (Int × Int)} (h : heapOk l) (x : Int × Int) : upInv (l ++ [x]) l.length := by
  constructor
  · intro k hk hk0 hkl
    rw [List.length_append, List.length_singleton] at hk
    rw [List.getElem_append_left (by omega), List.getElem_append_left (by omega)]
    exact h k (by omega) hk0
  · intro k hk hk0 hkl hl0
    rw [List.length_append, List.length_singleton] at hk
    omega
theorem down_done {l : List (Int × Int)} {i : Nat} (h : downInv l i) (hd : ∀ k (hk : k < l.length), 0 < k → ∀ (_e : (k - 1) / 2 = i), ¬ lessP l[k] (l[i]'(by omega))) : heapOk l := by
  intro k hk h0
  by_cases hki : (k - 1) / 2 = i
  · have := hd k hk h0 hki
    simp only [hki]
    exact this
  · exact h.1 k hk h0 hki
theorem down_step {l : List (Int × Int)} {i m : Nat} (h : downInv l i) (hi : i < l.length) (hm : m < l.length) (hm0 : 0 < m) (hmi : (m - 1) / 2 = i) (hl : lessP l[m] l[i])
    (hd : ∀ k (hk : k < l.length), 0 < k → (k - 1) / 2 = i → ¬ lessP l[k] l[m]) : downInv (swapL l i m hi hm) m := by
  constructor
  · intro k hk hk0 hkm
    have hkl : k < l.length := by rwa [swap_len] at hk
    rw [swap_get, swap_get]
    by_cases h1 : k = m
    · subst h1
      rw [if_pos rfl, if_neg (by omega), if_pos hmi]
      exact less_asym hl
    · rw [if_neg h1, if_neg hkm]
      by_cases h2 : k = i
      · subst h2
        rw [if_pos rfl, if_neg (by omega)]
        exact h.2 m hm hm0 hmi hk0
      · rw [if_neg h2]
        by_cases h3 : (k - 1) / 2 = i
        · rw [if_pos h3]
          exact hd k hkl hk0 h3
        · rw [if_neg h3]
          exact h.1 k hkl hk0 h3
  · intro k hk hk0 hkm hm1
    have hkl : k < l.length := by rwa [swap_len] at hk
    rw [swap_get, swap_get, if_neg (by omega), if_neg (by omega), if_neg (by omega), if_pos hmi]
    have := h.1 k hkl hk0 (by omega)
    simp only [hkm] at this
    exact this
/-! The functions. -/
set_option maxHeartbeats 800000 in
theorem less_at (A : Option Addr) (n cap : Nat) (l : List (Int × Int)) (i j : Nat) (hi : i < l.length) (hj : j < l.length) (w : World) (hl : Its w A n cap l) (hn : n ≤ 1000) : Calls Try.prog 53 #[.slice A n cap, .int .i64 i, .int .i64 j] w (BoolPost w (decide (lessP l[i] l[j]))) := by
  obtain rfl := hl.1
  obtain ⟨b, off, rfl, hlt, hc⟩ := hl.2.2.2.2.1 i l[i] (List.getElem?_eq_getElem hi)
  obtain ⟨b', off', he, _, hc'⟩ := hl.2.2.2.2.1 j l[j] (List.getElem?_eq_getElem hj)
  injection he with he
  injection he with e1 e2
  subst e1 e2
  have c0 := hc 0 _ rfl
  have c1 := hc 1 _ rfl
  have d0 := hc' 0 _ rfl
  have d1 := hc' 1 _ rfl
  simp only [Nat.add_zero] at c0 d0
  have hi' : (i : Int) < (l.length : Int) := by omega
  have hj' : (j : Int) < (l.length : Int) := by omega
  generalize l[i] = a at c0 c1 ⊢
  generalize l[j] = d at d0 d1 ⊢
  obtain ⟨a1, a2⟩ := a
  obtain ⟨z1, z2⟩ := d
  have HD : Hid (∀ w0, Calls Try.prog 61 #[.agg #[.int .i64 a1, .int .i64 a2], .agg #[.int .i64 z1, .int .i64 z2]] w0 (BoolPost w0 (decide (lessP (a1, a2) (z1, z2))))) := Lib.hid fun w0 => less_any (a1, a2) (z1, z2) w0
  have HC : Hid (∀ W, Below w.heap.size w W → b < W.heap.size ∧ W.cell? ⟨b, off + i * 2, none⟩ = some (.int .i64 a1) ∧ W.cell? ⟨b, off + i * 2 + 1, none⟩ = some (.int .i64 a2) ∧ W.cell? ⟨b, off + j * 2, none⟩ = some (.int .i64 z1) ∧ W.cell? ⟨b, off + j * 2 + 1, none⟩ = some (.int .i64 z2)) := Lib.hid fun W hb =>
    ⟨Nat.lt_of_lt_of_le hlt hb.size, ((lo_cell hb).1 b _ hlt).trans c0, ((lo_cell hb).1 b _ hlt).trans c1, ((lo_cell hb).1 b _ hlt).trans d0, ((lo_cell hb).1 b _ hlt).trans d1⟩
  have hL := lo_refl w
  clear hl hc hc' c0 c1 d0 d1
  generalize decide (lessP (a1, a2) (z1, z2)) = r at HD ⊢
  go_enter Try.func53, Try.ntmps53
  go_upto_region 1 with fail
  refine wp_region_held_drew (S := (fun W => b < W.heap.size ∧ W.cell? ⟨b, off + i * 2, none⟩ = some (.int .i64 a1) ∧ W.cell? ⟨b, off + i * 2 + 1, none⟩ = some (.int .i64 a2) ∧ W.cell? ⟨b, off + j * 2, none⟩ = some (.int .i64 z1) ∧ W.cell? ⟨b, off + j * 2 + 1, none⟩ = some (.int .i64 z2))) (by kernel_rfl) ?_ (fun hHeld => ?_)
  focus ((try dsimp only); (have q := HC.out _ hL; exact q))
  replace hL := lo_drew hL
  generalize w.drew = wd at hL hHeld ⊢
  first
  | (refine wpAnyH_take (i := 0) (oi := _) (v := ?_) (getop rfl) (by kernel_rfl) (by kernel_rfl) (by kernel_rfl) (fun _ _ _ h => h) (Or.inl ⟨by rfl, ?_⟩) (by assumption) ?_; rotate_left; focus (intro w hSw; (try dsimp only at hSw); go_simp; (try with_reducible rfl); done))
  | (refine wpAnyH_take (i := 0) (oi := _) (v := undef) (getop rfl) (by kernel_rfl) (by kernel_rfl) (by kernel_rfl) (fun _ _ _ h => h) (Or.inr ⟨by rfl, rfl⟩) (by assumption) ?_)
  (try simp only [Act.put, List.setIfInBounds_toArray, List.set_cons_zero, List.set_cons_succ])
  first
  | (refine wpAnyH_take (i := 1) (oi := _) (v := ?_) (getop rfl) (by kernel_rfl) (by kernel_rfl) (by kernel_rfl) (fun _ _ _ h => h) (Or.inl ⟨by rfl, ?_⟩) (by assumption) ?_; rotate_left; focus (intro w hSw; (try dsimp only at hSw); go_simp; (try with_reducible rfl); done))
  | (refine wpAnyH_take (i := 1) (oi := _) (v := undef) (getop rfl) (by kernel_rfl) (by kernel_rfl) (by kernel_rfl) (fun _ _ _ h => h) (Or.inr ⟨by rfl, rfl⟩) (by assumption) ?_)
  (try simp only [Act.put, List.setIfInBounds_toArray, List.set_cons_zero, List.set_cons_succ])
  first
  | (refine wpAnyH_take (i := 4) (oi := _) (v := ?_) (getop rfl) (by kernel_rfl) (by kernel_rfl) (by kernel_rfl) (fun _ _ _ h => h) (Or.inl ⟨by rfl, ?_⟩) (by assumption) ?_; rotate_left; focus (intro w hSw; (try dsimp only at hSw); go_simp; (try with_reducible rfl); done))
  | (refine wpAnyH_take (i := 4) (oi := _) (v := undef) (getop rfl) (by kernel_rfl) (by kernel_rfl) (by kernel_rfl) (fun _ _ _ h => h) (Or.inr ⟨by rfl, rfl⟩) (by assumption) ?_)
  (try simp only [Act.put, List.setIfInBounds_toArray, List.set_cons_zero, List.set_cons_succ])
  first
  | (refine wpAnyH_take (i := 5) (oi := _) (v := ?_) (getop rfl) (by kernel_rfl) (by kernel_rfl) (by kernel_rfl) (fun _ _ _ h => h) (Or.inl ⟨by rfl, ?_⟩) (by assumption) ?_; rotate_left; focus (intro w hSw; (try dsimp only at hSw); go_simp; (try with_reducible rfl); done))
  | (refine wpAnyH_take (i := 5) (oi := _) (v := undef) (getop rfl) (by kernel_rfl) (by kernel_rfl) (by kernel_rfl) (fun _ _ _ h => h) (Or.inr ⟨by rfl, rfl⟩) (by assumption) ?_)
  (try simp only [Act.put, List.setIfInBounds_toArray, List.set_cons_zero, List.set_cons_succ])
  first
  | (refine wpAnyH_take (i := 2) (oi := _) (v := ?_) (getop rfl) (by kernel_rfl) (by kernel_rfl) (by kernel_rfl) (fun _ _ _ h => h) (Or.inl ⟨by rfl, ?_⟩) (by assumption) ?_; rotate_left; focus (intro w hSw; (try dsimp only at hSw); go_simp; (try with_reducible rfl); done))
  | (refine wpAnyH_take (i := 2) (oi := _) (v := undef) (getop rfl) (by kernel_rfl) (by kernel_rfl) (by kernel_rfl) (fun _ _ _ h => h) (Or.inr ⟨by rfl, rfl⟩) (by assumption) ?_)
  (try simp only [Act.put, List.setIfInBounds_toArray, List.set_cons_zero, List.set_cons_succ])
  first
  | (refine wpAnyH_take (i := 6) (oi := _) (v := ?_) (getop rfl) (by kernel_rfl) (by kernel_rfl) (by kernel_rfl) (fun _ _ _ h => h) (Or.inl ⟨by rfl, ?_⟩) (by assumption) ?_; rotate_left; focus (intro w hSw; (try dsimp only at hSw); go_simp; (try with_reducible rfl); done))
  | (refine wpAnyH_take (i := 6) (oi := _) (v := undef) (getop rfl) (by kernel_rfl) (by kernel_rfl) (by kernel_rfl) (fun _ _ _ h => h) (Or.inr ⟨by rfl, rfl⟩) (by assumption) ?_)
  (try simp only [Act.put, List.setIfInBounds_toArray, List.set_cons_zero, List.set_cons_succ])
  first
  | (refine wpAnyH_take (i := 3) (oi := _) (v := ?_) (getop rfl) (by kernel_rfl) (by kernel_rfl) (by kernel_rfl) (fun _ _ _ h => h) (Or.inl ⟨by rfl, ?_⟩) (by assumption) ?_; rotate_left; focus (intro w hSw; (try dsimp only at hSw); go_simp; (try with_reducible rfl); done))
  | (refine wpAnyH_take (i := 3) (oi := _) (v := undef) (getop rfl) (by kernel_rfl) (by kernel_rfl) (by kernel_rfl) (fun _ _ _ h => h) (Or.inr ⟨by rfl, rfl⟩) (by assumption) ?_)
  (try simp only [Act.put, List.setIfInBounds_toArray, List.set_cons_zero, List.set_cons_succ])
  first
  | (refine wpAnyH_take (i := 7) (oi := _) (v := ?_) (getop rfl) (by kernel_rfl) (by kernel_rfl) (by kernel_rfl) (fun _ _ _ h => h) (Or.inl ⟨by rfl, ?_⟩) (by assumption) ?_; rotate_left; focus (intro w hSw; (try dsimp only at hSw); go_simp; (try with_reducible rfl); done))
  | (refine wpAnyH_take (i := 7) (oi := _) (v := undef) (getop rfl) (by kernel_rfl) (by kernel_rfl) (by kernel_rfl) (fun _ _ _ h => h) (Or.inr ⟨by rfl, rfl⟩) (by assumption) ?_)
  (try simp only [Act.put, List.setIfInBounds_toArray, List.set_cons_zero, List.set_cons_succ])
  refine wpAnyH_ready (rs := [8]) (by kernel_rfl) (by simp) ?_
  refine (AllReadyH.cons (o := _) (getop rfl) (fun K hK => ?_) AllReadyH.nil)
  go_simp
  refine (HD.out _).mono ?_
  rintro e wz0 ⟨rfl, hb⟩
  replace hL := lo_trans hL hb
  clear hb
  refine hK.out _ _ ?_ (fun hHeld8 => ?_)
  focus ((try dsimp only); (have q := HC.out _ hL; exact q))
  clear hK K hHeld
  have hHeld := hHeld8
  clear hHeld8
  (try simp only [Act.put, List.setIfInBounds_toArray, List.set_cons_zero, List.set_cons_succ])
  first
  | (refine wpAnyH_take (i := 9) (oi := _) (v := ?_) (getop rfl) (by kernel_rfl) (by kernel_rfl) (by kernel_rfl) (fun _ _ _ h => h) (Or.inl ⟨by rfl, ?_⟩) (by assumption) ?_; rotate_left; focus (intro w hSw; (try dsimp only at hSw); go_simp; (try with_reducible rfl); done))
  | (refine wpAnyH_take (i := 9) (oi := _) (v := undef) (getop rfl) (by kernel_rfl) (by kernel_rfl) (by kernel_rfl) (fun _ _ _ h => h) (Or.inr ⟨by rfl, rfl⟩) (by assumption) ?_)
  (try simp only [Act.put, List.setIfInBounds_toArray, List.set_cons_zero, List.set_cons_succ])
  refine wpAnyH_done (by kernel_rfl) ?_ _
  have hM := Lib.hid hL
  clear hL hHeld
  go_wp2_with fail
  go_ret
  exact ⟨rfl, hM.out⟩
theorem info64 : (Try.prog.info? 64).map (fun i => (i.zero, i.size, i.bytes)) = some (some (.agg #[.int .i64 0, .int .i64 0]), 2, 16) := by kernel_rfl
theorem its_flat {w : World} {A : Option Addr} {n cap : Nat} {l : List (Int × Int)} (h : Its w A n cap l) : ∀ j u, (l.flatMap cellsI)[j]? = some u → ∃ b off, A = some ⟨b, off, none⟩ ∧ w.cell? ⟨b, off + j, none⟩ = some u := by
  intro j u hu
  have hj : j < l.length * 2 := by have := (List.getElem?_eq_some_iff.1 hu).1; rwa [flatMap_len cellsI_len] at this
  obtain ⟨b, off, he, _, hc⟩ := h.2.2.2.2.1 (j / 2) l[j / 2] (List.getElem?_eq_getElem (by omega))
  have hg := flatMap_get cellsI_len l (j / 2) (j % 2) l[j / 2] (List.getElem?_eq_getElem (by omega)) (by omega)
  rw [show j / 2 * 2 + j % 2 = j by omega, hu] at hg
  have := hc (j % 2) u hg.symm
  rw [show off + j / 2 * 2 + j % 2 = off + j by omega] at this
  exact ⟨b, off, he, this⟩
theorem one_flatI (l : List (Int × Int)) : ∀ u ∈ l.flatMap cellsI, u.oneCell' = true := by
  intro u hu
  obtain ⟨x, _, hx⟩ := List.mem_flatMap.1 hu
  simp [cellsI] at hx
  rcases hx with rfl | rfl <;> rfl
theorem nil48 (a : Option Addr) (n c : Nat) (w : World) : (binOp .eql 48 (.slice a n c) (.slice none 0 0)).run Try.prog w = .ok (.bool a.isNone) w := by
  unfold binOp
  simp [run_equal_slice_nil w 48 64 a n c Try.underlying48]
/-- A heap of a call's own. -/
def HeapPost (w : World) (l : List (Int × Int)) (e : Ending) (w' : World) : Prop := ∃ base u, w.heap.size ≤ base ∧ base ≤ w'.heap.size ∧ e = .returned u ∧ w'.ownsRow base 64 2 u l.length (l.flatMap cellsI) ∧ Below w.heap.size w w'
set_option maxRecDepth 100000 in
set_option maxHeartbeats 1600000 in
theorem cloneI_any (A : Option Addr) (n cap : Nat) (l : List (Int × Int)) (w : World) (hl : Its w A n cap l) (hn : n ≤ 1000) : Calls Try.prog 46 #[.slice A n cap] w (HeapPost w l) := by
  have hln := hl.1
  rcases A with _ | ⟨b, off, sp⟩
  · have hn0 := (hl.2.2.2.1 rfl).1
    have hl0 : l = [] := List.eq_nil_of_length_eq_zero (by omega)
    have hc0 := (hl.2.2.2.1 rfl).2
    subst hl0
    subst hn0
    have hq := nil48 none 0 0
    simp only [Option.isNone_none] at hq
    clear hl hln
    go_enter Try.func46, Try.ntmps46
    go_wp2_with fail
    go_ret
    exact ⟨w.heap.size, _, Nat.le_refl _, Nat.le_refl _, rfl, World.ownsRow_nil _ _ _ _, lo_refl _⟩
  · have hr0 := World.ownsRow_lit (base := w.heap.size) (e := 64) (size := 2) w #[] 0 (Nat.le_refl _) (by decide) rfl
    obtain ⟨i0, hi, hz0, hz1, hz2⟩ := info_parts info64
    have hL := lo_alloc (lo_refl w) (.cells #[] 64)
    have HF : Hid (∀ W, Below w.heap.size w W → ∀ j u, (l.flatMap cellsI)[j]? = some u → ∃ b' off', (some ⟨b, off, sp⟩ : Option Addr) = some ⟨b', off', none⟩ ∧ W.cell? ⟨b', off' + j, none⟩ = some u) := Lib.hid fun W hb => its_flat (agg_lo hl hb)
    have hfl : (l.flatMap cellsI).length = n * 2 := by rw [flatMap_len cellsI_len, hln]
    have hq := nil48 (some ⟨b, off, sp⟩) n cap
    simp only [Option.isNone_some] at hq
    clear hl
    go_enter Try.func46, Try.ntmps46
    go_wp2_with (at_builtin; refine wp_append_row rfl _ _ 48 rfl w.heap.size 64 i0 _ 2 16 Try.underlying48 hi hz0 hz1 hz2 rfl (by decide) _ _ _ rfl hr0 (some ⟨b, off, sp⟩) n cap (l.flatMap cellsI) rfl hfl (fun h => by cases h) (HF.out _ hL) (one_flatI l) (by omega) (by decide) hL.size ?_; intro v' wn hown hbel)
    go_ret
    exact ⟨w.heap.size, _, Nat.le_refl _, (hL.trans hbel).size, rfl, by rw [hln]; simpa using hown, hL.trans hbel⟩
theorem own_its {w : World} {base : Nat} {u : Value} {l : List (Int × Int)} (h : w.ownsRow base 64 2 u l.length (l.flatMap cellsI)) : ∃ A cap, u = .slice A l.length cap ∧ Its w A l.length cap l := by
  obtain ⟨A, cap, rfl, _, _⟩ := own_shape h
  exact ⟨A, cap, rfl, agg_own cellsI_len (by decide) h fun _ _ => trivial⟩
end Go.Proofs.Ytfpagiojdgdbeaa
