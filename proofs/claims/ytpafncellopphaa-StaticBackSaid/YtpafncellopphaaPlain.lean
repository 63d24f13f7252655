import Derived.Test.YtpafncellopphaaFind
namespace Go.Proofs.Ytpafncellopphaa
open Go.RowKit

/-- What findL finds. -/
theorem findL_spec (n v : ByteArray) : ∀ (l : List (ByteArray × ByteArray)) (k nm : Nat),
    (∃ j : Nat, l[j]? = some (n, v) ∧ findL n v l k nm = (k + j + 1, true)) ∨
    ((∀ x ∈ l, x.1 = n → x.2 ≠ v) ∧ ((nm ≠ 0 ∧ findL n v l k nm = (nm, false)) ∨ (nm = 0 ∧ (∀ x ∈ l, x.1 ≠ n) ∧ findL n v l k nm = (0, false)) ∨
      (nm = 0 ∧ ∃ (j : Nat) (x : ByteArray × ByteArray), l[j]? = some x ∧ x.1 = n ∧ (∀ (j' : Nat) (x' : ByteArray × ByteArray), j' < j → l[j']? = some x' → x'.1 ≠ n) ∧ findL n v l k nm = (k + j + 1, false))))
  | [], k, nm => by
    right
    refine ⟨fun x hx => (nomatch hx), ?_⟩
    by_cases h : nm = 0
    · subst h
      exact .inr (.inl ⟨rfl, fun x hx => (nomatch hx), rfl⟩)
    · exact .inl ⟨h, rfl⟩
  | x :: t, k, nm => by
    obtain ⟨xn, xv⟩ := x
    simp only [findL]
    by_cases h1 : xn = n
    · subst h1
      rw [if_pos rfl]
      by_cases h2 : xv = v
      · subst h2
        rw [if_pos rfl]
        exact .inl ⟨0, rfl, rfl⟩
      · rw [if_neg h2]
        have hne : (if nm = 0 then k + 1 else nm) ≠ 0 := by split <;> omega
        rcases findL_spec xn v t (k + 1) (if nm = 0 then k + 1 else nm) with ⟨j, hj, he⟩ | ⟨hall, hr⟩
        · exact .inl ⟨j + 1, by simpa using hj, by rw [he]; simp; omega⟩
        · right
          refine ⟨fun y hy => ?_, ?_⟩
          · rcases List.mem_cons.1 hy with rfl | hy
            · exact fun _ => h2
            · exact hall y hy
          · rcases hr with ⟨_, he⟩ | ⟨h0, _⟩ | ⟨h0, _⟩
            · by_cases h3 : nm = 0
              · subst h3
                right; right
                exact ⟨rfl, 0, (xn, xv), rfl, rfl, fun j' _ h' => absurd h' (Nat.not_lt_zero _), by rw [he]; simp⟩
              · left
                exact ⟨h3, by rw [he, if_neg h3]⟩
            · exact absurd h0 hne
            · exact absurd h0 hne
    · rw [if_neg h1]
      rcases findL_spec n v t (k + 1) nm with ⟨j, hj, he⟩ | ⟨hall, hr⟩
      · exact .inl ⟨j + 1, by simpa using hj, by rw [he]; simp; omega⟩
      · right
        refine ⟨fun y hy => ?_, ?_⟩
        · rcases List.mem_cons.1 hy with rfl | hy
          · exact fun h => absurd h h1
          · exact hall y hy
        · rcases hr with ⟨h0, he⟩ | ⟨h0, hno, he⟩ | ⟨h0, j, x, hj, hx, hfst, he⟩
          · exact .inl ⟨h0, he⟩
          · refine .inr (.inl ⟨h0, fun y hy => ?_, he⟩)
            rcases List.mem_cons.1 hy with rfl | hy
            · exact h1
            · exact hno y hy
          · refine .inr (.inr ⟨h0, j + 1, x, by simpa using hj, hx, fun j' x' hlt hx' => ?_, by rw [he]; simp; omega⟩)
            cases j' with
            | zero => simp at hx'; subst hx'; exact h1
            | succ j'' => exact hfst j'' x' (by omega) (by simpa using hx')
theorem tab_some {j : Nat} {x : ByteArray × ByteArray} (h : tab[j]? = some x) : j < 61 ∧ tab.getD j nofield = x := by
  have hl := (List.getElem?_eq_some_iff.1 h).1
  rw [tab_len] at hl
  exact ⟨hl, by rw [List.getD, h]; rfl⟩
theorem tab_get {p : Nat} (h : p < 61) : tab[p]? = some (tab.getD p nofield) := by
  have hl : p < tab.length := by rw [tab_len]; exact h
  rw [List.getD, List.getElem?_eq_getElem hl]
  rfl
theorem back_plain {p : Nat} (hp : p < 61) (v : ByteArray) : ∃ (j : Nat) (b : Bool), j < 61 ∧ findT (tab.getD p nofield).1 v = (j + 1, b) ∧ (tab.getD j nofield).1 = (tab.getD p nofield).1 ∧
    ((b = true ∧ (tab.getD j nofield).2 = v) ∨ (b = false ∧ (tab.getD j nofield).2 ≠ v ∧ j ≤ p)) := by
  have hg := tab_get hp
  generalize tab.getD p nofield = f at hg
  rcases findL_spec f.1 v tab 0 0 with ⟨j, hj, he⟩ | ⟨hall, hr⟩
  · obtain ⟨hl, hd⟩ := tab_some hj
    refine ⟨j, true, hl, by unfold findT; rw [he]; simp, by rw [hd], .inl ⟨rfl, by rw [hd]⟩⟩
  · rcases hr with ⟨h0, _⟩ | ⟨_, hno, _⟩ | ⟨_, j, x, hj, hx, hfst, he⟩
    · exact absurd rfl h0
    · exact absurd rfl (hno f (List.mem_of_getElem? hg))
    · obtain ⟨hl, hd⟩ := tab_some hj
      refine ⟨j, false, hl, by unfold findT; rw [he]; simp, by rw [hd]; exact hx, .inr ⟨rfl, ?_, ?_⟩⟩
      · rw [hd]
        exact hall x (List.mem_of_getElem? hj) hx
      · rcases Nat.lt_or_ge p j with h | h
        · exact absurd rfl (hfst p f h hg)
        · exact h
set_option maxRecDepth 100000 in
theorem find_self (p : Nat) (hp : p < 61) : findT (tab.getD p nofield).1 (tab.getD p nofield).2 = (p + 1, true) := by
  have h : p = 0 ∨ p = 1 ∨ p = 2 ∨ p = 3 ∨ p = 4 ∨ p = 5 ∨ p = 6 ∨ p = 7 ∨ p = 8 ∨ p = 9 ∨ p = 10 ∨ p = 11 ∨ p = 12 ∨ p = 13 ∨ p = 14 ∨ p = 15 ∨ p = 16 ∨ p = 17 ∨ p = 18 ∨ p = 19 ∨ p = 20 ∨ p = 21 ∨ p = 22 ∨ p = 23 ∨ p = 24 ∨ p = 25 ∨ p = 26 ∨ p = 27 ∨ p = 28 ∨ p = 29 ∨ p = 30 ∨ p = 31 ∨ p = 32 ∨ p = 33 ∨ p = 34 ∨ p = 35 ∨ p = 36 ∨ p = 37 ∨ p = 38 ∨ p = 39 ∨ p = 40 ∨ p = 41 ∨ p = 42 ∨ p = 43 ∨ p = 44 ∨ p = 45 ∨ p = 46 ∨ p = 47 ∨ p = 48 ∨ p = 49 ∨ p = 50 ∨ p = 51 ∨ p = 52 ∨ p = 53 ∨ p = 54 ∨ p = 55 ∨ p = 56 ∨ p = 57 ∨ p = 58 ∨ p = 59 ∨ p = 60 := by omega
  rcases h with rfl | rfl | rfl | rfl | rfl | rfl | rfl | rfl | rfl | rfl | rfl | rfl | rfl | rfl | rfl | rfl | rfl | rfl | rfl | rfl | rfl | rfl | rfl | rfl | rfl | rfl | rfl | rfl | rfl | rfl | rfl | rfl | rfl | rfl | rfl | rfl | rfl | rfl | rfl | rfl | rfl | rfl | rfl | rfl | rfl | rfl | rfl | rfl | rfl | rfl | rfl | rfl | rfl | rfl | rfl | rfl | rfl | rfl | rfl | rfl | rfl
  all_goals (show _ = _; kernel_rfl)
set_option maxRecDepth 100000 in
theorem tab_cells (k : Nat) (hk : k < 61) : tabArr[3 * k]? = some (.string (tab.getD k nofield).1) ∧ tabArr[3 * k + 1]? = some (.string (tab.getD k nofield).2) ∧ tabArr[3 * k + 2]? = some (.bool false) := by
  have h : k = 0 ∨ k = 1 ∨ k = 2 ∨ k = 3 ∨ k = 4 ∨ k = 5 ∨ k = 6 ∨ k = 7 ∨ k = 8 ∨ k = 9 ∨ k = 10 ∨ k = 11 ∨ k = 12 ∨ k = 13 ∨ k = 14 ∨ k = 15 ∨ k = 16 ∨ k = 17 ∨ k = 18 ∨ k = 19 ∨ k = 20 ∨ k = 21 ∨ k = 22 ∨ k = 23 ∨ k = 24 ∨ k = 25 ∨ k = 26 ∨ k = 27 ∨ k = 28 ∨ k = 29 ∨ k = 30 ∨ k = 31 ∨ k = 32 ∨ k = 33 ∨ k = 34 ∨ k = 35 ∨ k = 36 ∨ k = 37 ∨ k = 38 ∨ k = 39 ∨ k = 40 ∨ k = 41 ∨ k = 42 ∨ k = 43 ∨ k = 44 ∨ k = 45 ∨ k = 46 ∨ k = 47 ∨ k = 48 ∨ k = 49 ∨ k = 50 ∨ k = 51 ∨ k = 52 ∨ k = 53 ∨ k = 54 ∨ k = 55 ∨ k = 56 ∨ k = 57 ∨ k = 58 ∨ k = 59 ∨ k = 60 := by omega
  rcases h with rfl | rfl | rfl | rfl | rfl | rfl | rfl | rfl | rfl | rfl | rfl | rfl | rfl | rfl | rfl | rfl | rfl | rfl | rfl | rfl | rfl | rfl | rfl | rfl | rfl | rfl | rfl | rfl | rfl | rfl | rfl | rfl | rfl | rfl | rfl | rfl | rfl | rfl | rfl | rfl | rfl | rfl | rfl | rfl | rfl | rfl | rfl | rfl | rfl | rfl | rfl | rfl | rfl | rfl | rfl | rfl | rfl | rfl | rfl | rfl | rfl
  all_goals
    refine ⟨?_, ?_, ?_⟩ <;> (show _ = _; kernel_rfl)
end Go.Proofs.Ytpafncellopphaa
