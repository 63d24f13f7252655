import Derived.Test.YtfpagiojdgdbeaaDel
namespace Go.Proofs.Ytfpagiojdgdbeaa
open Go.RowKit
attribute [local go_sem ↓] Go.wp_at_zero Go.wp_at_succ

/-- One that was passed. -/
def bump (x : Rq) : Rq := ⟨x.id, x.rank, x.left, if 2000 < x.passed + 1 then 2000 else x.passed + 1⟩
/-- The first k are passed. -/
def bumpL (l : List Rq) (k : Nat) : List Rq := l.mapIdx fun i x => if i < k then bump x else x
@[simp] theorem bump_len (l : List Rq) (k : Nat) : (bumpL l k).length = l.length := by simp [bumpL]
theorem bump_get (l : List Rq) (k i : Nat) (h : i < l.length) : (bumpL l k)[i]'(by rw [bump_len]; exact h) = if i < k then bump l[i] else l[i] := by simp [bumpL]
theorem bump_zero (l : List Rq) : bumpL l 0 = l := by
  apply List.ext_getElem (by simp)
  intro i h1 h2
  rw [bump_get l 0 i h2, if_neg (by omega)]
theorem bump_succ (l : List Rq) (k : Nat) (h : k < l.length) : bumpL l (k + 1) = (bumpL l k).set k (bump l[k]) := by
  apply List.ext_getElem (by simp)
  intro i h1 h2
  have hi : i < l.length := by simpa using h1
  rw [bump_get l (k + 1) i hi, List.getElem_set]
  by_cases hk : k = i
  · subst hk
    rw [if_pos (by omega), if_pos rfl]
  · rw [if_neg hk, bump_get l k i hi]
    by_cases h3 : i < k
    · rw [if_pos h3, if_pos (by omega)]
    · rw [if_neg h3, if_neg (by omega)]
theorem flat_set (l : List Rq) (i j : Nat) (h : i < l.length) (hj : j < 4) (y : Rq) (v : Value) (hy : cellsR y = (cellsR l[i]).set j v) : (l.flatMap cellsR).set (i * 4 + j) v = (l.set i y).flatMap cellsR := by
  induction l generalizing i with
  | nil => simp at h
  | cons x t ih =>
    cases i with
    | zero =>
      simp only [List.set_cons_zero, List.flatMap_cons, List.getElem_cons_zero] at hy ⊢
      rw [Nat.zero_mul, Nat.zero_add, List.set_append_left _ _ (by rw [cellsR_len]; exact hj), hy]
    | succ i =>
      simp only [List.set_cons_succ, List.flatMap_cons, List.getElem_cons_succ] at hy ⊢
      rw [List.set_append_right _ _ (by rw [cellsR_len]; omega), cellsR_len, show (i + 1) * 4 + j - 4 = i * 4 + j by omega, ih i (by simpa using h) hy]
/-- What a slice of work makes of a request. -/
def cutR (x : Rq) (q : Int) : Rq := ⟨x.id, x.rank, x.left - min x.left q, x.passed⟩
/-- What a slice of work, for the k-th one, makes of a row. -/
def serveL (l : List Rq) (k : Nat) (q : Int) : List Rq :=
  if h : k < l.length then (if (cutR l[k] q).left = 0 then ((bumpL l k).set k (cutR l[k] q)).eraseIdx k else (bumpL l k).set k (cutR l[k] q)) else l
def AServePost (w : World) (lim : Int) (l : List Rq) (q : Int) (e : Ending) (w' : World) : Prop :=
  (∃ k, NextOk lim l k ∧ ∃ h : k < l.length, ∃ base u, w.heap.size ≤ base ∧ base ≤ w'.heap.size ∧ e = .returned (.tuple #[.agg #[.int .i64 lim, u], .agg #[.int .i64 (cutR l[k] q).id, .int .i64 (cutR l[k] q).rank, .int .i64 (cutR l[k] q).left, .int .i64 (cutR l[k] q).passed], .int .i64 (min l[k].left q)]) ∧ w'.ownsRow base 68 4 u (serveL l k q).length ((serveL l k q).flatMap cellsR)) ∧ Below w.heap.size w w'
end Go.Proofs.Ytfpagiojdgdbeaa
