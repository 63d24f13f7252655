import Derived.Test.YtlakblcabebjeaaLifeRunsWalk
import Derived.Deep.AppendLies
namespace Go.Proofs.Ytlakblcabebjeaa
open Go.RowKit

/-- Priority events put between. -/
def moreL (l : List (Int × Bool)) : List (Int × Bool) := l.flatMap fun x => [(4, x.2), x]
theorem more_snoc (l : List (Int × Bool)) (x : Int × Bool) : moreL (l ++ [x]) = moreL l ++ [(4, x.2), x] := by simp [moreL]
theorem more_cons (l : List (Int × Bool)) (x : Int × Bool) : moreL (x :: l) = (4, x.2) :: x :: moreL l := rfl
theorem more_len (l : List (Int × Bool)) : (moreL l).length = 2 * l.length := by
  induction l with
  | nil => rfl
  | cons x t ih => rw [more_cons, List.length_cons, List.length_cons, ih, List.length_cons]; omega
theorem run_cons (x : Int × Bool) (t : List (Int × Bool)) (s : Int) (i : Nat) : runL (x :: t) s i = if (stepL s x.1 x.2).2.1 = 0 then runL t (stepL s x.1 x.2).1 (i + 1) else ((stepL s x.1 x.2).1, (stepL s x.1 x.2).2, i) := rfl
theorem step_in {s : Int} (k : Int) (e : Bool) (h0 : 0 ≤ s) (h1 : s < 6) : 0 ≤ (stepL s k e).1 ∧ (stepL s k e).1 < 6 := by
  have := step_st k e h0
  omega
theorem run_end : ∀ (l : List (Int × Bool)) (s : Int) (j : Nat), ((runL l s j).2.1 = (0, false, false) ∧ (runL l s j).2.2 = j + l.length) ∨ ((runL l s j).2.1.1 ≠ 0 ∧ j ≤ (runL l s j).2.2 ∧ (runL l s j).2.2 < j + l.length)
  | [], s, j => .inl ⟨rfl, rfl⟩
  | x :: t, s, j => by
    rw [run_cons, List.length_cons]
    by_cases hc : (stepL s x.1 x.2).2.1 = 0
    · rw [if_pos hc]
      rcases run_end t (stepL s x.1 x.2).1 (j + 1) with ⟨h1, h2⟩ | ⟨h1, h2, h3⟩
      · exact .inl ⟨h1, by omega⟩
      · exact .inr ⟨h1, by omega, by omega⟩
    · rw [if_neg hc]
      exact .inr ⟨hc, Nat.le_refl _, by simp only; omega⟩
theorem run_more : ∀ (l : List (Int × Bool)) (s : Int) (i j : Nat), 0 ≤ s → s < 6 →
    (runL (moreL l) s i).1 = (runL l s j).1 ∧ (runL (moreL l) s i).2.1 = (runL l s j).2.1 ∧ ((runL l s j).2.1.1 ≠ 0 → (runL (moreL l) s i).2.2 + 2 * j = i + 2 * (runL l s j).2.2 + 1)
  | [], s, i, j, _, _ => ⟨rfl, rfl, fun h => absurd rfl h⟩
  | x :: t, s, i, j, h0, h1 => by
    rw [more_cons, run_cons (4, x.2)]
    simp only
    rw [step_4 x.2 (by omega)]
    simp only [if_true]
    rw [run_cons x, run_cons x]
    by_cases hc : (stepL s x.1 x.2).2.1 = 0
    · rw [if_pos hc, if_pos hc]
      obtain ⟨g0, g1⟩ := step_in x.1 x.2 h0 h1
      obtain ⟨r1, r2, r3⟩ := run_more t (stepL s x.1 x.2).1 (i + 1 + 1) (j + 1) g0 g1
      exact ⟨r1, r2, fun h => by have := r3 h; omega⟩
    · rw [if_neg hc, if_neg hc]
      exact ⟨rfl, rfl, fun _ => by simp only; omega⟩
theorem run_append : ∀ (l1 l2 : List (Int × Bool)) (s : Int) (j : Nat), runL (l1 ++ l2) s j = if (runL l1 s j).2.1.1 = 0 then runL l2 (runL l1 s j).1 (j + l1.length) else runL l1 s j
  | [], l2, s, j => by
    rw [List.nil_append]
    exact (if_pos rfl).symm
  | x :: t, l2, s, j => by
    rw [List.cons_append, run_cons, run_cons x t]
    by_cases hc : (stepL s x.1 x.2).2.1 = 0
    · rw [if_pos hc, if_pos hc, run_append t l2, List.length_cons, show j + 1 + t.length = j + (t.length + 1) by omega]
    · rw [if_neg hc, if_neg hc, if_neg hc]
theorem run_shift : ∀ (l : List (Int × Bool)) (s : Int) (j d : Nat), (runL l s (j + d)).1 = (runL l s j).1 ∧ (runL l s (j + d)).2.1 = (runL l s j).2.1 ∧ (runL l s (j + d)).2.2 = (runL l s j).2.2 + d
  | [], s, j, d => ⟨rfl, rfl, rfl⟩
  | x :: t, s, j, d => by
    rw [run_cons, run_cons]
    by_cases hc : (stepL s x.1 x.2).2.1 = 0
    · rw [if_pos hc, if_pos hc, show j + d + 1 = j + 1 + d by omega]
      exact run_shift t _ (j + 1) d
    · rw [if_neg hc, if_neg hc]
      exact ⟨rfl, rfl, rfl⟩
/-- What LifePriority asks. -/
theorem prio_plain (l : List (Int × Bool)) (s : Int) (k : Nat) (h0 : 0 ≤ s) (h1 : s < 6) (hk : k ≤ l.length) {a b c d : Int} {v w x y : Vd} {n m i j : Nat}
    (hA : runL l s 0 = (a, v, n)) (hB : runL (moreL l) s 0 = (b, w, m)) (hC : runL (l.take k) s 0 = (c, x, i)) (hD : runL (l.drop k) c 0 = (d, y, j)) :
    b = a ∧ w = v ∧ ((v = (0, false, false) ∧ n = l.length) ∨ (v.1 ≠ 0 ∧ n < l.length ∧ m = 2 * n + 1)) ∧
    ((n < k ∧ c = a ∧ x = v ∧ i = n) ∨ (k ≤ n ∧ x = (0, false, false) ∧ i = k ∧ d = a ∧ y = v ∧ j + k = n)) := by
  have r := run_more l s 0 0 h0 h1
  have e := run_end l s 0
  have ec := run_end (l.take k) s 0
  have ap := run_append (l.take k) (l.drop k) s 0
  rw [List.take_append_drop] at ap
  rw [hA] at r e ap
  rw [hB] at r
  rw [hC] at ec ap
  simp only [List.length_take, Nat.zero_add] at r e ec ap
  rw [Nat.min_eq_left hk] at ec ap
  obtain ⟨r1, r2, r3⟩ := r
  refine ⟨r1, r2, ?_, ?_⟩
  · rcases e with ⟨e1, e2⟩ | ⟨e1, e2, e3⟩
    · exact .inl ⟨e1, e2⟩
    · exact .inr ⟨e1, e3, by have := r3 e1; omega⟩
  · by_cases hx : x.1 = 0
    · rw [if_pos hx] at ap
      rcases ec with ⟨e1, e2⟩ | ⟨e1, _, _⟩
      · right
        have sh := run_shift (l.drop k) c 0 k
        rw [hD, Nat.zero_add, ← ap] at sh
        obtain ⟨s1, s2, s3⟩ := sh
        simp only at s1 s2 s3
        exact ⟨by omega, e1, e2, s1.symm, s2.symm, by omega⟩
      · exact absurd hx e1
    · rw [if_neg hx] at ap
      rcases ec with ⟨e1, _⟩ | ⟨e1, e2, e3⟩
      · exact absurd (by rw [e1]) hx
      · left
        injection ap with a1 a2
        injection a2 with a2 a3
        exact ⟨by omega, a1.symm, a2.symm, a3.symm⟩
/-! Slices of rows. -/
theorem agg_sliced {α : Type} {nf : Nat} {C : α → List Value} {G : α → Prop} {w : World} {A : Option Addr} {len cap : Nat} {xs : List α} (h : AggRow nf C G w A len cap xs) (lo hi : Nat) (h1 : lo ≤ hi) (h2 : hi ≤ len) :
    AggRow nf C G w (if cap = lo then A else A.map (·.add (lo * nf))) (hi - lo) (cap - lo) ((xs.take hi).drop lo) := by
  obtain ⟨g1, g2, g3, g4, g5, g6⟩ := h
  refine ⟨?_, by omega, by omega, ?_, ?_, ?_⟩
  · rw [List.length_drop, List.length_take]; omega
  · intro hn
    split at hn
    · have := g4 hn; omega
    · have : A = none := by cases A; rfl; cases hn
      have := g4 this; omega
  · intro i x hx
    have hi' : i < ((xs.take hi).drop lo).length := (List.getElem?_eq_some_iff.1 hx).1
    rw [List.length_drop, List.length_take] at hi'
    rw [List.getElem?_drop, List.getElem?_take_of_lt (by omega)] at hx
    obtain ⟨b, off, rfl, hlt, hc⟩ := g5 (lo + i) x hx
    refine ⟨b, off + lo * nf, ?_, hlt, fun j u hu => ?_⟩
    · rw [if_neg (by omega)]
      simp only [Option.map_some, Option.some.injEq]
      exact add_none _ _ _
    · have := hc j u hu
      rw [Nat.add_mul] at this
      rw [show off + lo * nf + i * nf + j = off + (lo * nf + i * nf) + j by omega]
      exact this
  · intro x hx
    exact g6 x (List.mem_of_mem_take (List.mem_of_mem_drop hx))
/-! Two rows of the call's own. -/
theorem Blk.at {w : World} {g : Nat} {t : TypeId} {cs : Array Value} (h : Blk w g t cs) {l : List Value} (hl : cs.toList = l) : ∀ j u, l[j]? = some u → w.cell? ((⟨g, 0, none⟩ : Addr).add j) = some u := by
  subst hl
  exact World.news_of_block h
theorem Blk.grown {w w' : World} {g : Nat} {t : TypeId} {cs : Array Value} {row : Option Nat} (h : Blk w g t cs) (hg : w.grownBy w' row) (hne : some g ≠ row) : Blk w' g t cs := (hg.block g h.lt hne).trans h
end Go.Proofs.Ytlakblcabebjeaa
