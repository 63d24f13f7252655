import Derived.Test.YtcgnoaaejaofiaaKit
import Derived.WalkSpells
import Derived.WalkLawsBesides
import Derived.Outline
import Derived.Deep.DeepFit
import Derived.Deep.RegionHeld3
import Derived.WalkSmall
namespace Go.Proofs.Ytcgnoaaejaofiaa
open Go.RowKit

/-- Does a number lie between two others? -/
def inB (n a b : Int) : Bool := decide (a ≤ n ∧ n ≤ b)
theorem inB_yes {n a b : Int} (h : a ≤ n ∧ n ≤ b) : inB n a b = true := decide_eq_true h
theorem inB_no {n a b : Int} (h : ¬ (a ≤ n ∧ n ≤ b)) : inB n a b = false := decide_eq_false h
theorem in_any (n a b : Int) (w : World) : Calls Try.prog 27 #[.int .i64 n, .int .i64 a, .int .i64 b] w fun e w' => e = .returned (.bool (inB n a b)) ∧ w = w' := by
  by_cases h1 : a ≤ n
  · go_enter Try.func27, Try.ntmps27
    go_wp2
    go_ret
    exact ⟨by simp [inB, h1], rfl⟩
  · rw [inB_no (by omega)]
    go_enter Try.func27, Try.ntmps27
    go_wp2
    go_ret
    exact ⟨rfl, rfl⟩

/-- A bucket. -/
structure Bk where
  burst : Int
  rate : Int
  per : Int
  level : Int
  now : Int
/-- Its value. -/
def Bk.cells (b : Bk) : Array Value := #[.int .i64 b.burst, .int .i64 b.rate, .int .i64 b.per, .int .i64 b.level, .int .i64 b.now]
def FullPost (w : World) (b : Bk) (e : Ending) (w' : World) : Prop := e = .returned (.int .i64 (b.burst * b.per)) ∧ Below w.heap.size w w'
theorem prod_le {a b : Int} (h1 : 1 ≤ a) (h2 : a ≤ 1000) (h3 : 1 ≤ b) (h4 : b ≤ 1000) : 1 ≤ a * b ∧ a * b ≤ 1000000 := by
  constructor
  · have := Int.mul_le_mul h1 h3 (by decide) (by omega)
    omega
  · have := Int.mul_le_mul h2 h4 (by omega) (by omega)
    omega
theorem full_any (b : Bk) (h1 : 1 ≤ b.burst) (h2 : b.burst ≤ 1000) (h3 : 1 ≤ b.per) (h4 : b.per ≤ 1000) (w : World) :
    Calls Try.prog 26 #[.agg #[.int .i64 b.burst, .int .i64 b.rate, .int .i64 b.per, .int .i64 b.level, .int .i64 b.now]] w (FullPost w b) := by
  obtain ⟨h5, h6⟩ := prod_le h1 h2 h3 h4
  go_enter Try.func26, Try.ntmps26
  go_wp2
  go_ret
  exact ⟨rfl, (Below.refl _ _).alloc (Nat.le_refl _) _⟩

/-- The five cells of a bucket lie in block g. -/
theorem keep5 {W w' : World} {g : Nat} {a b c d e : Value} (hb : Below W.heap.size W w')
    (h : W.cell? ⟨g, 0, none⟩ = some a ∧ W.cell? ⟨g, 1, none⟩ = some b ∧ W.cell? ⟨g, 2, none⟩ = some c ∧ W.cell? ⟨g, 3, none⟩ = some d ∧ W.cell? ⟨g, 4, none⟩ = some e ∧ g < W.heap.size) :
    w'.cell? ⟨g, 0, none⟩ = some a ∧ w'.cell? ⟨g, 1, none⟩ = some b ∧ w'.cell? ⟨g, 2, none⟩ = some c ∧ w'.cell? ⟨g, 3, none⟩ = some d ∧ w'.cell? ⟨g, 4, none⟩ = some e ∧ g < w'.heap.size :=
  ⟨(hb.cell (p := ⟨g, 0, none⟩) h.2.2.2.2.2).trans h.1, (hb.cell (p := ⟨g, 1, none⟩) h.2.2.2.2.2).trans h.2.1, (hb.cell (p := ⟨g, 2, none⟩) h.2.2.2.2.2).trans h.2.2.1, (hb.cell (p := ⟨g, 3, none⟩) h.2.2.2.2.2).trans h.2.2.2.1, (hb.cell (p := ⟨g, 4, none⟩) h.2.2.2.2.2).trans h.2.2.2.2.1, Nat.lt_of_lt_of_le h.2.2.2.2.2 hb.size⟩
end Go.Proofs.Ytcgnoaaejaofiaa
