import Derived.Test.YtfpagiojdgdbeaaKit
import Derived.WalkSpells
import Derived.WalkLawsBesides
import Derived.Deep.DeepFit
import Derived.Deep.RegionHeld3
import Derived.Deep.RegionHeld
import Derived.WalkSmall
import Derived.WalkMore
import Derived.ScopeJumps
import Derived.Deep.RegionWith
import Derived.Deep.QuietTactic
import Derived.BigQuiet
import Derived.Deep.DrawnRows
import Derived.Deep.DeepCutAuto
import Derived.Deep.AppendLies
import Derived.Outline
namespace Go.Proofs.Ytfpagiojdgdbeaa
open Go.RowKit
attribute [local go_sem ↓] Go.wp_at_zero Go.wp_at_succ

theorem getop {l : List Oper} {i : Nat} {o : Oper} (h : l[i]? = some o) : l.toArray[i]? = some o := by simpa using h
def BoolPost (w : World) (b : Bool) (e : Ending) (w' : World) : Prop := e = .returned (.bool b) ∧ Below w.heap.size w w'
def BoolSame (w : World) (b : Bool) (e : Ending) (w' : World) : Prop := e = .returned (.bool b) ∧ w = w'
def IntPost (w : World) (n : Int) (e : Ending) (w' : World) : Prop := e = .returned (.int .i64 n) ∧ Below w.heap.size w w'
/-- Does a number lie between two others? -/
def inB (n a b : Int) : Bool := decide (a ≤ n ∧ n ≤ b)
theorem inB_yes {n a b : Int} (h : a ≤ n ∧ n ≤ b) : inB n a b = true := decide_eq_true h
theorem inB_no {n a b : Int} (h : ¬ (a ≤ n ∧ n ≤ b)) : inB n a b = false := decide_eq_false h
theorem in_fair (n a b : Int) (w : World) : Calls Try.prog 13 #[.int .i64 n, .int .i64 a, .int .i64 b] w (BoolSame w (inB n a b)) := by
  by_cases h1 : a ≤ n
  · go_enter Try.func13, Try.ntmps13
    go_wp2
    go_ret
    exact ⟨by simp [inB, h1], rfl⟩
  · rw [inB_no (by omega)]
    go_enter Try.func13, Try.ntmps13
    go_wp2
    go_ret
    exact ⟨rfl, rfl⟩
theorem in_aging (n a b : Int) (w : World) : Calls Try.prog 27 #[.int .i64 n, .int .i64 a, .int .i64 b] w (BoolSame w (inB n a b)) := by
  by_cases h1 : a ≤ n
  · go_enter Try.func27, Try.ntmps27
    go_wp2
    go_ret
    exact ⟨by simp [inB, h1], rfl⟩
  · rw [inB_no (by omega)]
    go_enter Try.func27, Try.ntmps27
    go_wp2
    go_ret
    exact ⟨rfl, rfl⟩
theorem in_server (n a b : Int) (w : World) : Calls Try.prog 24 #[.int .i64 n, .int .i64 a, .int .i64 b] w (BoolSame w (inB n a b)) := by
  by_cases h1 : a ≤ n
  · go_enter Try.func24, Try.ntmps24
    go_wp2
    go_ret
    exact ⟨by simp [inB, h1], rfl⟩
  · rw [inB_no (by omega)]
    go_enter Try.func24, Try.ntmps24
    go_wp2
    go_ret
    exact ⟨rfl, rfl⟩
theorem in_tags (n b : Int) (w : World) : Calls Try.prog 40 #[.int .i64 n, .int .i64 b] w (BoolSame w (inB n 0 b)) := by
  by_cases h1 : 0 ≤ n
  · go_enter Try.func40, Try.ntmps40
    go_wp2
    go_ret
    exact ⟨by simp [inB, h1], rfl⟩
  · rw [inB_no (by omega)]
    go_enter Try.func40, Try.ntmps40
    go_wp2
    go_ret
    exact ⟨rfl, rfl⟩
theorem weight_any (n : Int) (w : World) : Calls Try.prog 26 #[.int .i64 n] w (BoolSame w (inB n 1 16)) := by
  by_cases h1 : 0 < n
  · go_enter Try.func26, Try.ntmps26
    go_wp2
    go_ret
    have h2 : 1 ≤ n := by omega
    exact ⟨by simp [inB, h2], rfl⟩
  · rw [inB_no (by omega)]
    go_enter Try.func26, Try.ntmps26
    go_wp2
    go_ret
    exact ⟨rfl, rfl⟩
/-- Is an item less than another one? -/
def lessP (a b : Int × Int) : Prop := a.1 < b.1 ∨ (a.1 = b.1 ∧ a.2 < b.2)
instance (a b : Int × Int) : Decidable (lessP a b) := inferInstanceAs (Decidable (_ ∨ _))
theorem less_any (a b : Int × Int) (w : World) : Calls Try.prog 61 #[.agg #[.int .i64 a.1, .int .i64 a.2], .agg #[.int .i64 b.1, .int .i64 b.2]] w (BoolPost w (decide (lessP a b))) := by
  obtain ⟨a1, a2⟩ := a
  obtain ⟨b1, b2⟩ := b
  have hl := lo_alloc (lo_alloc (lo_refl w) (.cells #[.int .i64 a1, .int .i64 a2] 64)) (.cells #[.int .i64 b1, .int .i64 b2] 64)
  by_cases h1 : a1 < b1
  · rw [decide_eq_true (show lessP (a1, a2) (b1, b2) from .inl h1)]
    go_enter Try.func61, Try.ntmps61
    go_wp2
    go_ret
    exact ⟨rfl, hl⟩
  · by_cases h2 : a1 = b1
    · subst h2
      have h3 : decide (lessP (a1, a2) (a1, b2)) = decide (a2 < b2) := by simp [lessP]
      rw [h3]
      go_enter Try.func61, Try.ntmps61
      go_wp2
      go_ret
      exact ⟨rfl, hl⟩
    · rw [decide_eq_false (show ¬ lessP (a1, a2) (b1, b2) from fun h => h.elim h1 fun h => h2 h.1)]
      go_enter Try.func61, Try.ntmps61
      go_wp2
      go_ret
      exact ⟨rfl, hl⟩
theorem busy_any (g : Nat) (A : Option Addr) (n cap : Nat) (w : World) (hc : w.cell? ⟨g, 6, none⟩ = some (.slice A n cap)) (hg : g < w.heap.size) : Calls Try.prog 19 #[.pointer (some ⟨g, 0, none⟩)] w (BoolSame w (decide (0 < n))) := by
  go_enter Try.func19, Try.ntmps19
  go_wp2
  go_ret
  exact ⟨by simp, rfl⟩
/-- A request. -/
structure Rq where
  id : Int
  rank : Int
  left : Int
  passed : Int
def Rq.right (x : Rq) : Prop := (1 ≤ x.id ∧ x.id ≤ 2147483647) ∧ (0 ≤ x.rank ∧ x.rank ≤ 7) ∧ (1 ≤ x.left ∧ x.left ≤ 1099511627776) ∧ (0 ≤ x.passed ∧ x.passed ≤ 2000)
instance (x : Rq) : Decidable x.right := inferInstanceAs (Decidable (_ ∧ _))
set_option maxHeartbeats 1600000 in
theorem right_any (x : Rq) (w : World) : Calls Try.prog 37 #[.agg #[.int .i64 x.id, .int .i64 x.rank, .int .i64 x.left, .int .i64 x.passed]] w (BoolPost w (decide x.right)) := by
  have hl := Lib.hid (lo_alloc (lo_refl w) (.cells #[.int .i64 x.id, .int .i64 x.rank, .int .i64 x.left, .int .i64 x.passed] 68))
  have H1 : Hid (∀ w0, Calls Try.prog 27 #[.int .i64 x.id, .int .i64 1, .int .i64 2147483647] w0 (BoolSame w0 (inB x.id 1 2147483647))) := in_aging _ _ _
  have H2 : Hid (∀ w0, Calls Try.prog 27 #[.int .i64 x.rank, .int .i64 0, .int .i64 7] w0 (BoolSame w0 (inB x.rank 0 7))) := in_aging _ _ _
  have H3 : Hid (∀ w0, Calls Try.prog 27 #[.int .i64 x.left, .int .i64 1, .int .i64 1099511627776] w0 (BoolSame w0 (inB x.left 1 1099511627776))) := in_aging _ _ _
  have H4 : Hid (∀ w0, Calls Try.prog 27 #[.int .i64 x.passed, .int .i64 0, .int .i64 2000] w0 (BoolSame w0 (inB x.passed 0 2000))) := in_aging _ _ _
  have hd : decide x.right = (inB x.id 1 2147483647 && (inB x.rank 0 7 && (inB x.left 1 1099511627776 && inB x.passed 0 2000))) := by
    rw [Bool.eq_iff_iff, decide_eq_true_iff]
    simp [Rq.right, inB]
  rw [hd]
  generalize inB x.id 1 2147483647 = p1 at H1
  generalize inB x.rank 0 7 = p2 at H2
  generalize inB x.left 1 1099511627776 = p3 at H3
  generalize inB x.passed 0 2000 = p4 at H4
  clear hd
  cases p1
  · go_enter Try.func37, Try.ntmps37
    go_wp2_with fail
    refine (H1.out _).mono ?_
    rintro e w1 ⟨rfl, rfl⟩
    go_wp2_with fail
    go_ret
    exact ⟨rfl, hl.out⟩
  cases p2
  · go_enter Try.func37, Try.ntmps37
    go_wp2_with fail
    refine (H1.out _).mono ?_
    rintro e w1 ⟨rfl, rfl⟩
    go_wp2_with fail
    refine (H2.out _).mono ?_
    rintro e w1 ⟨rfl, rfl⟩
    go_wp2_with fail
    go_ret
    exact ⟨rfl, hl.out⟩
  cases p3
  · go_enter Try.func37, Try.ntmps37
    go_wp2_with fail
    refine (H1.out _).mono ?_
    rintro e w1 ⟨rfl, rfl⟩
    go_wp2_with fail
    refine (H2.out _).mono ?_
    rintro e w1 ⟨rfl, rfl⟩
    go_wp2_with fail
    refine (H3.out _).mono ?_
    rintro e w1 ⟨rfl, rfl⟩
    go_wp2_with fail
    go_ret
    exact ⟨rfl, hl.out⟩
  go_enter Try.func37, Try.ntmps37
  go_wp2_with fail
  refine (H1.out _).mono ?_
  rintro e w1 ⟨rfl, rfl⟩
  go_wp2_with fail
  refine (H2.out _).mono ?_
  rintro e w1 ⟨rfl, rfl⟩
  go_wp2_with fail
  refine (H3.out _).mono ?_
  rintro e w1 ⟨rfl, rfl⟩
  go_wp2_with fail
  refine (H4.out _).mono ?_
  rintro e w1 ⟨rfl, rfl⟩
  go_wp2_with fail
  go_ret
  exact ⟨rfl, hl.out⟩
theorem wrong_any (x : Rq) (w : World) : Calls Try.prog 55 #[.agg #[.int .i64 x.id, .int .i64 x.rank, .int .i64 x.left, .int .i64 x.passed]] w (BoolPost w (!decide x.right)) := by
  have h := right_any x
  generalize decide x.right = b at h
  have H := Lib.hid h
  clear h
  have hl := lo_alloc (lo_refl w) (.cells #[.int .i64 x.id, .int .i64 x.rank, .int .i64 x.left, .int .i64 x.passed] 68)
  go_enter Try.func55, Try.ntmps55
  go_wp2_with fail
  refine (H.out _).mono ?_
  rintro e w1 ⟨rfl, hb⟩
  have hM := Lib.hid (lo_trans hl hb)
  clear hb
  go_wp2_with fail
  go_ret
  exact ⟨rfl, hM.out⟩
theorem same_any (x : Rq) (g : Nat) (id : Int) (w : World) (hc : w.cell? ⟨g, 0, none⟩ = some (.int .i64 id)) (hg : g < w.heap.size) : Calls Try.prog 56 #[.agg #[.int .i64 x.id, .int .i64 x.rank, .int .i64 x.left, .int .i64 x.passed], .pointer (some ⟨g, 0, none⟩)] w (BoolPost w (x.id == id)) := by
  have hl := lo_alloc (lo_refl w) (.cells #[.int .i64 x.id, .int .i64 x.rank, .int .i64 x.left, .int .i64 x.passed] 68)
  go_enter Try.func56, Try.ntmps56
  go_wp2_with fail
  go_ret
  exact ⟨by simp, hl⟩
theorem old_any (x : Rq) (g : Nat) (lim : Int) (w : World) (hc : w.cell? ⟨g, 0, none⟩ = some (.int .i64 lim)) (hg : g < w.heap.size) : Calls Try.prog 49 #[.agg #[.int .i64 x.id, .int .i64 x.rank, .int .i64 x.left, .int .i64 x.passed], .pointer (some ⟨g, 0, none⟩)] w (BoolPost w (decide (lim ≤ x.passed))) := by
  have hl := lo_alloc (lo_refl w) (.cells #[.int .i64 x.id, .int .i64 x.rank, .int .i64 x.left, .int .i64 x.passed] 68)
  go_enter Try.func49, Try.ntmps49
  go_wp2_with fail
  go_ret
  exact ⟨by simp, hl⟩
theorem ranks_any (x y : Rq) (hx : x.right) (hy : y.right) (w : World) : Calls Try.prog 52 #[.agg #[.int .i64 x.id, .int .i64 x.rank, .int .i64 x.left, .int .i64 x.passed], .agg #[.int .i64 y.id, .int .i64 y.rank, .int .i64 y.left, .int .i64 y.passed]] w (IntPost w (x.rank - y.rank)) := by
  have hl := lo_alloc (lo_alloc (lo_refl w) (.cells #[.int .i64 x.id, .int .i64 x.rank, .int .i64 x.left, .int .i64 x.passed] 68)) (.cells #[.int .i64 y.id, .int .i64 y.rank, .int .i64 y.left, .int .i64 y.passed] 68)
  have h1 := hx.2.1
  have h2 := hy.2.1
  have hw : IntKind.i64.wrap (x.rank - y.rank) = x.rank - y.rank := IntWalk.i64_in _ (by omega)
  clear h1 h2 hx hy
  go_enter Try.func52, Try.ntmps52
  go_wp2_with fail
  go_ret
  exact ⟨by simp [hw], hl⟩
end Go.Proofs.Ytfpagiojdgdbeaa
