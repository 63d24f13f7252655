import Derived.Test.YtcgnoaaejaofiaaNew
namespace Go.Proofs.Ytcgnoaaejaofiaa
open Go.RowKit

/-- How many whole tokens there are. -/
noncomputable def hasB (b : Bk) : Int := if b.err = 0 then b.level / b.per else 0
set_option maxHeartbeats 1600000 in
theorem has_any (b : Bk) (w : World) :
    Calls Try.prog 16 #[.agg #[.int .i64 b.burst, .int .i64 b.rate, .int .i64 b.per, .int .i64 b.level, .int .i64 b.now]] w (IntPost w (hasB b)) := by
  have hC := check_any b
  rcases err_cases b with ⟨hok, he⟩ | ⟨hok, he⟩
  · have e : hasB b = b.level / b.per := if_pos he
    rw [e]
    rw [he] at hC
    have HC := Lib.hid hC
    have q1 := hok.1.2.2.1
    have q2 := hok.2.1.1
    have q3 := (prod_le hok.1.1.1 hok.1.1.2 hok.1.2.2.1 hok.1.2.2.2).2
    have q4 := hok.2.1.2
    have hq0 : 0 ≤ b.level / b.per := Int.ediv_nonneg q2 (by omega)
    have hq1 : b.level / b.per ≤ b.level := Int.ediv_le_self _ q2
    have q5 : b.level ≤ 1000000 := by omega
    clear q3 q4
    clear hC he hok e
    go_enter Try.func16, Try.ntmps16
    go_wp2_with fail
    refine (HC.out _).mono ?_
    rintro e w1 ⟨rfl, hb1⟩
    have hA := (Blk.new w 26 #[.int .i64 b.burst, .int .i64 b.rate, .int .i64 b.per, .int .i64 b.level, .int .i64 b.now]).lo hb1
    have hL := Lib.hid (lo_trans (lo_alloc (lo_refl w) _) hb1)
    obtain ⟨cA, fA⟩ := hA.facts
    clear hA hb1
    go_wp2_with fail
    go_ret
    exact ⟨by simp, hL.out⟩
  · have e : hasB b = 0 := if_neg (by rw [he]; decide)
    rw [e]
    rw [he] at hC
    have HC := Lib.hid hC
    clear hC he hok e
    go_enter Try.func16, Try.ntmps16
    go_wp2_with fail
    refine (HC.out _).mono ?_
    rintro e w1 ⟨rfl, hb1⟩
    have hL := Lib.hid (lo_trans (lo_alloc (lo_refl w) _) hb1)
    clear hb1
    go_wp2_with fail
    go_ret
    exact ⟨rfl, hL.out⟩
end Go.Proofs.Ytcgnoaaejaofiaa
namespace Go.Proofs.Ytcgnoaaejaofiaa
open Go.RowKit
/-! Five cells stored one behind the other. -/
section
variable {w w' : World} {g k : Nat} {t : TypeId} {cs : Array Value}
theorem put5 {x0 x1 x2 x3 x4 : Value} (h : Blk w g t #[x0, x1, x2, x3, x4]) (a b c d e : Value) :
    Blk (((((w.setCell ⟨g, 0, none⟩ a).setCell ⟨g, 1, none⟩ b).setCell ⟨g, 2, none⟩ c).setCell ⟨g, 3, none⟩ d).setCell ⟨g, 4, none⟩ e) g t #[a, b, c, d, e] := by
  simpa using ((((h.set_ 0 a).set_ 1 b).set_ 2 c).set_ 3 d).set_ 4 e
theorem far5 (h : Blk w g t cs) (hk : g ≠ k) (a b c d e : Value) :
    Blk (((((w.setCell ⟨k, 0, none⟩ a).setCell ⟨k, 1, none⟩ b).setCell ⟨k, 2, none⟩ c).setCell ⟨k, 3, none⟩ d).setCell ⟨k, 4, none⟩ e) g t cs :=
  ((((h.far (p := ⟨k, 0, none⟩) hk a).far (p := ⟨k, 1, none⟩) hk b).far (p := ⟨k, 2, none⟩) hk c).far (p := ⟨k, 3, none⟩) hk d).far (p := ⟨k, 4, none⟩) hk e
theorem lo5 (h : Below w.heap.size w w') (hk : w.heap.size ≤ k) (a b c d e : Value) :
    Below w.heap.size w (((((w'.setCell ⟨k, 0, none⟩ a).setCell ⟨k, 1, none⟩ b).setCell ⟨k, 2, none⟩ c).setCell ⟨k, 3, none⟩ d).setCell ⟨k, 4, none⟩ e) :=
  lo_set (lo_set (lo_set (lo_set (lo_set h hk a) hk b) hk c) hk d) hk e
end
end Go.Proofs.Ytcgnoaaejaofiaa
