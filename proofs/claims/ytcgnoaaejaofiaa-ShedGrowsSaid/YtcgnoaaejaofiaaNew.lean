import Derived.Test.YtcgnoaaejaofiaaCheck
namespace Go.Proofs.Ytcgnoaaejaofiaa
open Go.RowKit

/-- What New makes. -/
noncomputable def newB (burst rate per : Int) : Bk := if (Bk.mk burst rate per 0 0).err = 0 then ⟨burst, rate, per, burst * per, 0⟩ else ⟨0, 0, 0, 0, 0⟩
def NewPost (w : World) (b : Bk) (n : Int) (e : Ending) (w' : World) : Prop :=
  e = .returned (.tuple #[.agg #[.int .i64 b.burst, .int .i64 b.rate, .int .i64 b.per, .int .i64 b.level, .int .i64 b.now], .int .i64 n]) ∧ Below w.heap.size w w'
theorem err_cases (b : Bk) : (b.ok ∧ b.err = 0) ∨ (¬ b.ok ∧ b.err = 8) := by
  by_cases h : b.ok
  · exact .inl ⟨h, if_pos h⟩
  · exact .inr ⟨h, if_neg h⟩
set_option maxHeartbeats 1600000 in
theorem new_any (burst rate per : Int) (w : World) : Calls Try.prog 25 #[.int .i64 burst, .int .i64 rate, .int .i64 per] w (NewPost w (newB burst rate per) (Bk.mk burst rate per 0 0).err) := by
  have hC := check_any ⟨burst, rate, per, 0, 0⟩
  rcases err_cases ⟨burst, rate, per, 0, 0⟩ with ⟨hok, he⟩ | ⟨hok, he⟩
  · have hn : newB burst rate per = ⟨burst, rate, per, burst * per, 0⟩ := if_pos he
    rw [hn, he]
    rw [he] at hC
    have HC := Lib.hid hC
    have HF := Lib.hid (full_any ⟨burst, rate, per, 0, 0⟩ hok.1.1.1 hok.1.1.2 hok.1.2.2.1 hok.1.2.2.2)
    clear hC hok he hn
    go_enter Try.func25, Try.ntmps25
    go_wp2_with fail
    refine (HC.out _).mono ?_
    rintro e w1 ⟨rfl, hb1⟩
    have hA := ((Blk.new w 26 #[.int .i64 0, .int .i64 0, .int .i64 0, .int .i64 0, .int .i64 0]).alloc (.cells #[.int .i64 burst, .int .i64 rate, .int .i64 per, .int .i64 0, .int .i64 0] 26)).lo hb1
    have hB := (Blk.new (w.alloc (.cells #[.int .i64 0, .int .i64 0, .int .i64 0, .int .i64 0, .int .i64 0] 26)) 26 #[.int .i64 burst, .int .i64 rate, .int .i64 per, .int .i64 0, .int .i64 0]).lo hb1
    simp only [World.size_alloc] at hB
    have hL := lo_trans (lo_alloc (lo_alloc (lo_refl w) _) _) hb1
    clear hb1
    obtain ⟨cB, fB⟩ := hB.facts
    go_wp2_with fail
    clear cB fB
    refine (HF.out _).mono ?_
    rintro e w2 ⟨rfl, hb2⟩
    obtain ⟨cA, fA⟩ := (hA.lo hb2).facts
    obtain ⟨cB, fB⟩ := (hB.lo hb2).facts
    have hL2 := Lib.hid (lo_trans hL hb2)
    clear hL hb2 hA hB
    go_wp2_with fail
    refine bodyPost_ret (v := .tuple #[.agg #[.int .i64 burst, .int .i64 rate, .int .i64 per, .int .i64 (burst * per), .int .i64 0], .int .i64 0]) (by simp [results, Try.results25, go_sem, cA]) rfl ⟨rfl, ?_⟩
    have hl := hL2.out
    repeat' (first | with_reducible exact hl | with_reducible apply lo_set | simp)
  · have hn : newB burst rate per = ⟨0, 0, 0, 0, 0⟩ := if_neg (by rw [he]; decide)
    rw [hn, he]
    rw [he] at hC
    have HC := Lib.hid hC
    clear hC hok he hn
    go_enter Try.func25, Try.ntmps25
    go_wp2_with fail
    refine (HC.out _).mono ?_
    rintro e w1 ⟨rfl, hb1⟩
    have hA := ((Blk.new w 26 #[.int .i64 0, .int .i64 0, .int .i64 0, .int .i64 0, .int .i64 0]).alloc (.cells #[.int .i64 burst, .int .i64 rate, .int .i64 per, .int .i64 0, .int .i64 0] 26)).lo hb1
    have hL := lo_trans (lo_alloc (lo_alloc (lo_refl w) _) _) hb1
    clear hb1
    obtain ⟨cA, fA⟩ := hA.facts
    have hL2 := Lib.hid hL
    clear hL hA
    go_wp2_with fail
    refine bodyPost_ret (v := .tuple #[.agg #[.int .i64 0, .int .i64 0, .int .i64 0, .int .i64 0, .int .i64 0], .int .i64 8]) (by simp [results, Try.results25, go_sem, cA]) rfl ⟨rfl, ?_⟩
    have hl := hL2.out
    repeat' (first | with_reducible exact hl | with_reducible apply lo_set | simp)

/-! The document's answer. -/
set_option maxHeartbeats 1600000 in
theorem check_ref (b : Bk) (w : World) :
    Calls Try.prog 32 #[.agg #[.int .i64 b.burst, .int .i64 b.rate, .int .i64 b.per, .int .i64 b.level, .int .i64 b.now]] w (IntPost w b.err) := by
  by_cases c0 : b.burst < 1
  · have he : b.err = 8 := if_neg fun h => by have := h.1.1.1; omega
    rw [he]
    clear he
    go_enter Try.func32, Try.ntmps32
    go_wp2
    go_ret
    exact ⟨rfl, lo_alloc (lo_refl w) _⟩
  have d0 : 1 ≤ b.burst := by omega
  clear c0
  by_cases c1 : 1000 < b.burst
  · have he : b.err = 8 := if_neg fun h => by have := h.1.1.2; omega
    rw [he]
    clear he
    go_enter Try.func32, Try.ntmps32
    go_wp2
    go_ret
    exact ⟨rfl, lo_alloc (lo_refl w) _⟩
  have d1 : b.burst ≤ 1000 := by omega
  clear c1
  by_cases c2 : b.rate < 0
  · have he : b.err = 8 := if_neg fun h => by have := h.1.2.1.1; omega
    rw [he]
    clear he
    go_enter Try.func32, Try.ntmps32
    go_wp2
    go_ret
    exact ⟨rfl, lo_alloc (lo_refl w) _⟩
  have d2 : 0 ≤ b.rate := by omega
  clear c2
  by_cases c3 : 1000 < b.rate
  · have he : b.err = 8 := if_neg fun h => by have := h.1.2.1.2; omega
    rw [he]
    clear he
    go_enter Try.func32, Try.ntmps32
    go_wp2
    go_ret
    exact ⟨rfl, lo_alloc (lo_refl w) _⟩
  have d3 : b.rate ≤ 1000 := by omega
  clear c3
  by_cases c4 : b.per < 1
  · have he : b.err = 8 := if_neg fun h => by have := h.1.2.2.1; omega
    rw [he]
    clear he
    go_enter Try.func32, Try.ntmps32
    go_wp2
    go_ret
    exact ⟨rfl, lo_alloc (lo_refl w) _⟩
  have d4 : 1 ≤ b.per := by omega
  clear c4
  by_cases c5 : 1000 < b.per
  · have he : b.err = 8 := if_neg fun h => by have := h.1.2.2.2; omega
    rw [he]
    clear he
    go_enter Try.func32, Try.ntmps32
    go_wp2
    go_ret
    exact ⟨rfl, lo_alloc (lo_refl w) _⟩
  have d5 : b.per ≤ 1000 := by omega
  clear c5
  obtain ⟨p1, p2⟩ := prod_le d0 d1 d4 d5
  by_cases c6 : b.level < 0
  · have he : b.err = 8 := if_neg fun h => by have := h.2.1.1; omega
    rw [he]
    clear he
    go_enter Try.func32, Try.ntmps32
    go_wp2
    go_ret
    exact ⟨rfl, lo_alloc (lo_refl w) _⟩
  have d6 : 0 ≤ b.level := by omega
  clear c6
  by_cases c7 : b.burst * b.per < b.level
  · have he : b.err = 8 := if_neg fun h => by have := h.2.1.2; omega
    rw [he]
    clear he
    go_enter Try.func32, Try.ntmps32
    go_wp2
    go_ret
    exact ⟨rfl, lo_alloc (lo_refl w) _⟩
  have d7 : b.level ≤ b.burst * b.per := by omega
  clear c7
  by_cases c8 : b.now < 0
  · have he : b.err = 8 := if_neg fun h => by have := h.2.2.1; omega
    rw [he]
    clear he
    go_enter Try.func32, Try.ntmps32
    go_wp2
    go_ret
    exact ⟨rfl, lo_alloc (lo_refl w) _⟩
  have d8 : 0 ≤ b.now := by omega
  clear c8
  by_cases c9 : 1099511627776 < b.now
  · have he : b.err = 8 := if_neg fun h => by have := h.2.2.2; omega
    rw [he]
    clear he
    go_enter Try.func32, Try.ntmps32
    go_wp2
    go_ret
    exact ⟨rfl, lo_alloc (lo_refl w) _⟩
  have d9 : b.now ≤ 1099511627776 := by omega
  clear c9
  have he : b.err = 0 := if_pos ⟨⟨⟨d0, d1⟩, ⟨d2, d3⟩, ⟨d4, d5⟩⟩, ⟨d6, d7⟩, ⟨d8, d9⟩⟩
  rw [he]
  clear he
  go_enter Try.func32, Try.ntmps32
  go_wp2
  go_ret
  exact ⟨rfl, lo_alloc (lo_refl w) _⟩
end Go.Proofs.Ytcgnoaaejaofiaa
