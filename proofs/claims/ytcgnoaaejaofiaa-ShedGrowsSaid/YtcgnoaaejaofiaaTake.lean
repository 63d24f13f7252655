import Derived.Test.YtcgnoaaejaofiaaAt
import Derived.Test.YtcgnoaaejaofiaaHas
namespace Go.Proofs.Ytcgnoaaejaofiaa
open Go.RowKit

/-- A token is taken, if there is one. -/
noncomputable def takeB (b : Bk) (tick : Int) : Bk × Bool :=
  if hasB (atB b tick) = 0 then (atB b tick, false) else ({ atB b tick with level := (atB b tick).level - (atB b tick).per }, true)
def TakePost (w : World) (r : Bk × Bool) (e : Ending) (w' : World) : Prop :=
  e = .returned (.tuple #[.agg #[.int .i64 r.1.burst, .int .i64 r.1.rate, .int .i64 r.1.per, .int .i64 r.1.level, .int .i64 r.1.now], .bool r.2]) ∧ Below w.heap.size w w'
theorem ok_of_has {b : Bk} (h : hasB b ≠ 0) : b.ok := by
  rcases err_cases b with ⟨h1, _⟩ | ⟨_, h1⟩
  · exact h1
  · exact absurd (if_neg (by rw [h1]; decide)) h
set_option maxHeartbeats 1600000 in
theorem take_any (b : Bk) (tick : Int) (w : World) :
    Calls Try.prog 20 #[.agg #[.int .i64 b.burst, .int .i64 b.rate, .int .i64 b.per, .int .i64 b.level, .int .i64 b.now], .int .i64 tick] w (TakePost w (takeB b tick)) := by
  have HA := Lib.hid (at_any b tick)
  unfold takeB
  generalize atB b tick = a at HA ⊢
  have HH := Lib.hid (has_any a)
  have hA0 := (Blk.new w 26 #[.int .i64 b.burst, .int .i64 b.rate, .int .i64 b.per, .int .i64 b.level, .int .i64 b.now]).alloc (.cells #[.int .i64 0, .int .i64 0, .int .i64 0, .int .i64 0, .int .i64 0] 26)
  have hB0 := Blk.new (w.alloc (.cells #[.int .i64 b.burst, .int .i64 b.rate, .int .i64 b.per, .int .i64 b.level, .int .i64 b.now] 26)) 26 #[.int .i64 0, .int .i64 0, .int .i64 0, .int .i64 0, .int .i64 0]
  simp only [World.size_alloc] at hB0
  have hL0 := lo_alloc (lo_alloc (lo_refl w) (.cells #[.int .i64 b.burst, .int .i64 b.rate, .int .i64 b.per, .int .i64 b.level, .int .i64 b.now] 26)) (.cells #[.int .i64 0, .int .i64 0, .int .i64 0, .int .i64 0, .int .i64 0] 26)
  have HA0 := Lib.hid hA0
  have HB0 := Lib.hid hB0
  have HL0 := Lib.hid hL0
  clear hA0 hB0 hL0
  by_cases hz : hasB a = 0
  · rw [if_pos hz]
    rw [hz] at HH
    clear hz
    go_enter Try.func20, Try.ntmps20
    go_wp2_with fail
    refine (HA.out _).mono ?_
    rintro e w1 ⟨rfl, hb1⟩
    have hA := HA0.out.lo hb1
    have hB := HB0.out.lo hb1
    have hL := lo_trans HL0.out hb1
    have hlt := hA.lt
    obtain ⟨cA, fA⟩ := hA.facts
    clear hb1
    go_wp2_with fail
    refine (HH.out _).mono ?_
    rintro e w2 ⟨rfl, hb2⟩
    have hA2 := (put5 hA (.int .i64 a.burst) (.int .i64 a.rate) (.int .i64 a.per) (.int .i64 a.level) (.int .i64 a.now)).lo hb2
    have hB2 := (far5 hB (show w.heap.size + 1 ≠ w.heap.size by omega) (.int .i64 a.burst) (.int .i64 a.rate) (.int .i64 a.per) (.int .i64 a.level) (.int .i64 a.now)).lo hb2
    have hL2 := Lib.hid (lo_trans (lo5 hL (Nat.le_refl _) (.int .i64 a.burst) (.int .i64 a.rate) (.int .i64 a.per) (.int .i64 a.level) (.int .i64 a.now)) hb2)
    clear cA fA hb2 hA hB hL
    obtain ⟨cA, fA⟩ := hA2.facts
    obtain ⟨cB, fB⟩ := hB2.facts
    clear hA2 hB2
    go_wp2_with fail
    refine bodyPost_ret (v := .tuple #[.agg #[.int .i64 a.burst, .int .i64 a.rate, .int .i64 a.per, .int .i64 a.level, .int .i64 a.now], .bool false]) (by simp [results, Try.results20, go_sem, cB]) rfl ⟨rfl, ?_⟩
    have hl := hL2.out
    repeat' (first | with_reducible exact hl | with_reducible apply lo_set | simp)
  · rw [if_neg hz]
    have hok := ok_of_has hz
    have hz2 : (hasB a == 0) = false := by simpa using hz
    have q1 := hok.2.1.1
    have q2 := hok.2.1.2
    have q3 := (prod_le hok.1.1.1 hok.1.1.2 hok.1.2.2.1 hok.1.2.2.2).2
    have q4 := hok.1.2.2.1
    have q5 := hok.1.2.2.2
    have q6 : a.level ≤ 1000000 := by omega
    clear hz hok q2 q3
    go_enter Try.func20, Try.ntmps20
    go_wp2_with fail
    refine (HA.out _).mono ?_
    rintro e w1 ⟨rfl, hb1⟩
    have hA := HA0.out.lo hb1
    have hB := HB0.out.lo hb1
    have hL := lo_trans HL0.out hb1
    have hlt := hA.lt
    obtain ⟨cA, fA⟩ := hA.facts
    clear hb1
    go_wp2_with fail
    refine (HH.out _).mono ?_
    rintro e w2 ⟨rfl, hb2⟩
    have hA2 := (put5 hA (.int .i64 a.burst) (.int .i64 a.rate) (.int .i64 a.per) (.int .i64 a.level) (.int .i64 a.now)).lo hb2
    have hB2 := (far5 hB (show w.heap.size + 1 ≠ w.heap.size by omega) (.int .i64 a.burst) (.int .i64 a.rate) (.int .i64 a.per) (.int .i64 a.level) (.int .i64 a.now)).lo hb2
    have hL2 := Lib.hid (lo_trans (lo5 hL (Nat.le_refl _) (.int .i64 a.burst) (.int .i64 a.rate) (.int .i64 a.per) (.int .i64 a.level) (.int .i64 a.now)) hb2)
    clear cA fA hb2 hA hB hL
    obtain ⟨cA, fA⟩ := hA2.facts
    obtain ⟨cB, fB⟩ := hB2.facts
    clear hA2 hB2
    go_wp2_with fail
    refine bodyPost_ret (v := .tuple #[.agg #[.int .i64 a.burst, .int .i64 a.rate, .int .i64 a.per, .int .i64 (a.level - a.per), .int .i64 a.now], .bool true]) (by simp [results, Try.results20, go_sem, cB]) rfl ⟨rfl, ?_⟩
    have hl := hL2.out
    repeat' (first | with_reducible exact hl | with_reducible apply lo_set | simp)
end Go.Proofs.Ytcgnoaaejaofiaa
