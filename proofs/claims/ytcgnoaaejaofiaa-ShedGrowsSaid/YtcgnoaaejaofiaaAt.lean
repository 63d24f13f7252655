import Derived.Test.YtcgnoaaejaofiaaNew
import Derived.Deep.DrawnRows
namespace Go.Proofs.Ytcgnoaaejaofiaa
open Go.RowKit
attribute [local go_sem ↓] Go.wp_at_zero Go.wp_at_succ

/-- Time goes on. -/
noncomputable def atB (b : Bk) (tick : Int) : Bk :=
  if b.err = 0 ∧ b.now < tick ∧ tick ≤ 1099511627776 then ⟨b.burst, b.rate, b.per, min (b.burst * b.per) (b.level + (tick - b.now) * b.rate), tick⟩ else b
def BkPost (w : World) (b : Bk) (e : Ending) (w' : World) : Prop :=
  e = .returned (.agg #[.int .i64 b.burst, .int .i64 b.rate, .int .i64 b.per, .int .i64 b.level, .int .i64 b.now]) ∧ Below w.heap.size w w'
set_option maxHeartbeats 1600000 in
/-- Nothing turns. -/
theorem at_same (b : Bk) (tick : Int) (w : World) (h : b.err ≠ 0 ∨ tick ≤ b.now ∨ 1099511627776 < tick) :
    Calls Try.prog 17 #[.agg #[.int .i64 b.burst, .int .i64 b.rate, .int .i64 b.per, .int .i64 b.level, .int .i64 b.now], .int .i64 tick] w (BkPost w b) := by
  have HC := Lib.hid (check_any b)
  have hne : (b.err != 0) = true ∨ (b.err != 0) = false := by cases b.err != 0 <;> simp
  have h3 : (b.err != 0) = true ∨ ((b.err != 0) = false ∧ tick ≤ b.now) ∨ ((b.err != 0) = false ∧ b.now < tick ∧ 1099511627776 < tick) := by
    rcases hne with h1 | h1
    · exact .inl h1
    · have : b.err = 0 := by simpa using h1
      by_cases h2 : tick ≤ b.now
      · exact .inr (.inl ⟨h1, h2⟩)
      · exact .inr (.inr ⟨h1, by omega, by omega⟩)
  clear h hne
  rcases h3 with h1 | ⟨h1, h2⟩ | ⟨h1, h2, h3⟩
  all_goals
    go_enter Try.func17, Try.ntmps17
    go_wp2_with fail
    refine (HC.out _).mono ?_
    rintro e w1 ⟨rfl, hb1⟩
    have hA := ((Blk.new w 26 #[.int .i64 b.burst, .int .i64 b.rate, .int .i64 b.per, .int .i64 b.level, .int .i64 b.now]).alloc (.cells #[.int .i64 0, .int .i64 0, .int .i64 0, .int .i64 0, .int .i64 0] 26)).lo hb1
    have hB := (Blk.new (w.alloc (.cells #[.int .i64 b.burst, .int .i64 b.rate, .int .i64 b.per, .int .i64 b.level, .int .i64 b.now] 26)) 26 #[.int .i64 0, .int .i64 0, .int .i64 0, .int .i64 0, .int .i64 0]).lo hb1
    simp only [World.size_alloc] at hB
    have hL := lo_trans (lo_alloc (lo_alloc (lo_refl w) _) _) hb1
    clear hb1
    obtain ⟨cB, fB⟩ := hB.facts
    obtain ⟨cA, fA⟩ := hA.facts
    have hL2 := Lib.hid hL
    clear hL hA hB
    go_wp2_with fail
    refine bodyPost_ret (v := .agg #[.int .i64 b.burst, .int .i64 b.rate, .int .i64 b.per, .int .i64 b.level, .int .i64 b.now]) (by simp [results, Try.results17, go_sem, cB]) rfl ⟨rfl, ?_⟩
    have hl := hL2.out
    repeat' (first | with_reducible exact hl | with_reducible apply lo_set | simp)

set_option maxHeartbeats 3200000 in
/-- Time goes on: enough for all, or not. -/
theorem at_goes (b : Bk) (tick : Int) (w : World) (hok : b.ok) (h1 : b.now < tick) (h2 : tick ≤ 1099511627776) :
    Calls Try.prog 17 #[.agg #[.int .i64 b.burst, .int .i64 b.rate, .int .i64 b.per, .int .i64 b.level, .int .i64 b.now], .int .i64 tick] w (BkPost w ⟨b.burst, b.rate, b.per, min (b.burst * b.per) (b.level + (tick - b.now) * b.rate), tick⟩) := by
  have hC := check_any b
  have he : b.err = 0 := if_pos hok
  rw [he] at hC
  have HC := Lib.hid hC
  clear hC he
  obtain ⟨F, hF⟩ : ∃ F, F = b.burst * b.per := ⟨_, rfl⟩
  have hfull : ∀ W, Calls Try.prog 26 #[.agg #[.int .i64 b.burst, .int .i64 b.rate, .int .i64 b.per, .int .i64 b.level, .int .i64 b.now]] W (IntPost W F) := fun W => by
    rw [hF]; exact full_any b hok.1.1.1 hok.1.1.2 hok.1.2.2.1 hok.1.2.2.2 W
  have HF := Lib.hid hfull
  clear hfull
  obtain ⟨⟨⟨q1, q2⟩, ⟨q3, q4⟩, ⟨q5, q6⟩⟩, ⟨q7, q8⟩, ⟨q9, q10⟩⟩ := hok
  obtain ⟨p1, p2⟩ := prod_le q1 q2 q5 q6
  have hA0 := (Blk.new w 26 #[.int .i64 b.burst, .int .i64 b.rate, .int .i64 b.per, .int .i64 b.level, .int .i64 b.now]).alloc (.cells #[.int .i64 0, .int .i64 0, .int .i64 0, .int .i64 0, .int .i64 0] 26)
  have hB0 := Blk.new (w.alloc (.cells #[.int .i64 b.burst, .int .i64 b.rate, .int .i64 b.per, .int .i64 b.level, .int .i64 b.now] 26)) 26 #[.int .i64 0, .int .i64 0, .int .i64 0, .int .i64 0, .int .i64 0]
  simp only [World.size_alloc] at hB0
  have hL0 := lo_alloc (lo_alloc (lo_refl w) (.cells #[.int .i64 b.burst, .int .i64 b.rate, .int .i64 b.per, .int .i64 b.level, .int .i64 b.now] 26)) (.cells #[.int .i64 0, .int .i64 0, .int .i64 0, .int .i64 0, .int .i64 0] 26)
  have HA0 := Lib.hid hA0
  have HB0 := Lib.hid hB0
  have HL0 := Lib.hid hL0
  clear hA0 hB0 hL0
  rw [← hF] at p1 p2 q8 ⊢
  clear hF
  by_cases hg : F - b.level ≤ tick - b.now
  · by_cases hr : 0 < b.rate
    · have hmin : min F (b.level + (tick - b.now) * b.rate) = F := by
        have : (tick - b.now) * 1 ≤ (tick - b.now) * b.rate := Int.mul_le_mul_of_nonneg_left (by omega) (by omega)
        omega
      rw [hmin]
      clear hmin
      go_enter Try.func17, Try.ntmps17
      go_wp2_with fail
      refine (HC.out _).mono ?_
      rintro e w1 ⟨rfl, hb1⟩
      have hA := HA0.out.lo hb1
      have hB := HB0.out.lo hb1
      have hL := lo_trans HL0.out hb1
      clear hb1
      obtain ⟨cA, fA⟩ := hA.facts
      have hlt := hA.lt
      go_wp2_with fail
      go_region_held3 (fun W => W.cell? ⟨w.heap.size, 0, none⟩ = some (.int .i64 b.burst) ∧ W.cell? ⟨w.heap.size, 1, none⟩ = some (.int .i64 b.rate) ∧ W.cell? ⟨w.heap.size, 2, none⟩ = some (.int .i64 b.per) ∧ W.cell? ⟨w.heap.size, 3, none⟩ = some (.int .i64 b.level) ∧ W.cell? ⟨w.heap.size, 4, none⟩ = some (.int .i64 b.now) ∧ w.heap.size < W.heap.size) (first | exact keep5 hb2 (by assumption) | go_keep)
        (first | (go_at_call 26; refine (HF.out _).mono ?_; rintro e w2 ⟨rfl, hb2⟩))
      have hA := hA.drew.lo hb2
      have hB := hB.drew.lo hb2
      have hL := lo_trans (lo_drew hL) hb2
      clear cA fA hb2 hlt
      obtain ⟨cA, fA⟩ := hA.facts
      go_wp2_with fail
      refine (HF.out _).mono ?_
      rintro e w3 ⟨rfl, hb3⟩
      have hA := hA.lo hb3
      have hB := hB.lo hb3
      have hL := lo_trans hL hb3
      clear cA fA hb3
      obtain ⟨cA, fA⟩ := hA.facts
      obtain ⟨cB, fB⟩ := hB.facts
      have hL2 := Lib.hid hL
      clear hL hA hB
      go_wp2_with fail
      refine bodyPost_ret (v := .agg #[.int .i64 b.burst, .int .i64 b.rate, .int .i64 b.per, .int .i64 F, .int .i64 tick]) (by simp [results, Try.results17, go_sem, cB]) rfl ⟨rfl, ?_⟩
      have hl := hL2.out
      repeat' (first | with_reducible exact hl | with_reducible apply lo_set | simp)
    · have hr0 : b.rate ≤ 0 := by omega
      have hx0 : 0 ≤ (tick - b.now) * b.rate := Int.mul_nonneg (by omega) q3
      have hx1 : (tick - b.now) * b.rate ≤ 1099511627776 * 1000 := Int.mul_le_mul (by omega) q4 q3 (by omega)
      have hw1 : IntKind.i64.wrap ((tick - b.now) * b.rate) = (tick - b.now) * b.rate := IntWalk.i64_in _ (by omega)
      have hw2 : IntKind.i64.wrap (b.level + (tick - b.now) * b.rate) = b.level + (tick - b.now) * b.rate := IntWalk.i64_in _ (by omega)
      by_cases hm : b.level + (tick - b.now) * b.rate < F
      · go_enter Try.func17, Try.ntmps17
        go_wp2_with fail
        refine (HC.out _).mono ?_
        rintro e w1 ⟨rfl, hb1⟩
        have hA := HA0.out.lo hb1
        have hB := HB0.out.lo hb1
        have hL := lo_trans HL0.out hb1
        clear hb1
        obtain ⟨cA, fA⟩ := hA.facts
        have hlt := hA.lt
        go_wp2_with fail
        go_region_held3 (fun W => W.cell? ⟨w.heap.size, 0, none⟩ = some (.int .i64 b.burst) ∧ W.cell? ⟨w.heap.size, 1, none⟩ = some (.int .i64 b.rate) ∧ W.cell? ⟨w.heap.size, 2, none⟩ = some (.int .i64 b.per) ∧ W.cell? ⟨w.heap.size, 3, none⟩ = some (.int .i64 b.level) ∧ W.cell? ⟨w.heap.size, 4, none⟩ = some (.int .i64 b.now) ∧ w.heap.size < W.heap.size) (first | exact keep5 hb2 (by assumption) | go_keep)
          (first | (go_at_call 26; refine (HF.out _).mono ?_; rintro e w2 ⟨rfl, hb2⟩))
        have hA := hA.drew.lo hb2
        have hB := hB.drew.lo hb2
        have hL := lo_trans (lo_drew hL) hb2
        clear cA fA hb2 hlt
        obtain ⟨cA, fA⟩ := hA.facts
        go_wp2_with fail
        first
        | go_region_with (first
            | (go_at_call 26; refine (HF.out _).mono ?_; rintro e w3 ⟨rfl, hb3⟩; obtain ⟨cA3, fA3⟩ := (hA.drew.lo hb3).facts))
        | fail
        all_goals
          have hA := hA.drew.lo hb3
          have hB := hB.drew.lo hb3
          have hL := lo_trans (lo_drew hL) hb3
          clear cA fA hb3
          obtain ⟨cB, fB⟩ := hB.facts
          have hL2 := Lib.hid hL
          clear hL hA hB
          go_wp2_with fail
          refine bodyPost_ret (v := .agg #[.int .i64 b.burst, .int .i64 b.rate, .int .i64 b.per, .int .i64 (min F (b.level + (tick - b.now) * b.rate)), .int .i64 tick]) (by simp [results, Try.results17, go_sem, cB]; omega) rfl ⟨rfl, ?_⟩
          have hl := hL2.out
          repeat' (first | with_reducible exact hl | with_reducible apply lo_set | simp)
      · go_enter Try.func17, Try.ntmps17
        go_wp2_with fail
        refine (HC.out _).mono ?_
        rintro e w1 ⟨rfl, hb1⟩
        have hA := HA0.out.lo hb1
        have hB := HB0.out.lo hb1
        have hL := lo_trans HL0.out hb1
        clear hb1
        obtain ⟨cA, fA⟩ := hA.facts
        have hlt := hA.lt
        go_wp2_with fail
        go_region_held3 (fun W => W.cell? ⟨w.heap.size, 0, none⟩ = some (.int .i64 b.burst) ∧ W.cell? ⟨w.heap.size, 1, none⟩ = some (.int .i64 b.rate) ∧ W.cell? ⟨w.heap.size, 2, none⟩ = some (.int .i64 b.per) ∧ W.cell? ⟨w.heap.size, 3, none⟩ = some (.int .i64 b.level) ∧ W.cell? ⟨w.heap.size, 4, none⟩ = some (.int .i64 b.now) ∧ w.heap.size < W.heap.size) (first | exact keep5 hb2 (by assumption) | go_keep)
          (first | (go_at_call 26; refine (HF.out _).mono ?_; rintro e w2 ⟨rfl, hb2⟩))
        have hA := hA.drew.lo hb2
        have hB := hB.drew.lo hb2
        have hL := lo_trans (lo_drew hL) hb2
        clear cA fA hb2 hlt
        obtain ⟨cA, fA⟩ := hA.facts
        go_wp2_with fail
        first
        | go_region_with (first
            | (go_at_call 26; refine (HF.out _).mono ?_; rintro e w3 ⟨rfl, hb3⟩; obtain ⟨cA3, fA3⟩ := (hA.drew.lo hb3).facts))
        | fail
        all_goals
          have hA := hA.drew.lo hb3
          have hB := hB.drew.lo hb3
          have hL := lo_trans (lo_drew hL) hb3
          clear cA fA hb3
          obtain ⟨cB, fB⟩ := hB.facts
          have hL2 := Lib.hid hL
          clear hL hA hB
          go_wp2_with fail
          refine bodyPost_ret (v := .agg #[.int .i64 b.burst, .int .i64 b.rate, .int .i64 b.per, .int .i64 (min F (b.level + (tick - b.now) * b.rate)), .int .i64 tick]) (by simp [results, Try.results17, go_sem, cB]; omega) rfl ⟨rfl, ?_⟩
          have hl := hL2.out
          repeat' (first | with_reducible exact hl | with_reducible apply lo_set | simp)
  · have hg' : tick - b.now < F - b.level := by omega
    have hx0 : 0 ≤ (tick - b.now) * b.rate := Int.mul_nonneg (by omega) q3
    have hx1 : (tick - b.now) * b.rate ≤ 1099511627776 * 1000 := Int.mul_le_mul (by omega) q4 q3 (by omega)
    have hw1 : IntKind.i64.wrap ((tick - b.now) * b.rate) = (tick - b.now) * b.rate := IntWalk.i64_in _ (by omega)
    have hw2 : IntKind.i64.wrap (b.level + (tick - b.now) * b.rate) = b.level + (tick - b.now) * b.rate := IntWalk.i64_in _ (by omega)
    by_cases hm : b.level + (tick - b.now) * b.rate < F
    · go_enter Try.func17, Try.ntmps17
      go_wp2_with fail
      refine (HC.out _).mono ?_
      rintro e w1 ⟨rfl, hb1⟩
      have hA := HA0.out.lo hb1
      have hB := HB0.out.lo hb1
      have hL := lo_trans HL0.out hb1
      clear hb1
      obtain ⟨cA, fA⟩ := hA.facts
      have hlt := hA.lt
      go_wp2_with fail
      go_region_held3 (fun W => W.cell? ⟨w.heap.size, 0, none⟩ = some (.int .i64 b.burst) ∧ W.cell? ⟨w.heap.size, 1, none⟩ = some (.int .i64 b.rate) ∧ W.cell? ⟨w.heap.size, 2, none⟩ = some (.int .i64 b.per) ∧ W.cell? ⟨w.heap.size, 3, none⟩ = some (.int .i64 b.level) ∧ W.cell? ⟨w.heap.size, 4, none⟩ = some (.int .i64 b.now) ∧ w.heap.size < W.heap.size) (first | exact keep5 hb2 (by assumption) | go_keep)
        (first | (go_at_call 26; refine (HF.out _).mono ?_; rintro e w2 ⟨rfl, hb2⟩))
      have hA := hA.drew.lo hb2
      have hB := hB.drew.lo hb2
      have hL := lo_trans (lo_drew hL) hb2
      clear cA fA hb2 hlt
      obtain ⟨cA, fA⟩ := hA.facts
      go_wp2_with fail
      first
      | go_region_with (first
          | (go_at_call 26; refine (HF.out _).mono ?_; rintro e w3 ⟨rfl, hb3⟩; obtain ⟨cA3, fA3⟩ := (hA.drew.lo hb3).facts))
      | fail
      all_goals
        have hA := hA.drew.lo hb3
        have hB := hB.drew.lo hb3
        have hL := lo_trans (lo_drew hL) hb3
        clear cA fA hb3
        obtain ⟨cB, fB⟩ := hB.facts
        have hL2 := Lib.hid hL
        clear hL hA hB
        go_wp2_with fail
        refine bodyPost_ret (v := .agg #[.int .i64 b.burst, .int .i64 b.rate, .int .i64 b.per, .int .i64 (min F (b.level + (tick - b.now) * b.rate)), .int .i64 tick]) (by simp [results, Try.results17, go_sem, cB]; omega) rfl ⟨rfl, ?_⟩
        have hl := hL2.out
        repeat' (first | with_reducible exact hl | with_reducible apply lo_set | simp)
    · go_enter Try.func17, Try.ntmps17
      go_wp2_with fail
      refine (HC.out _).mono ?_
      rintro e w1 ⟨rfl, hb1⟩
      have hA := HA0.out.lo hb1
      have hB := HB0.out.lo hb1
      have hL := lo_trans HL0.out hb1
      clear hb1
      obtain ⟨cA, fA⟩ := hA.facts
      have hlt := hA.lt
      go_wp2_with fail
      go_region_held3 (fun W => W.cell? ⟨w.heap.size, 0, none⟩ = some (.int .i64 b.burst) ∧ W.cell? ⟨w.heap.size, 1, none⟩ = some (.int .i64 b.rate) ∧ W.cell? ⟨w.heap.size, 2, none⟩ = some (.int .i64 b.per) ∧ W.cell? ⟨w.heap.size, 3, none⟩ = some (.int .i64 b.level) ∧ W.cell? ⟨w.heap.size, 4, none⟩ = some (.int .i64 b.now) ∧ w.heap.size < W.heap.size) (first | exact keep5 hb2 (by assumption) | go_keep)
        (first | (go_at_call 26; refine (HF.out _).mono ?_; rintro e w2 ⟨rfl, hb2⟩))
      have hA := hA.drew.lo hb2
      have hB := hB.drew.lo hb2
      have hL := lo_trans (lo_drew hL) hb2
      clear cA fA hb2 hlt
      obtain ⟨cA, fA⟩ := hA.facts
      go_wp2_with fail
      first
      | go_region_with (first
          | (go_at_call 26; refine (HF.out _).mono ?_; rintro e w3 ⟨rfl, hb3⟩; obtain ⟨cA3, fA3⟩ := (hA.drew.lo hb3).facts))
      | fail
      all_goals
        have hA := hA.drew.lo hb3
        have hB := hB.drew.lo hb3
        have hL := lo_trans (lo_drew hL) hb3
        clear cA fA hb3
        obtain ⟨cB, fB⟩ := hB.facts
        have hL2 := Lib.hid hL
        clear hL hA hB
        go_wp2_with fail
        refine bodyPost_ret (v := .agg #[.int .i64 b.burst, .int .i64 b.rate, .int .i64 b.per, .int .i64 (min F (b.level + (tick - b.now) * b.rate)), .int .i64 tick]) (by simp [results, Try.results17, go_sem, cB]; omega) rfl ⟨rfl, ?_⟩
        have hl := hL2.out
        repeat' (first | with_reducible exact hl | with_reducible apply lo_set | simp)

theorem at_any (b : Bk) (tick : Int) (w : World) :
    Calls Try.prog 17 #[.agg #[.int .i64 b.burst, .int .i64 b.rate, .int .i64 b.per, .int .i64 b.level, .int .i64 b.now], .int .i64 tick] w (BkPost w (atB b tick)) := by
  by_cases h : b.err = 0 ∧ b.now < tick ∧ tick ≤ 1099511627776
  · have e : atB b tick = _ := if_pos h
    rw [e]
    have hok : b.ok := by
      rcases err_cases b with ⟨h1, _⟩ | ⟨_, h1⟩
      · exact h1
      · rw [h1] at h; exact absurd h.1 (by decide)
    exact at_goes b tick w hok h.2.1 h.2.2
  · have e : atB b tick = b := if_neg h
    rw [e]
    exact at_same b tick w (by
      by_cases h1 : b.err = 0
      · right
        by_cases h2 : tick ≤ b.now
        · exact .inl h2
        · exact .inr (by
            apply Classical.byContradiction
            intro h3
            exact h ⟨h1, by omega, by omega⟩)
      · exact .inl h1)
end Go.Proofs.Ytcgnoaaejaofiaa
