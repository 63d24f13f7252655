import Derived.Test.YtbjfdmgfmdccgaaNew
import Derived.Deep.RegionHeld
namespace Go.Proofs.Ytbjfdmgfmdccgaa
open Go.RowKit
attribute [local go_sem ↓] Go.wp_at_zero Go.wp_at_succ

theorem getop {l : List Oper} {i : Nat} {o : Oper} (h : l[i]? = some o) : l.toArray[i]? = some o := by simpa using h
/-- The zone of what waits. -/
def zoneS (s : St) (n : Int) : Int := if s.high < n then 1 else if n < s.low then -1 else 0
set_option maxHeartbeats 3200000 in
theorem zone_any (s : St) (n : Int) (w : World) : Calls Try.prog 11 #[.agg #[.int .i64 s.limit, .int .i64 s.least, .int .i64 s.most, .int .i64 s.low, .int .i64 s.high, .int .i64 s.quiet, .int .i64 s.calm], .int .i64 n] w (IntPost w (zoneS s n)) := by
  unfold zoneS
  have hl := lo_alloc (lo_refl w) (.cells #[.int .i64 s.limit, .int .i64 s.least, .int .i64 s.most, .int .i64 s.low, .int .i64 s.high, .int .i64 s.quiet, .int .i64 s.calm] 24)
  have HL := Lib.hid hl
  clear hl
  by_cases h1 : s.high < n
  · rw [if_pos h1]
    go_enter Try.func11, Try.ntmps11
    go_wp2_with fail
    go_ret
    exact ⟨rfl, HL.out⟩
  · rw [if_neg h1]
    have hc : (n < s.low ∧ cmpL n s.low = -1) ∨ (¬ n < s.low ∧ s.low < n ∧ cmpL n s.low = 1) ∨ (¬ n < s.low ∧ ¬ s.low < n ∧ cmpL n s.low = 0) := by
      unfold cmpL
      by_cases h2 : n < s.low
      · exact .inl ⟨h2, if_pos h2⟩
      · by_cases h3 : s.low < n
        · exact .inr (.inl ⟨h2, h3, by rw [if_neg h2, if_pos h3]⟩)
        · exact .inr (.inr ⟨h2, h3, by rw [if_neg h2, if_neg h3]⟩)
    rcases hc with ⟨h2, h3⟩ | ⟨h2, _, h3⟩ | ⟨h2, _, h3⟩
    · rw [if_pos h2]
      have HC := cmp_any n s.low
      rw [h3] at HC
      have HC := Lib.hid HC
      go_enter Try.func11, Try.ntmps11
      go_wp2_with (go_at_call 15; refine (HC.out _).mono ?_; rintro e w' ⟨rfl, rfl⟩)
      go_ret
      exact ⟨rfl, HL.out⟩
    · rw [if_neg h2]
      have HC := cmp_any n s.low
      rw [h3] at HC
      have HC := Lib.hid HC
      go_enter Try.func11, Try.ntmps11
      go_wp2_with (go_at_call 15; refine (HC.out _).mono ?_; rintro e w' ⟨rfl, rfl⟩)
      go_ret
      exact ⟨rfl, HL.out⟩
    · rw [if_neg h2]
      have HC := cmp_any n s.low
      rw [h3] at HC
      have HC := Lib.hid HC
      go_enter Try.func11, Try.ntmps11
      go_wp2_with (go_at_call 15; refine (HC.out _).mono ?_; rintro e w' ⟨rfl, rfl⟩)
      go_ret
      exact ⟨rfl, HL.out⟩
/-- A look at what waits. -/
def seeS (s : St) (n : Int) : St × Bool :=
  if s.ok then
    if s.high < n then (⟨max (s.limit / 2) s.least, s.least, s.most, s.low, s.high, s.quiet, 0⟩, decide (max (s.limit / 2) s.least ≠ s.limit))
    else if ¬ n < s.low then (⟨s.limit, s.least, s.most, s.low, s.high, s.quiet, 0⟩, false)
    else if s.calm + 1 < s.quiet then (⟨s.limit, s.least, s.most, s.low, s.high, s.quiet, s.calm + 1⟩, false)
    else (⟨min (s.limit + 1) s.most, s.least, s.most, s.low, s.high, s.quiet, 0⟩, decide (min (s.limit + 1) s.most ≠ s.limit))
  else (s, false)
def SeePost (w : World) (r : St × Bool) (e : Ending) (w' : World) : Prop := e = .returned (.tuple #[.agg #[.int .i64 r.1.limit, .int .i64 r.1.least, .int .i64 r.1.most, .int .i64 r.1.low, .int .i64 r.1.high, .int .i64 r.1.quiet, .int .i64 r.1.calm], .bool r.2]) ∧ Below w.heap.size w w'
set_option maxHeartbeats 3200000 in
theorem see_bad (s : St) (n : Int) (w : World) (hok : ¬ s.ok) : Calls Try.prog 10 #[.agg #[.int .i64 s.limit, .int .i64 s.least, .int .i64 s.most, .int .i64 s.low, .int .i64 s.high, .int .i64 s.quiet, .int .i64 s.calm], .int .i64 n] w (SeePost w (s, false)) := by
  have hC := check_any s
  rw [show s.err = 8 from if_neg hok] at hC
  have HC := Lib.hid hC
  clear hC
  have hA := (Blk.new w 24 #[.int .i64 s.limit, .int .i64 s.least, .int .i64 s.most, .int .i64 s.low, .int .i64 s.high, .int .i64 s.quiet, .int .i64 s.calm]).alloc (.cells #[.int .i64 0, .int .i64 0, .int .i64 0, .int .i64 0, .int .i64 0, .int .i64 0, .int .i64 0] 24)
  have hR := Blk.new (w.alloc (.cells #[.int .i64 s.limit, .int .i64 s.least, .int .i64 s.most, .int .i64 s.low, .int .i64 s.high, .int .i64 s.quiet, .int .i64 s.calm] 24)) 24 #[.int .i64 0, .int .i64 0, .int .i64 0, .int .i64 0, .int .i64 0, .int .i64 0, .int .i64 0]
  simp only [World.size_alloc] at hR
  have hL := lo_alloc (lo_alloc (lo_refl w) (.cells #[.int .i64 s.limit, .int .i64 s.least, .int .i64 s.most, .int .i64 s.low, .int .i64 s.high, .int .i64 s.quiet, .int .i64 s.calm] 24)) (.cells #[.int .i64 0, .int .i64 0, .int .i64 0, .int .i64 0, .int .i64 0, .int .i64 0, .int .i64 0] 24)
  go_enter Try.func10, Try.ntmps10
  go_wp2_with fail
  refine (HC.out _).mono ?_
  rintro e w1 ⟨rfl, hb⟩
  have hA := hA.lo hb
  have hR := hR.lo hb
  have HL := Lib.hid (lo_trans hL hb)
  clear hb hL
  obtain ⟨cA, fA⟩ := hA.facts
  obtain ⟨cR, fR⟩ := hR.facts
  clear hA hR
  go_wp2_with fail
  refine bodyPost_ret (v := .tuple #[.agg #[.int .i64 s.limit, .int .i64 s.least, .int .i64 s.most, .int .i64 s.low, .int .i64 s.high, .int .i64 s.quiet, .int .i64 s.calm], .bool false]) (by simp [results, Try.results10, go_sem, cR]) rfl ⟨rfl, ?_⟩
  have hl := HL.out
  repeat' (first | with_reducible exact hl | with_reducible apply lo_set | with_reducible apply lo_drew | (show w.heap.size ≤ w.heap.size + 1; omega))
set_option maxRecDepth 100000 in
set_option maxHeartbeats 3200000 in
theorem see_mid (s : St) (n : Int) (w : World) (hok : s.ok) (h1 : ¬ s.high < n) (h2 : ¬ n < s.low) : Calls Try.prog 10 #[.agg #[.int .i64 s.limit, .int .i64 s.least, .int .i64 s.most, .int .i64 s.low, .int .i64 s.high, .int .i64 s.quiet, .int .i64 s.calm], .int .i64 n] w (SeePost w (⟨s.limit, s.least, s.most, s.low, s.high, s.quiet, 0⟩, false)) := by
  have hC := check_any s
  rw [show s.err = 0 from if_pos hok] at hC
  have HC := Lib.hid hC
  have hz := zone_any s n
  rw [show zoneS s n = 0 from by unfold zoneS; rw [if_neg h1, if_neg h2]] at hz
  have HZ := Lib.hid hz
  obtain ⟨⟨q1, q2, q3, q4⟩, _, ⟨q8, q9⟩, q10, q11⟩ := hok
  clear hC hz
  have hA := (Blk.new w 24 #[.int .i64 s.limit, .int .i64 s.least, .int .i64 s.most, .int .i64 s.low, .int .i64 s.high, .int .i64 s.quiet, .int .i64 s.calm]).alloc (.cells #[.int .i64 0, .int .i64 0, .int .i64 0, .int .i64 0, .int .i64 0, .int .i64 0, .int .i64 0] 24)
  have hR := Blk.new (w.alloc (.cells #[.int .i64 s.limit, .int .i64 s.least, .int .i64 s.most, .int .i64 s.low, .int .i64 s.high, .int .i64 s.quiet, .int .i64 s.calm] 24)) 24 #[.int .i64 0, .int .i64 0, .int .i64 0, .int .i64 0, .int .i64 0, .int .i64 0, .int .i64 0]
  simp only [World.size_alloc] at hR
  have hL := lo_alloc (lo_alloc (lo_refl w) (.cells #[.int .i64 s.limit, .int .i64 s.least, .int .i64 s.most, .int .i64 s.low, .int .i64 s.high, .int .i64 s.quiet, .int .i64 s.calm] 24)) (.cells #[.int .i64 0, .int .i64 0, .int .i64 0, .int .i64 0, .int .i64 0, .int .i64 0, .int .i64 0] 24)
  go_enter Try.func10, Try.ntmps10
  go_wp2_with fail
  refine (HC.out _).mono ?_
  rintro e w1 ⟨rfl, hb⟩
  have hA := hA.lo hb
  have hR := hR.lo hb
  have hL := lo_trans hL hb
  clear hb
  go_upto_region 3 with fail
  refine wp_region_held_drew (S := (fun W => W.cell? ⟨w.heap.size, 0, none⟩ = some (.int .i64 s.limit) ∧ W.cell? ⟨w.heap.size, 1, none⟩ = some (.int .i64 s.least) ∧ W.cell? ⟨w.heap.size, 2, none⟩ = some (.int .i64 s.most) ∧ W.cell? ⟨w.heap.size, 3, none⟩ = some (.int .i64 s.low) ∧ W.cell? ⟨w.heap.size, 4, none⟩ = some (.int .i64 s.high) ∧ W.cell? ⟨w.heap.size, 5, none⟩ = some (.int .i64 s.quiet) ∧ W.cell? ⟨w.heap.size, 6, none⟩ = some (.int .i64 s.calm) ∧ w.heap.size < W.heap.size)) (by kernel_rfl) ?_ (fun hHeld => ?_)
  focus ((try dsimp only); (have q := hA.facts.1; exact ⟨q 0, q 1, q 2, q 3, q 4, q 5, q 6, hA.lt⟩))
  have hA : Blk w1.drew _ _ _ := hA
  have hR : Blk w1.drew _ _ _ := hR
  have hL := lo_drew hL
  generalize w1.drew = wd at *
  first
  | (refine wpAnyH_take (i := 0) (oi := _) (v := ?_) (getop rfl) (by kernel_rfl) (by kernel_rfl) (by kernel_rfl) (fun _ _ _ h => h) (Or.inl ⟨by rfl, ?_⟩) (by assumption) ?_; rotate_left; focus (intro w hSw; (try dsimp only at hSw); go_simp; (try with_reducible rfl); done))
  | (refine wpAnyH_take (i := 0) (oi := _) (v := undef) (getop rfl) (by kernel_rfl) (by kernel_rfl) (by kernel_rfl) (fun _ _ _ h => h) (Or.inr ⟨by rfl, rfl⟩) (by assumption) ?_)
  (try simp only [Act.put, List.setIfInBounds_toArray, List.set_cons_zero, List.set_cons_succ])
  first
  | (refine wpAnyH_take (i := 1) (oi := _) (v := ?_) (getop rfl) (by kernel_rfl) (by kernel_rfl) (by kernel_rfl) (fun _ _ _ h => h) (Or.inl ⟨by rfl, ?_⟩) (by assumption) ?_; rotate_left; focus (intro w hSw; (try dsimp only at hSw); go_simp; (try with_reducible rfl); done))
  | (refine wpAnyH_take (i := 1) (oi := _) (v := undef) (getop rfl) (by kernel_rfl) (by kernel_rfl) (by kernel_rfl) (fun _ _ _ h => h) (Or.inr ⟨by rfl, rfl⟩) (by assumption) ?_)
  (try simp only [Act.put, List.setIfInBounds_toArray, List.set_cons_zero, List.set_cons_succ])
  first
  | (refine wpAnyH_take (i := 2) (oi := _) (v := ?_) (getop rfl) (by kernel_rfl) (by kernel_rfl) (by kernel_rfl) (fun _ _ _ h => h) (Or.inl ⟨by rfl, ?_⟩) (by assumption) ?_; rotate_left; focus (intro w hSw; (try dsimp only at hSw); go_simp; (try with_reducible rfl); done))
  | (refine wpAnyH_take (i := 2) (oi := _) (v := undef) (getop rfl) (by kernel_rfl) (by kernel_rfl) (by kernel_rfl) (fun _ _ _ h => h) (Or.inr ⟨by rfl, rfl⟩) (by assumption) ?_)
  (try simp only [Act.put, List.setIfInBounds_toArray, List.set_cons_zero, List.set_cons_succ])
  first
  | (refine wpAnyH_take (i := 3) (oi := _) (v := ?_) (getop rfl) (by kernel_rfl) (by kernel_rfl) (by kernel_rfl) (fun _ _ _ h => h) (Or.inl ⟨by rfl, ?_⟩) (by assumption) ?_; rotate_left; focus (intro w hSw; (try dsimp only at hSw); go_simp; (try with_reducible rfl); done))
  | (refine wpAnyH_take (i := 3) (oi := _) (v := undef) (getop rfl) (by kernel_rfl) (by kernel_rfl) (by kernel_rfl) (fun _ _ _ h => h) (Or.inr ⟨by rfl, rfl⟩) (by assumption) ?_)
  (try simp only [Act.put, List.setIfInBounds_toArray, List.set_cons_zero, List.set_cons_succ])
  refine wpAnyH_ready (rs := [4]) (by kernel_rfl) (by simp) ?_
  refine AllReadyH.cons (o := _) (getop rfl) (fun K hK => ?_) AllReadyH.nil
  go_simp
  (refine (HZ.out _).mono ?_; rintro e wx ⟨rfl, hb⟩; have hA := hA.lo hb; have hR := hR.lo hb; have hL := lo_trans hL hb; clear hb)
  refine hK.out _ _ ?_ (fun hHeld4 => ?_)
  focus ((try dsimp only); (have q := hA.facts.1; exact ⟨q 0, q 1, q 2, q 3, q 4, q 5, q 6, hA.lt⟩))
  clear hK K hHeld
  have hHeld := hHeld4
  clear hHeld4
  (try simp only [Act.put, List.setIfInBounds_toArray, List.set_cons_zero, List.set_cons_succ])
  first
  | (refine wpAnyH_take (i := 5) (oi := _) (v := ?_) (getop rfl) (by kernel_rfl) (by kernel_rfl) (by kernel_rfl) (fun _ _ _ h => h) (Or.inl ⟨by rfl, ?_⟩) (by assumption) ?_; rotate_left; focus (intro w hSw; (try dsimp only at hSw); go_simp; (try with_reducible rfl); done))
  | (refine wpAnyH_take (i := 5) (oi := _) (v := undef) (getop rfl) (by kernel_rfl) (by kernel_rfl) (by kernel_rfl) (fun _ _ _ h => h) (Or.inr ⟨by rfl, rfl⟩) (by assumption) ?_)
  (try simp only [Act.put, List.setIfInBounds_toArray, List.set_cons_zero, List.set_cons_succ])
  first
  | (refine wpAnyH_take (i := 6) (oi := _) (v := ?_) (getop rfl) (by kernel_rfl) (by kernel_rfl) (by kernel_rfl) (fun _ _ _ h => h) (Or.inl ⟨by rfl, ?_⟩) (by assumption) ?_; rotate_left; focus (intro w hSw; (try dsimp only at hSw); go_simp; (try with_reducible rfl); done))
  | (refine wpAnyH_take (i := 6) (oi := _) (v := undef) (getop rfl) (by kernel_rfl) (by kernel_rfl) (by kernel_rfl) (fun _ _ _ h => h) (Or.inr ⟨by rfl, rfl⟩) (by assumption) ?_)
  (try simp only [Act.put, List.setIfInBounds_toArray, List.set_cons_zero, List.set_cons_succ])
  refine wpAnyH_done (by kernel_rfl) ?_ _
  obtain ⟨cA, fA⟩ := hA.facts
  obtain ⟨cR, fR⟩ := hR.facts
  have lA := hA.lt
  have HL := Lib.hid hL
  clear hA hR hL
  skip
  go_upto_region 11 with fail
  go_region
  go_wp2_with fail
  refine bodyPost_ret (v := .tuple #[.agg #[.int .i64 s.limit, .int .i64 s.least, .int .i64 s.most, .int .i64 s.low, .int .i64 s.high, .int .i64 s.quiet, .int .i64 (0)], .bool (false)]) (by simp [results, Try.results10, go_sem, cR] <;> rfl) rfl ⟨by simp, ?_⟩
  have hl := HL.out
  repeat' (first | with_reducible exact hl | with_reducible apply lo_set | with_reducible apply lo_drew | (show w.heap.size ≤ w.heap.size + 1; omega) | (show w.heap.size ≤ w.heap.size; omega))
set_option maxRecDepth 100000 in
set_option maxHeartbeats 3200000 in
theorem see_calm (s : St) (n : Int) (w : World) (hok : s.ok) (h1 : ¬ s.high < n) (h2 : n < s.low) (h3 : s.calm + 1 < s.quiet) : Calls Try.prog 10 #[.agg #[.int .i64 s.limit, .int .i64 s.least, .int .i64 s.most, .int .i64 s.low, .int .i64 s.high, .int .i64 s.quiet, .int .i64 s.calm], .int .i64 n] w (SeePost w (⟨s.limit, s.least, s.most, s.low, s.high, s.quiet, s.calm + 1⟩, false)) := by
  have hC := check_any s
  rw [show s.err = 0 from if_pos hok] at hC
  have HC := Lib.hid hC
  have hz := zone_any s n
  rw [show zoneS s n = -1 from by unfold zoneS; rw [if_neg h1, if_pos h2]] at hz
  have HZ := Lib.hid hz
  obtain ⟨⟨q1, q2, q3, q4⟩, _, ⟨q8, q9⟩, q10, q11⟩ := hok
  clear hC hz
  have hA := (Blk.new w 24 #[.int .i64 s.limit, .int .i64 s.least, .int .i64 s.most, .int .i64 s.low, .int .i64 s.high, .int .i64 s.quiet, .int .i64 s.calm]).alloc (.cells #[.int .i64 0, .int .i64 0, .int .i64 0, .int .i64 0, .int .i64 0, .int .i64 0, .int .i64 0] 24)
  have hR := Blk.new (w.alloc (.cells #[.int .i64 s.limit, .int .i64 s.least, .int .i64 s.most, .int .i64 s.low, .int .i64 s.high, .int .i64 s.quiet, .int .i64 s.calm] 24)) 24 #[.int .i64 0, .int .i64 0, .int .i64 0, .int .i64 0, .int .i64 0, .int .i64 0, .int .i64 0]
  simp only [World.size_alloc] at hR
  have hL := lo_alloc (lo_alloc (lo_refl w) (.cells #[.int .i64 s.limit, .int .i64 s.least, .int .i64 s.most, .int .i64 s.low, .int .i64 s.high, .int .i64 s.quiet, .int .i64 s.calm] 24)) (.cells #[.int .i64 0, .int .i64 0, .int .i64 0, .int .i64 0, .int .i64 0, .int .i64 0, .int .i64 0] 24)
  go_enter Try.func10, Try.ntmps10
  go_wp2_with fail
  refine (HC.out _).mono ?_
  rintro e w1 ⟨rfl, hb⟩
  have hA := hA.lo hb
  have hR := hR.lo hb
  have hL := lo_trans hL hb
  clear hb
  go_upto_region 3 with fail
  refine wp_region_held_drew (S := (fun W => W.cell? ⟨w.heap.size, 0, none⟩ = some (.int .i64 s.limit) ∧ W.cell? ⟨w.heap.size, 1, none⟩ = some (.int .i64 s.least) ∧ W.cell? ⟨w.heap.size, 2, none⟩ = some (.int .i64 s.most) ∧ W.cell? ⟨w.heap.size, 3, none⟩ = some (.int .i64 s.low) ∧ W.cell? ⟨w.heap.size, 4, none⟩ = some (.int .i64 s.high) ∧ W.cell? ⟨w.heap.size, 5, none⟩ = some (.int .i64 s.quiet) ∧ W.cell? ⟨w.heap.size, 6, none⟩ = some (.int .i64 s.calm) ∧ w.heap.size < W.heap.size)) (by kernel_rfl) ?_ (fun hHeld => ?_)
  focus ((try dsimp only); (have q := hA.facts.1; exact ⟨q 0, q 1, q 2, q 3, q 4, q 5, q 6, hA.lt⟩))
  have hA : Blk w1.drew _ _ _ := hA
  have hR : Blk w1.drew _ _ _ := hR
  have hL := lo_drew hL
  generalize w1.drew = wd at *
  first
  | (refine wpAnyH_take (i := 0) (oi := _) (v := ?_) (getop rfl) (by kernel_rfl) (by kernel_rfl) (by kernel_rfl) (fun _ _ _ h => h) (Or.inl ⟨by rfl, ?_⟩) (by assumption) ?_; rotate_left; focus (intro w hSw; (try dsimp only at hSw); go_simp; (try with_reducible rfl); done))
  | (refine wpAnyH_take (i := 0) (oi := _) (v := undef) (getop rfl) (by kernel_rfl) (by kernel_rfl) (by kernel_rfl) (fun _ _ _ h => h) (Or.inr ⟨by rfl, rfl⟩) (by assumption) ?_)
  (try simp only [Act.put, List.setIfInBounds_toArray, List.set_cons_zero, List.set_cons_succ])
  first
  | (refine wpAnyH_take (i := 1) (oi := _) (v := ?_) (getop rfl) (by kernel_rfl) (by kernel_rfl) (by kernel_rfl) (fun _ _ _ h => h) (Or.inl ⟨by rfl, ?_⟩) (by assumption) ?_; rotate_left; focus (intro w hSw; (try dsimp only at hSw); go_simp; (try with_reducible rfl); done))
  | (refine wpAnyH_take (i := 1) (oi := _) (v := undef) (getop rfl) (by kernel_rfl) (by kernel_rfl) (by kernel_rfl) (fun _ _ _ h => h) (Or.inr ⟨by rfl, rfl⟩) (by assumption) ?_)
  (try simp only [Act.put, List.setIfInBounds_toArray, List.set_cons_zero, List.set_cons_succ])
  first
  | (refine wpAnyH_take (i := 2) (oi := _) (v := ?_) (getop rfl) (by kernel_rfl) (by kernel_rfl) (by kernel_rfl) (fun _ _ _ h => h) (Or.inl ⟨by rfl, ?_⟩) (by assumption) ?_; rotate_left; focus (intro w hSw; (try dsimp only at hSw); go_simp; (try with_reducible rfl); done))
  | (refine wpAnyH_take (i := 2) (oi := _) (v := undef) (getop rfl) (by kernel_rfl) (by kernel_rfl) (by kernel_rfl) (fun _ _ _ h => h) (Or.inr ⟨by rfl, rfl⟩) (by assumption) ?_)
  (try simp only [Act.put, List.setIfInBounds_toArray, List.set_cons_zero, List.set_cons_succ])
  first
  | (refine wpAnyH_take (i := 3) (oi := _) (v := ?_) (getop rfl) (by kernel_rfl) (by kernel_rfl) (by kernel_rfl) (fun _ _ _ h => h) (Or.inl ⟨by rfl, ?_⟩) (by assumption) ?_; rotate_left; focus (intro w hSw; (try dsimp only at hSw); go_simp; (try with_reducible rfl); done))
  | (refine wpAnyH_take (i := 3) (oi := _) (v := undef) (getop rfl) (by kernel_rfl) (by kernel_rfl) (by kernel_rfl) (fun _ _ _ h => h) (Or.inr ⟨by rfl, rfl⟩) (by assumption) ?_)
  (try simp only [Act.put, List.setIfInBounds_toArray, List.set_cons_zero, List.set_cons_succ])
  refine wpAnyH_ready (rs := [4]) (by kernel_rfl) (by simp) ?_
  refine AllReadyH.cons (o := _) (getop rfl) (fun K hK => ?_) AllReadyH.nil
  go_simp
  (refine (HZ.out _).mono ?_; rintro e wx ⟨rfl, hb⟩; have hA := hA.lo hb; have hR := hR.lo hb; have hL := lo_trans hL hb; clear hb)
  refine hK.out _ _ ?_ (fun hHeld4 => ?_)
  focus ((try dsimp only); (have q := hA.facts.1; exact ⟨q 0, q 1, q 2, q 3, q 4, q 5, q 6, hA.lt⟩))
  clear hK K hHeld
  have hHeld := hHeld4
  clear hHeld4
  (try simp only [Act.put, List.setIfInBounds_toArray, List.set_cons_zero, List.set_cons_succ])
  first
  | (refine wpAnyH_take (i := 5) (oi := _) (v := ?_) (getop rfl) (by kernel_rfl) (by kernel_rfl) (by kernel_rfl) (fun _ _ _ h => h) (Or.inl ⟨by rfl, ?_⟩) (by assumption) ?_; rotate_left; focus (intro w hSw; (try dsimp only at hSw); go_simp; (try with_reducible rfl); done))
  | (refine wpAnyH_take (i := 5) (oi := _) (v := undef) (getop rfl) (by kernel_rfl) (by kernel_rfl) (by kernel_rfl) (fun _ _ _ h => h) (Or.inr ⟨by rfl, rfl⟩) (by assumption) ?_)
  (try simp only [Act.put, List.setIfInBounds_toArray, List.set_cons_zero, List.set_cons_succ])
  first
  | (refine wpAnyH_take (i := 6) (oi := _) (v := ?_) (getop rfl) (by kernel_rfl) (by kernel_rfl) (by kernel_rfl) (fun _ _ _ h => h) (Or.inl ⟨by rfl, ?_⟩) (by assumption) ?_; rotate_left; focus (intro w hSw; (try dsimp only at hSw); go_simp; (try with_reducible rfl); done))
  | (refine wpAnyH_take (i := 6) (oi := _) (v := undef) (getop rfl) (by kernel_rfl) (by kernel_rfl) (by kernel_rfl) (fun _ _ _ h => h) (Or.inr ⟨by rfl, rfl⟩) (by assumption) ?_)
  (try simp only [Act.put, List.setIfInBounds_toArray, List.set_cons_zero, List.set_cons_succ])
  refine wpAnyH_done (by kernel_rfl) ?_ _
  obtain ⟨cA, fA⟩ := hA.facts
  obtain ⟨cR, fR⟩ := hR.facts
  have lA := hA.lt
  have HL := Lib.hid hL
  clear hA hR hL
  skip
  go_upto_region 11 with fail
  go_region
  go_wp2_with fail
  refine bodyPost_ret (v := .tuple #[.agg #[.int .i64 s.limit, .int .i64 s.least, .int .i64 s.most, .int .i64 s.low, .int .i64 s.high, .int .i64 s.quiet, .int .i64 (s.calm + 1)], .bool (false)]) (by simp [results, Try.results10, go_sem, cR] <;> rfl) rfl ⟨by simp, ?_⟩
  have hl := HL.out
  repeat' (first | with_reducible exact hl | with_reducible apply lo_set | with_reducible apply lo_drew | (show w.heap.size ≤ w.heap.size + 1; omega) | (show w.heap.size ≤ w.heap.size; omega))
set_option maxRecDepth 100000 in
set_option maxHeartbeats 3200000 in
theorem see_high1 (s : St) (n : Int) (w : World) (hok : s.ok) (h1 : s.high < n) (hm : s.least ≤ s.limit / 2) : Calls Try.prog 10 #[.agg #[.int .i64 s.limit, .int .i64 s.least, .int .i64 s.most, .int .i64 s.low, .int .i64 s.high, .int .i64 s.quiet, .int .i64 s.calm], .int .i64 n] w (SeePost w (⟨s.limit / 2, s.least, s.most, s.low, s.high, s.quiet, 0⟩, decide (s.limit / 2 ≠ s.limit))) := by
  have hC := check_any s
  rw [show s.err = 0 from if_pos hok] at hC
  have HC := Lib.hid hC
  have hz := zone_any s n
  rw [show zoneS s n = 1 from by unfold zoneS; rw [if_pos h1]] at hz
  have HZ := Lib.hid hz
  obtain ⟨⟨q1, q2, q3, q4⟩, _, ⟨q8, q9⟩, q10, q11⟩ := hok
  clear hC hz
  have hA := (Blk.new w 24 #[.int .i64 s.limit, .int .i64 s.least, .int .i64 s.most, .int .i64 s.low, .int .i64 s.high, .int .i64 s.quiet, .int .i64 s.calm]).alloc (.cells #[.int .i64 0, .int .i64 0, .int .i64 0, .int .i64 0, .int .i64 0, .int .i64 0, .int .i64 0] 24)
  have hR := Blk.new (w.alloc (.cells #[.int .i64 s.limit, .int .i64 s.least, .int .i64 s.most, .int .i64 s.low, .int .i64 s.high, .int .i64 s.quiet, .int .i64 s.calm] 24)) 24 #[.int .i64 0, .int .i64 0, .int .i64 0, .int .i64 0, .int .i64 0, .int .i64 0, .int .i64 0]
  simp only [World.size_alloc] at hR
  have hL := lo_alloc (lo_alloc (lo_refl w) (.cells #[.int .i64 s.limit, .int .i64 s.least, .int .i64 s.most, .int .i64 s.low, .int .i64 s.high, .int .i64 s.quiet, .int .i64 s.calm] 24)) (.cells #[.int .i64 0, .int .i64 0, .int .i64 0, .int .i64 0, .int .i64 0, .int .i64 0, .int .i64 0] 24)
  go_enter Try.func10, Try.ntmps10
  go_wp2_with fail
  refine (HC.out _).mono ?_
  rintro e w1 ⟨rfl, hb⟩
  have hA := hA.lo hb
  have hR := hR.lo hb
  have hL := lo_trans hL hb
  clear hb
  go_upto_region 3 with fail
  refine wp_region_held_drew (S := (fun W => W.cell? ⟨w.heap.size, 0, none⟩ = some (.int .i64 s.limit) ∧ W.cell? ⟨w.heap.size, 1, none⟩ = some (.int .i64 s.least) ∧ W.cell? ⟨w.heap.size, 2, none⟩ = some (.int .i64 s.most) ∧ W.cell? ⟨w.heap.size, 3, none⟩ = some (.int .i64 s.low) ∧ W.cell? ⟨w.heap.size, 4, none⟩ = some (.int .i64 s.high) ∧ W.cell? ⟨w.heap.size, 5, none⟩ = some (.int .i64 s.quiet) ∧ W.cell? ⟨w.heap.size, 6, none⟩ = some (.int .i64 s.calm) ∧ w.heap.size < W.heap.size)) (by kernel_rfl) ?_ (fun hHeld => ?_)
  focus ((try dsimp only); (have q := hA.facts.1; exact ⟨q 0, q 1, q 2, q 3, q 4, q 5, q 6, hA.lt⟩))
  have hA : Blk w1.drew _ _ _ := hA
  have hR : Blk w1.drew _ _ _ := hR
  have hL := lo_drew hL
  generalize w1.drew = wd at *
  first
  | (refine wpAnyH_take (i := 0) (oi := _) (v := ?_) (getop rfl) (by kernel_rfl) (by kernel_rfl) (by kernel_rfl) (fun _ _ _ h => h) (Or.inl ⟨by rfl, ?_⟩) (by assumption) ?_; rotate_left; focus (intro w hSw; (try dsimp only at hSw); go_simp; (try with_reducible rfl); done))
  | (refine wpAnyH_take (i := 0) (oi := _) (v := undef) (getop rfl) (by kernel_rfl) (by kernel_rfl) (by kernel_rfl) (fun _ _ _ h => h) (Or.inr ⟨by rfl, rfl⟩) (by assumption) ?_)
  (try simp only [Act.put, List.setIfInBounds_toArray, List.set_cons_zero, List.set_cons_succ])
  first
  | (refine wpAnyH_take (i := 1) (oi := _) (v := ?_) (getop rfl) (by kernel_rfl) (by kernel_rfl) (by kernel_rfl) (fun _ _ _ h => h) (Or.inl ⟨by rfl, ?_⟩) (by assumption) ?_; rotate_left; focus (intro w hSw; (try dsimp only at hSw); go_simp; (try with_reducible rfl); done))
  | (refine wpAnyH_take (i := 1) (oi := _) (v := undef) (getop rfl) (by kernel_rfl) (by kernel_rfl) (by kernel_rfl) (fun _ _ _ h => h) (Or.inr ⟨by rfl, rfl⟩) (by assumption) ?_)
  (try simp only [Act.put, List.setIfInBounds_toArray, List.set_cons_zero, List.set_cons_succ])
  first
  | (refine wpAnyH_take (i := 2) (oi := _) (v := ?_) (getop rfl) (by kernel_rfl) (by kernel_rfl) (by kernel_rfl) (fun _ _ _ h => h) (Or.inl ⟨by rfl, ?_⟩) (by assumption) ?_; rotate_left; focus (intro w hSw; (try dsimp only at hSw); go_simp; (try with_reducible rfl); done))
  | (refine wpAnyH_take (i := 2) (oi := _) (v := undef) (getop rfl) (by kernel_rfl) (by kernel_rfl) (by kernel_rfl) (fun _ _ _ h => h) (Or.inr ⟨by rfl, rfl⟩) (by assumption) ?_)
  (try simp only [Act.put, List.setIfInBounds_toArray, List.set_cons_zero, List.set_cons_succ])
  first
  | (refine wpAnyH_take (i := 3) (oi := _) (v := ?_) (getop rfl) (by kernel_rfl) (by kernel_rfl) (by kernel_rfl) (fun _ _ _ h => h) (Or.inl ⟨by rfl, ?_⟩) (by assumption) ?_; rotate_left; focus (intro w hSw; (try dsimp only at hSw); go_simp; (try with_reducible rfl); done))
  | (refine wpAnyH_take (i := 3) (oi := _) (v := undef) (getop rfl) (by kernel_rfl) (by kernel_rfl) (by kernel_rfl) (fun _ _ _ h => h) (Or.inr ⟨by rfl, rfl⟩) (by assumption) ?_)
  (try simp only [Act.put, List.setIfInBounds_toArray, List.set_cons_zero, List.set_cons_succ])
  refine wpAnyH_ready (rs := [4]) (by kernel_rfl) (by simp) ?_
  refine AllReadyH.cons (o := _) (getop rfl) (fun K hK => ?_) AllReadyH.nil
  go_simp
  (refine (HZ.out _).mono ?_; rintro e wx ⟨rfl, hb⟩; have hA := hA.lo hb; have hR := hR.lo hb; have hL := lo_trans hL hb; clear hb)
  refine hK.out _ _ ?_ (fun hHeld4 => ?_)
  focus ((try dsimp only); (have q := hA.facts.1; exact ⟨q 0, q 1, q 2, q 3, q 4, q 5, q 6, hA.lt⟩))
  clear hK K hHeld
  have hHeld := hHeld4
  clear hHeld4
  (try simp only [Act.put, List.setIfInBounds_toArray, List.set_cons_zero, List.set_cons_succ])
  first
  | (refine wpAnyH_take (i := 5) (oi := _) (v := ?_) (getop rfl) (by kernel_rfl) (by kernel_rfl) (by kernel_rfl) (fun _ _ _ h => h) (Or.inl ⟨by rfl, ?_⟩) (by assumption) ?_; rotate_left; focus (intro w hSw; (try dsimp only at hSw); go_simp; (try with_reducible rfl); done))
  | (refine wpAnyH_take (i := 5) (oi := _) (v := undef) (getop rfl) (by kernel_rfl) (by kernel_rfl) (by kernel_rfl) (fun _ _ _ h => h) (Or.inr ⟨by rfl, rfl⟩) (by assumption) ?_)
  (try simp only [Act.put, List.setIfInBounds_toArray, List.set_cons_zero, List.set_cons_succ])
  first
  | (refine wpAnyH_take (i := 6) (oi := _) (v := ?_) (getop rfl) (by kernel_rfl) (by kernel_rfl) (by kernel_rfl) (fun _ _ _ h => h) (Or.inl ⟨by rfl, ?_⟩) (by assumption) ?_; rotate_left; focus (intro w hSw; (try dsimp only at hSw); go_simp; (try with_reducible rfl); done))
  | (refine wpAnyH_take (i := 6) (oi := _) (v := undef) (getop rfl) (by kernel_rfl) (by kernel_rfl) (by kernel_rfl) (fun _ _ _ h => h) (Or.inr ⟨by rfl, rfl⟩) (by assumption) ?_)
  (try simp only [Act.put, List.setIfInBounds_toArray, List.set_cons_zero, List.set_cons_succ])
  refine wpAnyH_done (by kernel_rfl) ?_ _
  obtain ⟨cA, fA⟩ := hA.facts
  obtain ⟨cR, fR⟩ := hR.facts
  have lA := hA.lt
  have HL := Lib.hid hL
  clear hA hR hL
  skip
  go_upto_region 11 with fail
  go_region
  go_wp2_with fail
  refine bodyPost_ret (v := .tuple #[.agg #[.int .i64 (s.limit / 2), .int .i64 s.least, .int .i64 s.most, .int .i64 s.low, .int .i64 s.high, .int .i64 s.quiet, .int .i64 (0)], .bool (decide (s.limit / 2 ≠ s.limit))]) (by simp [results, Try.results10, go_sem, cR] <;> rfl) rfl ⟨by simp, ?_⟩
  have hl := HL.out
  repeat' (first | with_reducible exact hl | with_reducible apply lo_set | with_reducible apply lo_drew | (show w.heap.size ≤ w.heap.size + 1; omega) | (show w.heap.size ≤ w.heap.size; omega))
set_option maxRecDepth 100000 in
set_option maxHeartbeats 3200000 in
theorem see_high2 (s : St) (n : Int) (w : World) (hok : s.ok) (h1 : s.high < n) (hm : ¬ s.least ≤ s.limit / 2) : Calls Try.prog 10 #[.agg #[.int .i64 s.limit, .int .i64 s.least, .int .i64 s.most, .int .i64 s.low, .int .i64 s.high, .int .i64 s.quiet, .int .i64 s.calm], .int .i64 n] w (SeePost w (⟨s.least, s.least, s.most, s.low, s.high, s.quiet, 0⟩, decide (s.least ≠ s.limit))) := by
  have hC := check_any s
  rw [show s.err = 0 from if_pos hok] at hC
  have HC := Lib.hid hC
  have hz := zone_any s n
  rw [show zoneS s n = 1 from by unfold zoneS; rw [if_pos h1]] at hz
  have HZ := Lib.hid hz
  obtain ⟨⟨q1, q2, q3, q4⟩, _, ⟨q8, q9⟩, q10, q11⟩ := hok
  clear hC hz
  have hA := (Blk.new w 24 #[.int .i64 s.limit, .int .i64 s.least, .int .i64 s.most, .int .i64 s.low, .int .i64 s.high, .int .i64 s.quiet, .int .i64 s.calm]).alloc (.cells #[.int .i64 0, .int .i64 0, .int .i64 0, .int .i64 0, .int .i64 0, .int .i64 0, .int .i64 0] 24)
  have hR := Blk.new (w.alloc (.cells #[.int .i64 s.limit, .int .i64 s.least, .int .i64 s.most, .int .i64 s.low, .int .i64 s.high, .int .i64 s.quiet, .int .i64 s.calm] 24)) 24 #[.int .i64 0, .int .i64 0, .int .i64 0, .int .i64 0, .int .i64 0, .int .i64 0, .int .i64 0]
  simp only [World.size_alloc] at hR
  have hL := lo_alloc (lo_alloc (lo_refl w) (.cells #[.int .i64 s.limit, .int .i64 s.least, .int .i64 s.most, .int .i64 s.low, .int .i64 s.high, .int .i64 s.quiet, .int .i64 s.calm] 24)) (.cells #[.int .i64 0, .int .i64 0, .int .i64 0, .int .i64 0, .int .i64 0, .int .i64 0, .int .i64 0] 24)
  go_enter Try.func10, Try.ntmps10
  go_wp2_with fail
  refine (HC.out _).mono ?_
  rintro e w1 ⟨rfl, hb⟩
  have hA := hA.lo hb
  have hR := hR.lo hb
  have hL := lo_trans hL hb
  clear hb
  go_upto_region 3 with fail
  refine wp_region_held_drew (S := (fun W => W.cell? ⟨w.heap.size, 0, none⟩ = some (.int .i64 s.limit) ∧ W.cell? ⟨w.heap.size, 1, none⟩ = some (.int .i64 s.least) ∧ W.cell? ⟨w.heap.size, 2, none⟩ = some (.int .i64 s.most) ∧ W.cell? ⟨w.heap.size, 3, none⟩ = some (.int .i64 s.low) ∧ W.cell? ⟨w.heap.size, 4, none⟩ = some (.int .i64 s.high) ∧ W.cell? ⟨w.heap.size, 5, none⟩ = some (.int .i64 s.quiet) ∧ W.cell? ⟨w.heap.size, 6, none⟩ = some (.int .i64 s.calm) ∧ w.heap.size < W.heap.size)) (by kernel_rfl) ?_ (fun hHeld => ?_)
  focus ((try dsimp only); (have q := hA.facts.1; exact ⟨q 0, q 1, q 2, q 3, q 4, q 5, q 6, hA.lt⟩))
  have hA : Blk w1.drew _ _ _ := hA
  have hR : Blk w1.drew _ _ _ := hR
  have hL := lo_drew hL
  generalize w1.drew = wd at *
  first
  | (refine wpAnyH_take (i := 0) (oi := _) (v := ?_) (getop rfl) (by kernel_rfl) (by kernel_rfl) (by kernel_rfl) (fun _ _ _ h => h) (Or.inl ⟨by rfl, ?_⟩) (by assumption) ?_; rotate_left; focus (intro w hSw; (try dsimp only at hSw); go_simp; (try with_reducible rfl); done))
  | (refine wpAnyH_take (i := 0) (oi := _) (v := undef) (getop rfl) (by kernel_rfl) (by kernel_rfl) (by kernel_rfl) (fun _ _ _ h => h) (Or.inr ⟨by rfl, rfl⟩) (by assumption) ?_)
  (try simp only [Act.put, List.setIfInBounds_toArray, List.set_cons_zero, List.set_cons_succ])
  first
  | (refine wpAnyH_take (i := 1) (oi := _) (v := ?_) (getop rfl) (by kernel_rfl) (by kernel_rfl) (by kernel_rfl) (fun _ _ _ h => h) (Or.inl ⟨by rfl, ?_⟩) (by assumption) ?_; rotate_left; focus (intro w hSw; (try dsimp only at hSw); go_simp; (try with_reducible rfl); done))
  | (refine wpAnyH_take (i := 1) (oi := _) (v := undef) (getop rfl) (by kernel_rfl) (by kernel_rfl) (by kernel_rfl) (fun _ _ _ h => h) (Or.inr ⟨by rfl, rfl⟩) (by assumption) ?_)
  (try simp only [Act.put, List.setIfInBounds_toArray, List.set_cons_zero, List.set_cons_succ])
  first
  | (refine wpAnyH_take (i := 2) (oi := _) (v := ?_) (getop rfl) (by kernel_rfl) (by kernel_rfl) (by kernel_rfl) (fun _ _ _ h => h) (Or.inl ⟨by rfl, ?_⟩) (by assumption) ?_; rotate_left; focus (intro w hSw; (try dsimp only at hSw); go_simp; (try with_reducible rfl); done))
  | (refine wpAnyH_take (i := 2) (oi := _) (v := undef) (getop rfl) (by kernel_rfl) (by kernel_rfl) (by kernel_rfl) (fun _ _ _ h => h) (Or.inr ⟨by rfl, rfl⟩) (by assumption) ?_)
  (try simp only [Act.put, List.setIfInBounds_toArray, List.set_cons_zero, List.set_cons_succ])
  first
  | (refine wpAnyH_take (i := 3) (oi := _) (v := ?_) (getop rfl) (by kernel_rfl) (by kernel_rfl) (by kernel_rfl) (fun _ _ _ h => h) (Or.inl ⟨by rfl, ?_⟩) (by assumption) ?_; rotate_left; focus (intro w hSw; (try dsimp only at hSw); go_simp; (try with_reducible rfl); done))
  | (refine wpAnyH_take (i := 3) (oi := _) (v := undef) (getop rfl) (by kernel_rfl) (by kernel_rfl) (by kernel_rfl) (fun _ _ _ h => h) (Or.inr ⟨by rfl, rfl⟩) (by assumption) ?_)
  (try simp only [Act.put, List.setIfInBounds_toArray, List.set_cons_zero, List.set_cons_succ])
  refine wpAnyH_ready (rs := [4]) (by kernel_rfl) (by simp) ?_
  refine AllReadyH.cons (o := _) (getop rfl) (fun K hK => ?_) AllReadyH.nil
  go_simp
  (refine (HZ.out _).mono ?_; rintro e wx ⟨rfl, hb⟩; have hA := hA.lo hb; have hR := hR.lo hb; have hL := lo_trans hL hb; clear hb)
  refine hK.out _ _ ?_ (fun hHeld4 => ?_)
  focus ((try dsimp only); (have q := hA.facts.1; exact ⟨q 0, q 1, q 2, q 3, q 4, q 5, q 6, hA.lt⟩))
  clear hK K hHeld
  have hHeld := hHeld4
  clear hHeld4
  (try simp only [Act.put, List.setIfInBounds_toArray, List.set_cons_zero, List.set_cons_succ])
  first
  | (refine wpAnyH_take (i := 5) (oi := _) (v := ?_) (getop rfl) (by kernel_rfl) (by kernel_rfl) (by kernel_rfl) (fun _ _ _ h => h) (Or.inl ⟨by rfl, ?_⟩) (by assumption) ?_; rotate_left; focus (intro w hSw; (try dsimp only at hSw); go_simp; (try with_reducible rfl); done))
  | (refine wpAnyH_take (i := 5) (oi := _) (v := undef) (getop rfl) (by kernel_rfl) (by kernel_rfl) (by kernel_rfl) (fun _ _ _ h => h) (Or.inr ⟨by rfl, rfl⟩) (by assumption) ?_)
  (try simp only [Act.put, List.setIfInBounds_toArray, List.set_cons_zero, List.set_cons_succ])
  first
  | (refine wpAnyH_take (i := 6) (oi := _) (v := ?_) (getop rfl) (by kernel_rfl) (by kernel_rfl) (by kernel_rfl) (fun _ _ _ h => h) (Or.inl ⟨by rfl, ?_⟩) (by assumption) ?_; rotate_left; focus (intro w hSw; (try dsimp only at hSw); go_simp; (try with_reducible rfl); done))
  | (refine wpAnyH_take (i := 6) (oi := _) (v := undef) (getop rfl) (by kernel_rfl) (by kernel_rfl) (by kernel_rfl) (fun _ _ _ h => h) (Or.inr ⟨by rfl, rfl⟩) (by assumption) ?_)
  (try simp only [Act.put, List.setIfInBounds_toArray, List.set_cons_zero, List.set_cons_succ])
  refine wpAnyH_done (by kernel_rfl) ?_ _
  obtain ⟨cA, fA⟩ := hA.facts
  obtain ⟨cR, fR⟩ := hR.facts
  have lA := hA.lt
  have HL := Lib.hid hL
  clear hA hR hL
  skip
  go_upto_region 11 with fail
  go_region
  go_wp2_with fail
  refine bodyPost_ret (v := .tuple #[.agg #[.int .i64 (s.least), .int .i64 s.least, .int .i64 s.most, .int .i64 s.low, .int .i64 s.high, .int .i64 s.quiet, .int .i64 (0)], .bool (decide (s.least ≠ s.limit))]) (by simp [results, Try.results10, go_sem, cR] <;> rfl) rfl ⟨by simp, ?_⟩
  have hl := HL.out
  repeat' (first | with_reducible exact hl | with_reducible apply lo_set | with_reducible apply lo_drew | (show w.heap.size ≤ w.heap.size + 1; omega) | (show w.heap.size ≤ w.heap.size; omega))
set_option maxRecDepth 100000 in
set_option maxHeartbeats 3200000 in
theorem see_low1 (s : St) (n : Int) (w : World) (hok : s.ok) (h1 : ¬ s.high < n) (h2 : n < s.low) (h3 : ¬ s.calm + 1 < s.quiet) (hm : ¬ s.most < s.limit + 1) : Calls Try.prog 10 #[.agg #[.int .i64 s.limit, .int .i64 s.least, .int .i64 s.most, .int .i64 s.low, .int .i64 s.high, .int .i64 s.quiet, .int .i64 s.calm], .int .i64 n] w (SeePost w (⟨s.limit + 1, s.least, s.most, s.low, s.high, s.quiet, 0⟩, decide (s.limit + 1 ≠ s.limit))) := by
  have hC := check_any s
  rw [show s.err = 0 from if_pos hok] at hC
  have HC := Lib.hid hC
  have hz := zone_any s n
  rw [show zoneS s n = -1 from by unfold zoneS; rw [if_neg h1, if_pos h2]] at hz
  have HZ := Lib.hid hz
  obtain ⟨⟨q1, q2, q3, q4⟩, _, ⟨q8, q9⟩, q10, q11⟩ := hok
  clear hC hz
  have hA := (Blk.new w 24 #[.int .i64 s.limit, .int .i64 s.least, .int .i64 s.most, .int .i64 s.low, .int .i64 s.high, .int .i64 s.quiet, .int .i64 s.calm]).alloc (.cells #[.int .i64 0, .int .i64 0, .int .i64 0, .int .i64 0, .int .i64 0, .int .i64 0, .int .i64 0] 24)
  have hR := Blk.new (w.alloc (.cells #[.int .i64 s.limit, .int .i64 s.least, .int .i64 s.most, .int .i64 s.low, .int .i64 s.high, .int .i64 s.quiet, .int .i64 s.calm] 24)) 24 #[.int .i64 0, .int .i64 0, .int .i64 0, .int .i64 0, .int .i64 0, .int .i64 0, .int .i64 0]
  simp only [World.size_alloc] at hR
  have hL := lo_alloc (lo_alloc (lo_refl w) (.cells #[.int .i64 s.limit, .int .i64 s.least, .int .i64 s.most, .int .i64 s.low, .int .i64 s.high, .int .i64 s.quiet, .int .i64 s.calm] 24)) (.cells #[.int .i64 0, .int .i64 0, .int .i64 0, .int .i64 0, .int .i64 0, .int .i64 0, .int .i64 0] 24)
  go_enter Try.func10, Try.ntmps10
  go_wp2_with fail
  refine (HC.out _).mono ?_
  rintro e w1 ⟨rfl, hb⟩
  have hA := hA.lo hb
  have hR := hR.lo hb
  have hL := lo_trans hL hb
  clear hb
  go_upto_region 3 with fail
  refine wp_region_held_drew (S := (fun W => W.cell? ⟨w.heap.size, 0, none⟩ = some (.int .i64 s.limit) ∧ W.cell? ⟨w.heap.size, 1, none⟩ = some (.int .i64 s.least) ∧ W.cell? ⟨w.heap.size, 2, none⟩ = some (.int .i64 s.most) ∧ W.cell? ⟨w.heap.size, 3, none⟩ = some (.int .i64 s.low) ∧ W.cell? ⟨w.heap.size, 4, none⟩ = some (.int .i64 s.high) ∧ W.cell? ⟨w.heap.size, 5, none⟩ = some (.int .i64 s.quiet) ∧ W.cell? ⟨w.heap.size, 6, none⟩ = some (.int .i64 s.calm) ∧ w.heap.size < W.heap.size)) (by kernel_rfl) ?_ (fun hHeld => ?_)
  focus ((try dsimp only); (have q := hA.facts.1; exact ⟨q 0, q 1, q 2, q 3, q 4, q 5, q 6, hA.lt⟩))
  have hA : Blk w1.drew _ _ _ := hA
  have hR : Blk w1.drew _ _ _ := hR
  have hL := lo_drew hL
  generalize w1.drew = wd at *
  first
  | (refine wpAnyH_take (i := 0) (oi := _) (v := ?_) (getop rfl) (by kernel_rfl) (by kernel_rfl) (by kernel_rfl) (fun _ _ _ h => h) (Or.inl ⟨by rfl, ?_⟩) (by assumption) ?_; rotate_left; focus (intro w hSw; (try dsimp only at hSw); go_simp; (try with_reducible rfl); done))
  | (refine wpAnyH_take (i := 0) (oi := _) (v := undef) (getop rfl) (by kernel_rfl) (by kernel_rfl) (by kernel_rfl) (fun _ _ _ h => h) (Or.inr ⟨by rfl, rfl⟩) (by assumption) ?_)
  (try simp only [Act.put, List.setIfInBounds_toArray, List.set_cons_zero, List.set_cons_succ])
  first
  | (refine wpAnyH_take (i := 1) (oi := _) (v := ?_) (getop rfl) (by kernel_rfl) (by kernel_rfl) (by kernel_rfl) (fun _ _ _ h => h) (Or.inl ⟨by rfl, ?_⟩) (by assumption) ?_; rotate_left; focus (intro w hSw; (try dsimp only at hSw); go_simp; (try with_reducible rfl); done))
  | (refine wpAnyH_take (i := 1) (oi := _) (v := undef) (getop rfl) (by kernel_rfl) (by kernel_rfl) (by kernel_rfl) (fun _ _ _ h => h) (Or.inr ⟨by rfl, rfl⟩) (by assumption) ?_)
  (try simp only [Act.put, List.setIfInBounds_toArray, List.set_cons_zero, List.set_cons_succ])
  first
  | (refine wpAnyH_take (i := 2) (oi := _) (v := ?_) (getop rfl) (by kernel_rfl) (by kernel_rfl) (by kernel_rfl) (fun _ _ _ h => h) (Or.inl ⟨by rfl, ?_⟩) (by assumption) ?_; rotate_left; focus (intro w hSw; (try dsimp only at hSw); go_simp; (try with_reducible rfl); done))
  | (refine wpAnyH_take (i := 2) (oi := _) (v := undef) (getop rfl) (by kernel_rfl) (by kernel_rfl) (by kernel_rfl) (fun _ _ _ h => h) (Or.inr ⟨by rfl, rfl⟩) (by assumption) ?_)
  (try simp only [Act.put, List.setIfInBounds_toArray, List.set_cons_zero, List.set_cons_succ])
  first
  | (refine wpAnyH_take (i := 3) (oi := _) (v := ?_) (getop rfl) (by kernel_rfl) (by kernel_rfl) (by kernel_rfl) (fun _ _ _ h => h) (Or.inl ⟨by rfl, ?_⟩) (by assumption) ?_; rotate_left; focus (intro w hSw; (try dsimp only at hSw); go_simp; (try with_reducible rfl); done))
  | (refine wpAnyH_take (i := 3) (oi := _) (v := undef) (getop rfl) (by kernel_rfl) (by kernel_rfl) (by kernel_rfl) (fun _ _ _ h => h) (Or.inr ⟨by rfl, rfl⟩) (by assumption) ?_)
  (try simp only [Act.put, List.setIfInBounds_toArray, List.set_cons_zero, List.set_cons_succ])
  refine wpAnyH_ready (rs := [4]) (by kernel_rfl) (by simp) ?_
  refine AllReadyH.cons (o := _) (getop rfl) (fun K hK => ?_) AllReadyH.nil
  go_simp
  (refine (HZ.out _).mono ?_; rintro e wx ⟨rfl, hb⟩; have hA := hA.lo hb; have hR := hR.lo hb; have hL := lo_trans hL hb; clear hb)
  refine hK.out _ _ ?_ (fun hHeld4 => ?_)
  focus ((try dsimp only); (have q := hA.facts.1; exact ⟨q 0, q 1, q 2, q 3, q 4, q 5, q 6, hA.lt⟩))
  clear hK K hHeld
  have hHeld := hHeld4
  clear hHeld4
  (try simp only [Act.put, List.setIfInBounds_toArray, List.set_cons_zero, List.set_cons_succ])
  first
  | (refine wpAnyH_take (i := 5) (oi := _) (v := ?_) (getop rfl) (by kernel_rfl) (by kernel_rfl) (by kernel_rfl) (fun _ _ _ h => h) (Or.inl ⟨by rfl, ?_⟩) (by assumption) ?_; rotate_left; focus (intro w hSw; (try dsimp only at hSw); go_simp; (try with_reducible rfl); done))
  | (refine wpAnyH_take (i := 5) (oi := _) (v := undef) (getop rfl) (by kernel_rfl) (by kernel_rfl) (by kernel_rfl) (fun _ _ _ h => h) (Or.inr ⟨by rfl, rfl⟩) (by assumption) ?_)
  (try simp only [Act.put, List.setIfInBounds_toArray, List.set_cons_zero, List.set_cons_succ])
  first
  | (refine wpAnyH_take (i := 6) (oi := _) (v := ?_) (getop rfl) (by kernel_rfl) (by kernel_rfl) (by kernel_rfl) (fun _ _ _ h => h) (Or.inl ⟨by rfl, ?_⟩) (by assumption) ?_; rotate_left; focus (intro w hSw; (try dsimp only at hSw); go_simp; (try with_reducible rfl); done))
  | (refine wpAnyH_take (i := 6) (oi := _) (v := undef) (getop rfl) (by kernel_rfl) (by kernel_rfl) (by kernel_rfl) (fun _ _ _ h => h) (Or.inr ⟨by rfl, rfl⟩) (by assumption) ?_)
  (try simp only [Act.put, List.setIfInBounds_toArray, List.set_cons_zero, List.set_cons_succ])
  refine wpAnyH_done (by kernel_rfl) ?_ _
  obtain ⟨cA, fA⟩ := hA.facts
  obtain ⟨cR, fR⟩ := hR.facts
  have lA := hA.lt
  have HL := Lib.hid hL
  clear hA hR hL
  skip
  go_upto_region 11 with fail
  go_region
  go_wp2_with fail
  refine bodyPost_ret (v := .tuple #[.agg #[.int .i64 (s.limit + 1), .int .i64 s.least, .int .i64 s.most, .int .i64 s.low, .int .i64 s.high, .int .i64 s.quiet, .int .i64 (0)], .bool (decide (s.limit + 1 ≠ s.limit))]) (by simp [results, Try.results10, go_sem, cR] <;> rfl) rfl ⟨by simp, ?_⟩
  have hl := HL.out
  repeat' (first | with_reducible exact hl | with_reducible apply lo_set | with_reducible apply lo_drew | (show w.heap.size ≤ w.heap.size + 1; omega) | (show w.heap.size ≤ w.heap.size; omega))
set_option maxRecDepth 100000 in
set_option maxHeartbeats 3200000 in
theorem see_low2 (s : St) (n : Int) (w : World) (hok : s.ok) (h1 : ¬ s.high < n) (h2 : n < s.low) (h3 : ¬ s.calm + 1 < s.quiet) (hm : s.most < s.limit + 1) : Calls Try.prog 10 #[.agg #[.int .i64 s.limit, .int .i64 s.least, .int .i64 s.most, .int .i64 s.low, .int .i64 s.high, .int .i64 s.quiet, .int .i64 s.calm], .int .i64 n] w (SeePost w (⟨s.most, s.least, s.most, s.low, s.high, s.quiet, 0⟩, decide (s.most ≠ s.limit))) := by
  have hC := check_any s
  rw [show s.err = 0 from if_pos hok] at hC
  have HC := Lib.hid hC
  have hz := zone_any s n
  rw [show zoneS s n = -1 from by unfold zoneS; rw [if_neg h1, if_pos h2]] at hz
  have HZ := Lib.hid hz
  obtain ⟨⟨q1, q2, q3, q4⟩, _, ⟨q8, q9⟩, q10, q11⟩ := hok
  clear hC hz
  have hA := (Blk.new w 24 #[.int .i64 s.limit, .int .i64 s.least, .int .i64 s.most, .int .i64 s.low, .int .i64 s.high, .int .i64 s.quiet, .int .i64 s.calm]).alloc (.cells #[.int .i64 0, .int .i64 0, .int .i64 0, .int .i64 0, .int .i64 0, .int .i64 0, .int .i64 0] 24)
  have hR := Blk.new (w.alloc (.cells #[.int .i64 s.limit, .int .i64 s.least, .int .i64 s.most, .int .i64 s.low, .int .i64 s.high, .int .i64 s.quiet, .int .i64 s.calm] 24)) 24 #[.int .i64 0, .int .i64 0, .int .i64 0, .int .i64 0, .int .i64 0, .int .i64 0, .int .i64 0]
  simp only [World.size_alloc] at hR
  have hL := lo_alloc (lo_alloc (lo_refl w) (.cells #[.int .i64 s.limit, .int .i64 s.least, .int .i64 s.most, .int .i64 s.low, .int .i64 s.high, .int .i64 s.quiet, .int .i64 s.calm] 24)) (.cells #[.int .i64 0, .int .i64 0, .int .i64 0, .int .i64 0, .int .i64 0, .int .i64 0, .int .i64 0] 24)
  go_enter Try.func10, Try.ntmps10
  go_wp2_with fail
  refine (HC.out _).mono ?_
  rintro e w1 ⟨rfl, hb⟩
  have hA := hA.lo hb
  have hR := hR.lo hb
  have hL := lo_trans hL hb
  clear hb
  go_upto_region 3 with fail
  refine wp_region_held_drew (S := (fun W => W.cell? ⟨w.heap.size, 0, none⟩ = some (.int .i64 s.limit) ∧ W.cell? ⟨w.heap.size, 1, none⟩ = some (.int .i64 s.least) ∧ W.cell? ⟨w.heap.size, 2, none⟩ = some (.int .i64 s.most) ∧ W.cell? ⟨w.heap.size, 3, none⟩ = some (.int .i64 s.low) ∧ W.cell? ⟨w.heap.size, 4, none⟩ = some (.int .i64 s.high) ∧ W.cell? ⟨w.heap.size, 5, none⟩ = some (.int .i64 s.quiet) ∧ W.cell? ⟨w.heap.size, 6, none⟩ = some (.int .i64 s.calm) ∧ w.heap.size < W.heap.size)) (by kernel_rfl) ?_ (fun hHeld => ?_)
  focus ((try dsimp only); (have q := hA.facts.1; exact ⟨q 0, q 1, q 2, q 3, q 4, q 5, q 6, hA.lt⟩))
  have hA : Blk w1.drew _ _ _ := hA
  have hR : Blk w1.drew _ _ _ := hR
  have hL := lo_drew hL
  generalize w1.drew = wd at *
  first
  | (refine wpAnyH_take (i := 0) (oi := _) (v := ?_) (getop rfl) (by kernel_rfl) (by kernel_rfl) (by kernel_rfl) (fun _ _ _ h => h) (Or.inl ⟨by rfl, ?_⟩) (by assumption) ?_; rotate_left; focus (intro w hSw; (try dsimp only at hSw); go_simp; (try with_reducible rfl); done))
  | (refine wpAnyH_take (i := 0) (oi := _) (v := undef) (getop rfl) (by kernel_rfl) (by kernel_rfl) (by kernel_rfl) (fun _ _ _ h => h) (Or.inr ⟨by rfl, rfl⟩) (by assumption) ?_)
  (try simp only [Act.put, List.setIfInBounds_toArray, List.set_cons_zero, List.set_cons_succ])
  first
  | (refine wpAnyH_take (i := 1) (oi := _) (v := ?_) (getop rfl) (by kernel_rfl) (by kernel_rfl) (by kernel_rfl) (fun _ _ _ h => h) (Or.inl ⟨by rfl, ?_⟩) (by assumption) ?_; rotate_left; focus (intro w hSw; (try dsimp only at hSw); go_simp; (try with_reducible rfl); done))
  | (refine wpAnyH_take (i := 1) (oi := _) (v := undef) (getop rfl) (by kernel_rfl) (by kernel_rfl) (by kernel_rfl) (fun _ _ _ h => h) (Or.inr ⟨by rfl, rfl⟩) (by assumption) ?_)
  (try simp only [Act.put, List.setIfInBounds_toArray, List.set_cons_zero, List.set_cons_succ])
  first
  | (refine wpAnyH_take (i := 2) (oi := _) (v := ?_) (getop rfl) (by kernel_rfl) (by kernel_rfl) (by kernel_rfl) (fun _ _ _ h => h) (Or.inl ⟨by rfl, ?_⟩) (by assumption) ?_; rotate_left; focus (intro w hSw; (try dsimp only at hSw); go_simp; (try with_reducible rfl); done))
  | (refine wpAnyH_take (i := 2) (oi := _) (v := undef) (getop rfl) (by kernel_rfl) (by kernel_rfl) (by kernel_rfl) (fun _ _ _ h => h) (Or.inr ⟨by rfl, rfl⟩) (by assumption) ?_)
  (try simp only [Act.put, List.setIfInBounds_toArray, List.set_cons_zero, List.set_cons_succ])
  first
  | (refine wpAnyH_take (i := 3) (oi := _) (v := ?_) (getop rfl) (by kernel_rfl) (by kernel_rfl) (by kernel_rfl) (fun _ _ _ h => h) (Or.inl ⟨by rfl, ?_⟩) (by assumption) ?_; rotate_left; focus (intro w hSw; (try dsimp only at hSw); go_simp; (try with_reducible rfl); done))
  | (refine wpAnyH_take (i := 3) (oi := _) (v := undef) (getop rfl) (by kernel_rfl) (by kernel_rfl) (by kernel_rfl) (fun _ _ _ h => h) (Or.inr ⟨by rfl, rfl⟩) (by assumption) ?_)
  (try simp only [Act.put, List.setIfInBounds_toArray, List.set_cons_zero, List.set_cons_succ])
  refine wpAnyH_ready (rs := [4]) (by kernel_rfl) (by simp) ?_
  refine AllReadyH.cons (o := _) (getop rfl) (fun K hK => ?_) AllReadyH.nil
  go_simp
  (refine (HZ.out _).mono ?_; rintro e wx ⟨rfl, hb⟩; have hA := hA.lo hb; have hR := hR.lo hb; have hL := lo_trans hL hb; clear hb)
  refine hK.out _ _ ?_ (fun hHeld4 => ?_)
  focus ((try dsimp only); (have q := hA.facts.1; exact ⟨q 0, q 1, q 2, q 3, q 4, q 5, q 6, hA.lt⟩))
  clear hK K hHeld
  have hHeld := hHeld4
  clear hHeld4
  (try simp only [Act.put, List.setIfInBounds_toArray, List.set_cons_zero, List.set_cons_succ])
  first
  | (refine wpAnyH_take (i := 5) (oi := _) (v := ?_) (getop rfl) (by kernel_rfl) (by kernel_rfl) (by kernel_rfl) (fun _ _ _ h => h) (Or.inl ⟨by rfl, ?_⟩) (by assumption) ?_; rotate_left; focus (intro w hSw; (try dsimp only at hSw); go_simp; (try with_reducible rfl); done))
  | (refine wpAnyH_take (i := 5) (oi := _) (v := undef) (getop rfl) (by kernel_rfl) (by kernel_rfl) (by kernel_rfl) (fun _ _ _ h => h) (Or.inr ⟨by rfl, rfl⟩) (by assumption) ?_)
  (try simp only [Act.put, List.setIfInBounds_toArray, List.set_cons_zero, List.set_cons_succ])
  first
  | (refine wpAnyH_take (i := 6) (oi := _) (v := ?_) (getop rfl) (by kernel_rfl) (by kernel_rfl) (by kernel_rfl) (fun _ _ _ h => h) (Or.inl ⟨by rfl, ?_⟩) (by assumption) ?_; rotate_left; focus (intro w hSw; (try dsimp only at hSw); go_simp; (try with_reducible rfl); done))
  | (refine wpAnyH_take (i := 6) (oi := _) (v := undef) (getop rfl) (by kernel_rfl) (by kernel_rfl) (by kernel_rfl) (fun _ _ _ h => h) (Or.inr ⟨by rfl, rfl⟩) (by assumption) ?_)
  (try simp only [Act.put, List.setIfInBounds_toArray, List.set_cons_zero, List.set_cons_succ])
  refine wpAnyH_done (by kernel_rfl) ?_ _
  obtain ⟨cA, fA⟩ := hA.facts
  obtain ⟨cR, fR⟩ := hR.facts
  have lA := hA.lt
  have HL := Lib.hid hL
  clear hA hR hL
  skip
  go_upto_region 11 with fail
  go_region
  go_wp2_with fail
  refine bodyPost_ret (v := .tuple #[.agg #[.int .i64 (s.most), .int .i64 s.least, .int .i64 s.most, .int .i64 s.low, .int .i64 s.high, .int .i64 s.quiet, .int .i64 (0)], .bool (decide (s.most ≠ s.limit))]) (by simp [results, Try.results10, go_sem, cR] <;> rfl) rfl ⟨by simp, ?_⟩
  have hl := HL.out
  repeat' (first | with_reducible exact hl | with_reducible apply lo_set | with_reducible apply lo_drew | (show w.heap.size ≤ w.heap.size + 1; omega) | (show w.heap.size ≤ w.heap.size; omega))
theorem see_any (s : St) (n : Int) (w : World) : Calls Try.prog 10 #[.agg #[.int .i64 s.limit, .int .i64 s.least, .int .i64 s.most, .int .i64 s.low, .int .i64 s.high, .int .i64 s.quiet, .int .i64 s.calm], .int .i64 n] w (SeePost w (seeS s n)) := by
  unfold seeS
  by_cases hok : s.ok
  · rw [if_pos hok]
    by_cases h1 : s.high < n
    · rw [if_pos h1]
      by_cases hm : s.least ≤ s.limit / 2
      · rw [show max (s.limit / 2) s.least = s.limit / 2 by omega]
        exact see_high1 s n w hok h1 hm
      · rw [show max (s.limit / 2) s.least = s.least by omega]
        exact see_high2 s n w hok h1 hm
    · rw [if_neg h1]
      by_cases h2 : n < s.low
      · rw [if_neg (by omega)]
        by_cases h3 : s.calm + 1 < s.quiet
        · rw [if_pos h3]
          exact see_calm s n w hok h1 h2 h3
        · rw [if_neg h3]
          by_cases hm : s.most < s.limit + 1
          · rw [show min (s.limit + 1) s.most = s.most by omega]
            exact see_low2 s n w hok h1 h2 h3 hm
          · rw [show min (s.limit + 1) s.most = s.limit + 1 by omega]
            exact see_low1 s n w hok h1 h2 h3 hm
      · rw [if_pos h2]
        exact see_mid s n w hok h1 h2
  · rw [if_neg hok]
    exact see_bad s n w hok
end Go.Proofs.Ytbjfdmgfmdccgaa
