import Derived.Test.YtcgnoaaejaofiaaFns
import Derived.Deep.DeepCutAuto
import Derived.Deep.RegionHeld
namespace Go.Proofs.Ytcgnoaaejaofiaa
open Go.RowKit
attribute [local go_sem ↓] Go.wp_at_zero Go.wp_at_succ

def DecPost (w : World) (r : Int × Bk × Int) (e : Ending) (w' : World) : Prop :=
  e = .returned (.tuple #[.int .i64 r.1, .agg #[.int .i64 r.2.1.burst, .int .i64 r.2.1.rate, .int .i64 r.2.1.per, .int .i64 r.2.1.level, .int .i64 r.2.1.now], .int .i64 r.2.2]) ∧ Below w.heap.size w w'
theorem wait_in (b : Bk) (t : Int) : -1 ≤ waitB b t ∧ waitB b t ≤ 1099511627776 := by
  unfold waitB waitA
  by_cases h : (atB b t).err ≠ 0
  · rw [if_pos h]; decide
  · rw [if_neg h]
    generalize atB b t = a at *
    have hok : a.ok := by
      rcases err_cases a with ⟨h1, _⟩ | ⟨_, h1⟩
      · exact h1
      · exact absurd (by rw [h1]; decide) h
    obtain ⟨⟨⟨q1, q2⟩, ⟨q3, q4⟩, ⟨q5, q6⟩⟩, ⟨q7, q8⟩, ⟨q9, q10⟩⟩ := hok
    by_cases c1 : a.per ≤ a.level
    · rw [if_pos c1]; decide
    · rw [if_neg c1]
      by_cases c2 : a.rate = 0
      · rw [if_pos c2]; decide
      · rw [if_neg c2]
        have hd0 : 0 ≤ (a.per - a.level + a.rate - 1) / a.rate := Int.ediv_nonneg (by omega) (by omega)
        by_cases c3 : 1099511627776 - a.now < (a.per - a.level + a.rate - 1) / a.rate
        · rw [if_pos c3]; decide
        · rw [if_neg c3]; omega
theorem getop {l : List Oper} {i : Nat} {o : Oper} (h : l[i]? = some o) : l.toArray[i]? = some o := by simpa using h
theorem three_boxes (w : World) (x : Lk) (b : Bk) :
    Blk (((w.alloc (.cells #[.int .i64 x.opn, .int .i64 x.told, .int .i64 x.agreed, .bool x.away, .int .i64 x.cost, .int .i64 x.backlog, .int .i64 x.cap, .int .i64 x.tick, .int .i64 x.second] 29)).alloc (.cells #[.int .i64 b.burst, .int .i64 b.rate, .int .i64 b.per, .int .i64 b.level, .int .i64 b.now] 26)).alloc (.cells #[.int .i64 0, .int .i64 0, .int .i64 0, .int .i64 0, .int .i64 0] 26)) w.heap.size 29 #[.int .i64 x.opn, .int .i64 x.told, .int .i64 x.agreed, .bool x.away, .int .i64 x.cost, .int .i64 x.backlog, .int .i64 x.cap, .int .i64 x.tick, .int .i64 x.second] ∧
    Blk (((w.alloc (.cells #[.int .i64 x.opn, .int .i64 x.told, .int .i64 x.agreed, .bool x.away, .int .i64 x.cost, .int .i64 x.backlog, .int .i64 x.cap, .int .i64 x.tick, .int .i64 x.second] 29)).alloc (.cells #[.int .i64 b.burst, .int .i64 b.rate, .int .i64 b.per, .int .i64 b.level, .int .i64 b.now] 26)).alloc (.cells #[.int .i64 0, .int .i64 0, .int .i64 0, .int .i64 0, .int .i64 0] 26)) (w.heap.size + 1) 26 #[.int .i64 b.burst, .int .i64 b.rate, .int .i64 b.per, .int .i64 b.level, .int .i64 b.now] ∧
    Blk (((w.alloc (.cells #[.int .i64 x.opn, .int .i64 x.told, .int .i64 x.agreed, .bool x.away, .int .i64 x.cost, .int .i64 x.backlog, .int .i64 x.cap, .int .i64 x.tick, .int .i64 x.second] 29)).alloc (.cells #[.int .i64 b.burst, .int .i64 b.rate, .int .i64 b.per, .int .i64 b.level, .int .i64 b.now] 26)).alloc (.cells #[.int .i64 0, .int .i64 0, .int .i64 0, .int .i64 0, .int .i64 0] 26)) (w.heap.size + 1 + 1) 26 #[.int .i64 0, .int .i64 0, .int .i64 0, .int .i64 0, .int .i64 0] ∧
    Below w.heap.size w (((w.alloc (.cells #[.int .i64 x.opn, .int .i64 x.told, .int .i64 x.agreed, .bool x.away, .int .i64 x.cost, .int .i64 x.backlog, .int .i64 x.cap, .int .i64 x.tick, .int .i64 x.second] 29)).alloc (.cells #[.int .i64 b.burst, .int .i64 b.rate, .int .i64 b.per, .int .i64 b.level, .int .i64 b.now] 26)).alloc (.cells #[.int .i64 0, .int .i64 0, .int .i64 0, .int .i64 0, .int .i64 0] 26)) := by
  have hB := (Blk.new (w.alloc (.cells #[.int .i64 x.opn, .int .i64 x.told, .int .i64 x.agreed, .bool x.away, .int .i64 x.cost, .int .i64 x.backlog, .int .i64 x.cap, .int .i64 x.tick, .int .i64 x.second] 29)) 26 #[.int .i64 b.burst, .int .i64 b.rate, .int .i64 b.per, .int .i64 b.level, .int .i64 b.now]).alloc (.cells #[.int .i64 0, .int .i64 0, .int .i64 0, .int .i64 0, .int .i64 0] 26)
  have hC := Blk.new ((w.alloc (.cells #[.int .i64 x.opn, .int .i64 x.told, .int .i64 x.agreed, .bool x.away, .int .i64 x.cost, .int .i64 x.backlog, .int .i64 x.cap, .int .i64 x.tick, .int .i64 x.second] 29)).alloc (.cells #[.int .i64 b.burst, .int .i64 b.rate, .int .i64 b.per, .int .i64 b.level, .int .i64 b.now] 26)) 26 #[.int .i64 0, .int .i64 0, .int .i64 0, .int .i64 0, .int .i64 0]
  simp only [World.size_alloc] at hB hC
  exact ⟨((Blk.new w 29 #[.int .i64 x.opn, .int .i64 x.told, .int .i64 x.agreed, .bool x.away, .int .i64 x.cost, .int .i64 x.backlog, .int .i64 x.cap, .int .i64 x.tick, .int .i64 x.second]).alloc _).alloc _, hB, hC, lo_alloc (lo_alloc (lo_alloc (lo_refl w) _) _) _⟩
theorem keep12 {W w' : World} {p q r : Nat} {p7 p8 q0 q1 q2 q3 q4 r0 r1 r2 r3 r4 : Value} (hb : Below W.heap.size W w')
    (h : W.cell? ⟨p, 7, none⟩ = some p7 ∧ W.cell? ⟨p, 8, none⟩ = some p8 ∧ W.cell? ⟨q, 0, none⟩ = some q0 ∧ W.cell? ⟨q, 1, none⟩ = some q1 ∧ W.cell? ⟨q, 2, none⟩ = some q2 ∧ W.cell? ⟨q, 3, none⟩ = some q3 ∧ W.cell? ⟨q, 4, none⟩ = some q4 ∧ W.cell? ⟨r, 0, none⟩ = some r0 ∧ W.cell? ⟨r, 1, none⟩ = some r1 ∧ W.cell? ⟨r, 2, none⟩ = some r2 ∧ W.cell? ⟨r, 3, none⟩ = some r3 ∧ W.cell? ⟨r, 4, none⟩ = some r4 ∧ p < W.heap.size ∧ q < W.heap.size ∧ r < W.heap.size) :
    w'.cell? ⟨p, 7, none⟩ = some p7 ∧ w'.cell? ⟨p, 8, none⟩ = some p8 ∧ w'.cell? ⟨q, 0, none⟩ = some q0 ∧ w'.cell? ⟨q, 1, none⟩ = some q1 ∧ w'.cell? ⟨q, 2, none⟩ = some q2 ∧ w'.cell? ⟨q, 3, none⟩ = some q3 ∧ w'.cell? ⟨q, 4, none⟩ = some q4 ∧ w'.cell? ⟨r, 0, none⟩ = some r0 ∧ w'.cell? ⟨r, 1, none⟩ = some r1 ∧ w'.cell? ⟨r, 2, none⟩ = some r2 ∧ w'.cell? ⟨r, 3, none⟩ = some r3 ∧ w'.cell? ⟨r, 4, none⟩ = some r4 ∧ p < w'.heap.size ∧ q < w'.heap.size ∧ r < w'.heap.size := by
  obtain ⟨h1, h2, h3, h4, h5, h6, h7, h8, h9, h10, h11, h12, hp, hq, hr⟩ := h
  exact ⟨(hb.cell (p := ⟨p, 7, none⟩) hp).trans h1, (hb.cell (p := ⟨p, 8, none⟩) hp).trans h2, (hb.cell (p := ⟨q, 0, none⟩) hq).trans h3, (hb.cell (p := ⟨q, 1, none⟩) hq).trans h4, (hb.cell (p := ⟨q, 2, none⟩) hq).trans h5, (hb.cell (p := ⟨q, 3, none⟩) hq).trans h6, (hb.cell (p := ⟨q, 4, none⟩) hq).trans h7, (hb.cell (p := ⟨r, 0, none⟩) hr).trans h8, (hb.cell (p := ⟨r, 1, none⟩) hr).trans h9, (hb.cell (p := ⟨r, 2, none⟩) hr).trans h10, (hb.cell (p := ⟨r, 3, none⟩) hr).trans h11, (hb.cell (p := ⟨r, 4, none⟩) hr).trans h12, Nat.lt_of_lt_of_le hp hb.size, Nat.lt_of_lt_of_le hq hb.size, Nat.lt_of_lt_of_le hr hb.size⟩
set_option maxRecDepth 100000 in
set_option maxHeartbeats 3200000 in
theorem dec_4 (x : Lk) (b : Bk) (hcap : x.cap ≤ 9223372036854775807) (w : World) (h : x.ahead = 4) :
    Calls Try.prog 7 #[.agg #[.int .i64 x.opn, .int .i64 x.told, .int .i64 x.agreed, .bool x.away, .int .i64 x.cost, .int .i64 x.backlog, .int .i64 x.cap, .int .i64 x.tick, .int .i64 x.second], .agg #[.int .i64 b.burst, .int .i64 b.rate, .int .i64 b.per, .int .i64 b.level, .int .i64 b.now]] w (DecPost w (decB x b)) := by
  have HA := Lib.hid (ahead_any x hcap)
  have HB0 := Lib.hid (three_boxes w x b)
  unfold decB
  rw [h] at HA ⊢
  rw [if_neg (by decide), if_neg (by decide)]
  clear h
  go_enter Try.func7, Try.ntmps7
  go_wp2_with fail
  refine (HA.out _).mono ?_
  rintro e w1 ⟨rfl, hb1⟩
  obtain ⟨hX0, hB0, hR0, hL0⟩ := HB0.out
  have hB := hB0.lo hb1
  have hR := hR0.lo hb1
  have hL := Lib.hid (lo_trans hL0 hb1)
  clear hb1 hX0 hB0 hR0 hL0 HB0
  obtain ⟨cB, fB⟩ := hB.facts
  obtain ⟨cR, fR⟩ := hR.facts
  go_upto_region 3 with fail
  go_region
  go_wp2_with fail
  refine bodyPost_ret (v := .tuple #[.int .i64 4, .agg #[.int .i64 b.burst, .int .i64 b.rate, .int .i64 b.per, .int .i64 b.level, .int .i64 b.now], .int .i64 0]) (by simp [results, Try.results7, go_sem, cR]) rfl ⟨rfl, ?_⟩
  have hl := hL.out
  repeat' (first | with_reducible exact hl | with_reducible apply lo_set | with_reducible apply lo_drew | (show w.heap.size ≤ w.heap.size + 1 + 1; omega))
set_option maxRecDepth 100000 in
set_option maxHeartbeats 3200000 in
theorem dec_1 (x : Lk) (b : Bk) (hcap : x.cap ≤ 9223372036854775807) (w : World) (h : x.ahead = 1) :
    Calls Try.prog 7 #[.agg #[.int .i64 x.opn, .int .i64 x.told, .int .i64 x.agreed, .bool x.away, .int .i64 x.cost, .int .i64 x.backlog, .int .i64 x.cap, .int .i64 x.tick, .int .i64 x.second], .agg #[.int .i64 b.burst, .int .i64 b.rate, .int .i64 b.per, .int .i64 b.level, .int .i64 b.now]] w (DecPost w (decB x b)) := by
  have HA := Lib.hid (ahead_any x hcap)
  have HB0 := Lib.hid (three_boxes w x b)
  unfold decB
  rw [h] at HA ⊢
  rw [if_neg (by decide), if_neg (by decide)]
  clear h
  go_enter Try.func7, Try.ntmps7
  go_wp2_with fail
  refine (HA.out _).mono ?_
  rintro e w1 ⟨rfl, hb1⟩
  obtain ⟨hX0, hB0, hR0, hL0⟩ := HB0.out
  have hB := hB0.lo hb1
  have hR := hR0.lo hb1
  have hL := Lib.hid (lo_trans hL0 hb1)
  clear hb1 hX0 hB0 hR0 hL0 HB0
  obtain ⟨cB, fB⟩ := hB.facts
  obtain ⟨cR, fR⟩ := hR.facts
  go_upto_region 3 with fail
  go_region
  go_wp2_with fail
  refine bodyPost_ret (v := .tuple #[.int .i64 1, .agg #[.int .i64 b.burst, .int .i64 b.rate, .int .i64 b.per, .int .i64 b.level, .int .i64 b.now], .int .i64 0]) (by simp [results, Try.results7, go_sem, cR]) rfl ⟨rfl, ?_⟩
  have hl := hL.out
  repeat' (first | with_reducible exact hl | with_reducible apply lo_set | with_reducible apply lo_drew | (show w.heap.size ≤ w.heap.size + 1 + 1; omega))
set_option maxRecDepth 100000 in
set_option maxHeartbeats 3200000 in
theorem dec_3 (x : Lk) (b : Bk) (hcap : x.cap ≤ 9223372036854775807) (w : World) (h : x.ahead = 3) :
    Calls Try.prog 7 #[.agg #[.int .i64 x.opn, .int .i64 x.told, .int .i64 x.agreed, .bool x.away, .int .i64 x.cost, .int .i64 x.backlog, .int .i64 x.cap, .int .i64 x.tick, .int .i64 x.second], .agg #[.int .i64 b.burst, .int .i64 b.rate, .int .i64 b.per, .int .i64 b.level, .int .i64 b.now]] w (DecPost w (decB x b)) := by
  have HA := Lib.hid (ahead_any x hcap)
  have HB0 := Lib.hid (three_boxes w x b)
  unfold decB
  rw [h] at HA ⊢
  rw [if_neg (by decide), if_pos rfl]
  clear h
  go_enter Try.func7, Try.ntmps7
  go_wp2_with fail
  refine (HA.out _).mono ?_
  rintro e w1 ⟨rfl, hb1⟩
  obtain ⟨hX0, hB0, hR0, hL0⟩ := HB0.out
  have hB := hB0.lo hb1
  have hR := hR0.lo hb1
  have hL := Lib.hid (lo_trans hL0 hb1)
  clear hb1 hX0 hB0 hR0 hL0 HB0
  obtain ⟨cB, fB⟩ := hB.facts
  obtain ⟨cR, fR⟩ := hR.facts
  go_upto_region 6 with fail
  go_region
  go_wp2_with fail
  refine bodyPost_ret (v := .tuple #[.int .i64 3, .agg #[.int .i64 b.burst, .int .i64 b.rate, .int .i64 b.per, .int .i64 b.level, .int .i64 b.now], .int .i64 1]) (by simp [results, Try.results7, go_sem, cR]) rfl ⟨rfl, ?_⟩
  have hl := hL.out
  repeat' (first | with_reducible exact hl | with_reducible apply lo_set | with_reducible apply lo_drew | (show w.heap.size ≤ w.heap.size + 1 + 1; omega))
set_option maxRecDepth 100000 in
set_option maxHeartbeats 3200000 in
theorem dec_no (x : Lk) (b : Bk) (hcap : x.cap ≤ 9223372036854775807) (w : World) (h : x.ahead = 0) (hr : (takeB b x.tick).2 = false) :
    Calls Try.prog 7 #[.agg #[.int .i64 x.opn, .int .i64 x.told, .int .i64 x.agreed, .bool x.away, .int .i64 x.cost, .int .i64 x.backlog, .int .i64 x.cap, .int .i64 x.tick, .int .i64 x.second], .agg #[.int .i64 b.burst, .int .i64 b.rate, .int .i64 b.per, .int .i64 b.level, .int .i64 b.now]] w (DecPost w (decB x b)) := by
  have HA := Lib.hid (ahead_any x hcap)
  have HB0 := Lib.hid (three_boxes w x b)
  unfold decB
  rw [h] at HA ⊢
  rw [if_pos rfl]
  clear h
  have HT := Lib.hid (take_any b x.tick)
  have HW := Lib.hid (wait_any b x.tick)
  have hw := wait_in b x.tick
  have HS := Lib.hid (secs_any (waitB b x.tick) x.second hw.2 hw.1)
  clear hw
  generalize takeB b x.tick = r at HT hr ⊢
  generalize waitB b x.tick = n at HW HS ⊢
  generalize secs n x.second = m at HS ⊢
  obtain ⟨c, is⟩ := r
  obtain rfl : is = false := hr
  rw [if_neg (by simp)]
  go_enter Try.func7, Try.ntmps7
  go_wp2_with fail
  refine (HA.out _).mono ?_
  rintro e w1 ⟨rfl, hb1⟩
  obtain ⟨hX0, hB0, hR0, hL0⟩ := HB0.out
  have hX := hX0.lo hb1
  have hB := hB0.lo hb1
  have hR := hR0.lo hb1
  have hL := Lib.hid (lo_trans hL0 hb1)
  clear hb1 hX0 hB0 hR0 hL0 HB0
  obtain ⟨cX, fX⟩ := hX.facts
  obtain ⟨cB, fB⟩ := hB.facts
  go_wp2_with fail
  refine (HT.out _).mono ?_
  rintro e w2 ⟨rfl, hb2⟩
  have hX := (hX.lo hb2).alloc (.cells #[.int .i64 c.burst, .int .i64 c.rate, .int .i64 c.per, .int .i64 c.level, .int .i64 c.now] 26)
  have hB := (hB.lo hb2).alloc (.cells #[.int .i64 c.burst, .int .i64 c.rate, .int .i64 c.per, .int .i64 c.level, .int .i64 c.now] 26)
  have hR0lt := (hR.lo hb2).lt
  have hR := (hR.lo hb2).alloc (.cells #[.int .i64 c.burst, .int .i64 c.rate, .int .i64 c.per, .int .i64 c.level, .int .i64 c.now] 26)
  have hC := Blk.new w2 26 #[.int .i64 c.burst, .int .i64 c.rate, .int .i64 c.per, .int .i64 c.level, .int .i64 c.now]
  have hL := Lib.hid (lo_alloc (lo_trans hL.out hb2) (.cells #[.int .i64 c.burst, .int .i64 c.rate, .int .i64 c.per, .int .i64 c.level, .int .i64 c.now] 26))
  clear hb2 cX fX cB fB
  go_upto_region 10 with fail
  have hRC : w.heap.size + 1 + 1 < w2.heap.size := by have := hR0lt; exact this
  generalize hgc : w2.heap.size = gc at *
  generalize w2.alloc (.cells #[.int .i64 c.burst, .int .i64 c.rate, .int .i64 c.per, .int .i64 c.level, .int .i64 c.now] 26) = w3 at *
  clear hgc
  obtain ⟨gR, hgR⟩ : ∃ g, g = w.heap.size + 1 + 1 := ⟨_, rfl⟩
  obtain ⟨gB, hgB⟩ : ∃ g, g = w.heap.size + 1 := ⟨_, rfl⟩
  obtain ⟨gX, hgX⟩ : ∃ g, g = w.heap.size := ⟨_, rfl⟩
  rw [← hgR] at hR hRC ⊢
  rw [← hgB] at hB ⊢
  rw [← hgX] at hX ⊢
  have n1 : gX ≠ gR := by omega
  have n2 : gB ≠ gR := by omega
  have n3 : gc ≠ gR := by omega
  have hwR : w.heap.size ≤ gR := by omega
  clear hgR hgB hgX hRC
  refine wp_region_held_drew (S := (fun W => W.cell? ⟨gX, 7, none⟩ = some (.int .i64 x.tick) ∧ W.cell? ⟨gX, 8, none⟩ = some (.int .i64 x.second) ∧ W.cell? ⟨gB, 0, none⟩ = some (.int .i64 b.burst) ∧ W.cell? ⟨gB, 1, none⟩ = some (.int .i64 b.rate) ∧ W.cell? ⟨gB, 2, none⟩ = some (.int .i64 b.per) ∧ W.cell? ⟨gB, 3, none⟩ = some (.int .i64 b.level) ∧ W.cell? ⟨gB, 4, none⟩ = some (.int .i64 b.now) ∧ W.cell? ⟨gc, 0, none⟩ = some (.int .i64 c.burst) ∧ W.cell? ⟨gc, 1, none⟩ = some (.int .i64 c.rate) ∧ W.cell? ⟨gc, 2, none⟩ = some (.int .i64 c.per) ∧ W.cell? ⟨gc, 3, none⟩ = some (.int .i64 c.level) ∧ W.cell? ⟨gc, 4, none⟩ = some (.int .i64 c.now) ∧ gX < W.heap.size ∧ gB < W.heap.size ∧ gc < W.heap.size)) (by kernel_rfl) ?_ (fun hHeld => ?_)
  focus (have q := hX.facts.1; have r := hB.facts.1; have s := hC.facts.1; exact ⟨q 7, q 8, r 0, r 1, r 2, r 3, r 4, s 0, s 1, s 2, s 3, s 4, hX.lt, hB.lt, hC.lt⟩)
  first
  | (refine wpAnyH_take (i := 0) (oi := _) (v := ?_) (getop rfl) (by kernel_rfl) (by kernel_rfl) (by kernel_rfl) (fun _ _ _ h => h) (Or.inl ⟨by rfl, ?_⟩) (by assumption) ?_; rotate_left; focus (intro w hSw; (try dsimp only at hSw); go_simp; (try with_reducible rfl); done))
  | (refine wpAnyH_take (i := 0) (oi := _) (v := undef) (getop rfl) (by kernel_rfl) (by kernel_rfl) (by kernel_rfl) (fun _ _ _ h => h) (Or.inr ⟨by rfl, rfl⟩) (by assumption) ?_)
  (try simp only [Act.put, List.setIfInBounds_toArray, List.set_cons_zero, List.set_cons_succ])
  first
  | (refine wpAnyH_take (i := 1) (oi := _) (v := ?_) (getop rfl) (by kernel_rfl) (by kernel_rfl) (by kernel_rfl) (fun _ _ _ h => h) (Or.inl ⟨by rfl, ?_⟩) (by assumption) ?_; rotate_left; focus (intro w hSw; (try dsimp only at hSw); go_simp; (try with_reducible rfl); done))
  | (refine wpAnyH_take (i := 1) (oi := _) (v := undef) (getop rfl) (by kernel_rfl) (by kernel_rfl) (by kernel_rfl) (fun _ _ _ h => h) (Or.inr ⟨by rfl, rfl⟩) (by assumption) ?_)
  (try simp only [Act.put, List.setIfInBounds_toArray, List.set_cons_zero, List.set_cons_succ])
  first
  | (refine wpAnyH_take (i := 2) (oi := _) (v := ?_) (getop rfl) (by kernel_rfl) (by kernel_rfl) (by kernel_rfl) (fun _ _ _ h => h) (Or.inl ⟨by rfl, ?_⟩) (by assumption) ?_; rotate_left; focus (intro w hSw; (try dsimp only at hSw); go_simp; (try with_reducible rfl); done))
  | (refine wpAnyH_take (i := 2) (oi := _) (v := undef) (getop rfl) (by kernel_rfl) (by kernel_rfl) (by kernel_rfl) (fun _ _ _ h => h) (Or.inr ⟨by rfl, rfl⟩) (by assumption) ?_)
  (try simp only [Act.put, List.setIfInBounds_toArray, List.set_cons_zero, List.set_cons_succ])
  first
  | (refine wpAnyH_take (i := 3) (oi := _) (v := ?_) (getop rfl) (by kernel_rfl) (by kernel_rfl) (by kernel_rfl) (fun _ _ _ h => h) (Or.inl ⟨by rfl, ?_⟩) (by assumption) ?_; rotate_left; focus (intro w hSw; (try dsimp only at hSw); go_simp; (try with_reducible rfl); done))
  | (refine wpAnyH_take (i := 3) (oi := _) (v := undef) (getop rfl) (by kernel_rfl) (by kernel_rfl) (by kernel_rfl) (fun _ _ _ h => h) (Or.inr ⟨by rfl, rfl⟩) (by assumption) ?_)
  (try simp only [Act.put, List.setIfInBounds_toArray, List.set_cons_zero, List.set_cons_succ])
  first
  | (refine wpAnyH_take (i := 5) (oi := _) (v := ?_) (getop rfl) (by kernel_rfl) (by kernel_rfl) (by kernel_rfl) (fun _ _ _ h => h) (Or.inl ⟨by rfl, ?_⟩) (by assumption) ?_; rotate_left; focus (intro w hSw; (try dsimp only at hSw); go_simp; (try with_reducible rfl); done))
  | (refine wpAnyH_take (i := 5) (oi := _) (v := undef) (getop rfl) (by kernel_rfl) (by kernel_rfl) (by kernel_rfl) (fun _ _ _ h => h) (Or.inr ⟨by rfl, rfl⟩) (by assumption) ?_)
  (try simp only [Act.put, List.setIfInBounds_toArray, List.set_cons_zero, List.set_cons_succ])
  first
  | (refine wpAnyH_take (i := 6) (oi := _) (v := ?_) (getop rfl) (by kernel_rfl) (by kernel_rfl) (by kernel_rfl) (fun _ _ _ h => h) (Or.inl ⟨by rfl, ?_⟩) (by assumption) ?_; rotate_left; focus (intro w hSw; (try dsimp only at hSw); go_simp; (try with_reducible rfl); done))
  | (refine wpAnyH_take (i := 6) (oi := _) (v := undef) (getop rfl) (by kernel_rfl) (by kernel_rfl) (by kernel_rfl) (fun _ _ _ h => h) (Or.inr ⟨by rfl, rfl⟩) (by assumption) ?_)
  (try simp only [Act.put, List.setIfInBounds_toArray, List.set_cons_zero, List.set_cons_succ])
  have hX : Blk w3.drew _ _ _ := hX
  have hB : Blk w3.drew _ _ _ := hB
  have hC : Blk w3.drew _ _ _ := hC
  have hR : Blk w3.drew _ _ _ := hR
  have hL := lo_drew hL.out
  generalize w3.drew = wd at *
  refine wpAnyH_ready (rs := [4]) (by kernel_rfl) (by simp) ?_
  refine AllReadyH.cons (o := _) (getop rfl) (fun K hK => ?_) AllReadyH.nil
  go_simp
  refine (HW.out _).mono ?_
  rintro e w4 ⟨rfl, hb4⟩
  have hX := hX.lo hb4
  have hB := hB.lo hb4
  have hC := hC.lo hb4
  have hR := hR.lo hb4
  have hL := lo_trans hL hb4
  clear hb4
  refine hK.out _ _ ?_ (fun hHeld4 => ?_)
  focus (have q := hX.facts.1; have r := hB.facts.1; have s := hC.facts.1; exact ⟨q 7, q 8, r 0, r 1, r 2, r 3, r 4, s 0, s 1, s 2, s 3, s 4, hX.lt, hB.lt, hC.lt⟩)
  clear hK K hHeld
  have hHeld := hHeld4
  clear hHeld4
  (try simp only [Act.put, List.setIfInBounds_toArray, List.set_cons_zero, List.set_cons_succ])
  refine wpAnyH_ready (rs := [7]) (by kernel_rfl) (by simp) ?_
  refine AllReadyH.cons (o := _) (getop rfl) (fun K hK => ?_) AllReadyH.nil
  go_simp
  refine (HS.out _).mono ?_
  rintro e w7 ⟨rfl, rfl⟩
  refine hK.out _ _ ?_ (fun hHeld7 => ?_)
  focus (have q := hX.facts.1; have r := hB.facts.1; have s := hC.facts.1; exact ⟨q 7, q 8, r 0, r 1, r 2, r 3, r 4, s 0, s 1, s 2, s 3, s 4, hX.lt, hB.lt, hC.lt⟩)
  clear hK K hHeld
  have hHeld := hHeld7
  clear hHeld7
  (try simp only [Act.put, List.setIfInBounds_toArray, List.set_cons_zero, List.set_cons_succ])
  first
  | (refine wpAnyH_take (i := 8) (oi := _) (v := ?_) (getop rfl) (by kernel_rfl) (by kernel_rfl) (by kernel_rfl) (fun _ _ _ h => h) (Or.inl ⟨by rfl, ?_⟩) (by assumption) ?_; rotate_left; focus (intro w hSw; (try dsimp only at hSw); go_simp; (try with_reducible rfl); done))
  | (refine wpAnyH_take (i := 8) (oi := _) (v := undef) (getop rfl) (by kernel_rfl) (by kernel_rfl) (by kernel_rfl) (fun _ _ _ h => h) (Or.inr ⟨by rfl, rfl⟩) (by assumption) ?_)
  (try simp only [Act.put, List.setIfInBounds_toArray, List.set_cons_zero, List.set_cons_succ])
  refine wpAnyH_ready (rs := [9]) (by kernel_rfl) (by simp) ?_
  refine AllReadyH.cons (o := _) (getop rfl) (fun K hK => ?_) AllReadyH.nil
  obtain ⟨cR, fR⟩ := hR.facts
  have lR := hR.lt
  go_simp
  clear cR fR
  have hX := far5 hX n1 (.int .i64 c.burst) (.int .i64 c.rate) (.int .i64 c.per) (.int .i64 c.level) (.int .i64 c.now)
  have hB := far5 hB n2 (.int .i64 c.burst) (.int .i64 c.rate) (.int .i64 c.per) (.int .i64 c.level) (.int .i64 c.now)
  have hC := far5 hC n3 (.int .i64 c.burst) (.int .i64 c.rate) (.int .i64 c.per) (.int .i64 c.level) (.int .i64 c.now)
  have hR := put5 hR (.int .i64 c.burst) (.int .i64 c.rate) (.int .i64 c.per) (.int .i64 c.level) (.int .i64 c.now)
  have hL := lo5 hL hwR (.int .i64 c.burst) (.int .i64 c.rate) (.int .i64 c.per) (.int .i64 c.level) (.int .i64 c.now)
  refine hK.out _ _ ?_ (fun hHeld9 => ?_)
  focus (have q := hX.facts.1; have r := hB.facts.1; have s := hC.facts.1; exact ⟨q 7, q 8, r 0, r 1, r 2, r 3, r 4, s 0, s 1, s 2, s 3, s 4, hX.lt, hB.lt, hC.lt⟩)
  clear hK K hHeld
  have hHeld := hHeld9
  clear hHeld9
  (try simp only [Act.put, List.setIfInBounds_toArray, List.set_cons_zero, List.set_cons_succ])
  first
  | (refine wpAnyH_take (i := 10) (oi := _) (v := ?_) (getop rfl) (by kernel_rfl) (by kernel_rfl) (by kernel_rfl) (fun _ _ _ h => h) (Or.inl ⟨by rfl, ?_⟩) (by assumption) ?_; rotate_left; focus (intro w hSw; (try dsimp only at hSw); go_simp; (try with_reducible rfl); done))
  | (refine wpAnyH_take (i := 10) (oi := _) (v := undef) (getop rfl) (by kernel_rfl) (by kernel_rfl) (by kernel_rfl) (fun _ _ _ h => h) (Or.inr ⟨by rfl, rfl⟩) (by assumption) ?_)
  (try simp only [Act.put, List.setIfInBounds_toArray, List.set_cons_zero, List.set_cons_succ])
  refine wpAnyH_done (by kernel_rfl) ?_ _
  obtain ⟨cR, fR⟩ := hR.facts
  have HL := Lib.hid hL
  clear hX hB hC hL
  go_wp2_with fail
  refine bodyPost_ret (v := .tuple #[.int .i64 2, .agg #[.int .i64 c.burst, .int .i64 c.rate, .int .i64 c.per, .int .i64 c.level, .int .i64 c.now], .int .i64 m]) (by simp [results, Try.results7, go_sem, cR]) rfl ⟨rfl, ?_⟩
  exact HL.out
set_option maxRecDepth 100000 in
set_option maxHeartbeats 3200000 in
theorem dec_yes (x : Lk) (b : Bk) (hcap : x.cap ≤ 9223372036854775807) (w : World) (h : x.ahead = 0) (hr : (takeB b x.tick).2 = true) :
    Calls Try.prog 7 #[.agg #[.int .i64 x.opn, .int .i64 x.told, .int .i64 x.agreed, .bool x.away, .int .i64 x.cost, .int .i64 x.backlog, .int .i64 x.cap, .int .i64 x.tick, .int .i64 x.second], .agg #[.int .i64 b.burst, .int .i64 b.rate, .int .i64 b.per, .int .i64 b.level, .int .i64 b.now]] w (DecPost w (decB x b)) := by
  have HA := Lib.hid (ahead_any x hcap)
  have HB0 := Lib.hid (three_boxes w x b)
  unfold decB
  rw [h] at HA ⊢
  rw [if_pos rfl]
  clear h
  have HT := Lib.hid (take_any b x.tick)
  have HW := Lib.hid (wait_any b x.tick)
  have hw := wait_in b x.tick
  have HS := Lib.hid (secs_any (waitB b x.tick) x.second hw.2 hw.1)
  clear hw
  generalize takeB b x.tick = r at HT hr ⊢
  generalize waitB b x.tick = n at HW HS ⊢
  generalize secs n x.second = m at HS ⊢
  obtain ⟨c, is⟩ := r
  obtain rfl : is = true := hr
  rw [if_pos rfl]
  go_enter Try.func7, Try.ntmps7
  go_wp2_with fail
  refine (HA.out _).mono ?_
  rintro e w1 ⟨rfl, hb1⟩
  obtain ⟨hX0, hB0, hR0, hL0⟩ := HB0.out
  have hX := hX0.lo hb1
  have hB := hB0.lo hb1
  have hR := hR0.lo hb1
  have hL := Lib.hid (lo_trans hL0 hb1)
  clear hb1 hX0 hB0 hR0 hL0 HB0
  obtain ⟨cX, fX⟩ := hX.facts
  obtain ⟨cB, fB⟩ := hB.facts
  go_wp2_with fail
  refine (HT.out _).mono ?_
  rintro e w2 ⟨rfl, hb2⟩
  have hR := (hR.lo hb2).alloc (.cells #[.int .i64 c.burst, .int .i64 c.rate, .int .i64 c.per, .int .i64 c.level, .int .i64 c.now] 26)
  have hC := Blk.new w2 26 #[.int .i64 c.burst, .int .i64 c.rate, .int .i64 c.per, .int .i64 c.level, .int .i64 c.now]
  have hL := Lib.hid (lo_alloc (lo_trans hL.out hb2) (.cells #[.int .i64 c.burst, .int .i64 c.rate, .int .i64 c.per, .int .i64 c.level, .int .i64 c.now] 26))
  clear hb2 cX fX cB fB
  go_upto_region 9 with fail
  generalize hgc : w2.heap.size = gc at *
  generalize w2.alloc (.cells #[.int .i64 c.burst, .int .i64 c.rate, .int .i64 c.per, .int .i64 c.level, .int .i64 c.now] 26) = w3 at *
  clear hgc
  obtain ⟨cC, fC⟩ := hC.facts
  obtain ⟨cR, fR⟩ := hR.facts
  go_region
  go_wp2_with fail
  refine bodyPost_ret (v := .tuple #[.int .i64 0, .agg #[.int .i64 c.burst, .int .i64 c.rate, .int .i64 c.per, .int .i64 c.level, .int .i64 c.now], .int .i64 0]) (by simp [results, Try.results7, go_sem, cR]) rfl ⟨rfl, ?_⟩
  have hl := hL.out
  repeat' (first | with_reducible exact hl | with_reducible apply lo_set | with_reducible apply lo_drew | (show w.heap.size ≤ w.heap.size + 1 + 1; omega))
theorem decide_any (x : Lk) (b : Bk) (hcap : x.cap ≤ 9223372036854775807) (w : World) :
    Calls Try.prog 7 #[.agg #[.int .i64 x.opn, .int .i64 x.told, .int .i64 x.agreed, .bool x.away, .int .i64 x.cost, .int .i64 x.backlog, .int .i64 x.cap, .int .i64 x.tick, .int .i64 x.second], .agg #[.int .i64 b.burst, .int .i64 b.rate, .int .i64 b.per, .int .i64 b.level, .int .i64 b.now]] w (DecPost w (decB x b)) := by
  rcases ahead_cases x with ⟨h, _⟩ | ⟨h, _⟩ | ⟨h, _⟩ | ⟨h, _⟩
  · exact dec_4 x b hcap w h
  · exact dec_1 x b hcap w h
  · exact dec_3 x b hcap w h
  · cases hr : (takeB b x.tick).2
    · exact dec_no x b hcap w h hr
    · exact dec_yes x b hcap w h hr
end Go.Proofs.Ytcgnoaaejaofiaa
