import Derived.Test.YtokedcdjclbliaaWait
import Derived.Deep.DrawnRows
namespace Go.Proofs.Ytokedcdjclbliaa
open Go.RowKit
attribute [local go_sem ↓] Go.wp_at_zero Go.wp_at_succ

theorem err_ok {b : Bk} (h : b.ok) : b.err = 0 := if_pos h
theorem err_no {b : Bk} (h : ¬ b.ok) : b.err = 8 := if_neg h
theorem has_ok {b : Bk} (h : b.ok) : hasB b = b.level / b.per := if_pos (err_ok h)
theorem at_ok {b : Bk} {tick : Int} (h : b.ok) (h1 : b.now < tick) (h2 : tick ≤ 1099511627776) : atB b tick = ⟨b.burst, b.rate, b.per, min (b.burst * b.per) (b.level + (tick - b.now) * b.rate), tick⟩ := if_pos ⟨err_ok h, h1, h2⟩
theorem at_old {b : Bk} {tick : Int} (h : tick ≤ b.now) : atB b tick = b := if_neg fun h' => by omega
theorem take_yes {b : Bk} {tick : Int} {a : Bk} (h : atB b tick = a) (h1 : a.ok) (h2 : a.per ≤ a.level) : takeB b tick = ({ a with level := a.level - a.per }, true) := by
  unfold takeB
  rw [h]
  refine if_neg ?_
  rw [has_ok h1]
  have hp := h1.1.2.2.1
  have := (Int.le_ediv_iff_mul_le (a := 1) (b := a.level) (c := a.per) (by omega)).2 (by omega)
  omega
theorem take_no {b : Bk} {tick : Int} {a : Bk} (h : atB b tick = a) (h1 : a.ok) (h2 : a.level < a.per) : takeB b tick = (a, false) := by
  unfold takeB
  rw [h]
  refine if_pos ?_
  rw [has_ok h1]
  exact Int.ediv_eq_zero_of_lt h1.2.1.1 h2
theorem new_1 : newB 2 1 10 = ⟨2, 1, 10, 20, 0⟩ := if_pos (err_ok (by simp [Bk.ok]))
theorem new_1e : (Bk.mk 2 1 10 0 0).err = 0 := err_ok (by simp [Bk.ok])
theorem new_2 : newB 0 1 1 = ⟨0, 0, 0, 0, 0⟩ := if_neg (by rw [err_no (by simp [Bk.ok])]; decide)
theorem new_2e : (Bk.mk 0 1 1 0 0).err = 8 := err_no (by simp [Bk.ok])
theorem take_1 : takeB ⟨2, 1, 10, 20, 0⟩ 0 = (⟨2, 1, 10, 10, 0⟩, true) := take_yes (at_old (by decide)) (by simp [Bk.ok]) (by decide)
theorem take_2 : takeB ⟨2, 1, 10, 10, 0⟩ 0 = (⟨2, 1, 10, 0, 0⟩, true) := take_yes (at_old (by decide)) (by simp [Bk.ok]) (by decide)
theorem take_3 : takeB ⟨2, 1, 10, 0, 0⟩ 9 = (⟨2, 1, 10, 9, 9⟩, false) := take_no (at_ok (by simp [Bk.ok]) (by decide) (by decide)) (by simp [Bk.ok] <;> decide) (by decide)
theorem take_4 : takeB ⟨2, 1, 10, 9, 9⟩ 10 = (⟨2, 1, 10, 0, 10⟩, true) := take_yes (at_ok (by simp [Bk.ok]) (by decide) (by decide)) (by simp [Bk.ok] <;> decide) (by decide)
theorem has_1 : hasB ⟨2, 1, 10, 20, 0⟩ = 2 := has_ok (by simp [Bk.ok])
theorem wait_1 : waitB ⟨2, 1, 10, 0, 0⟩ 0 = 10 := by
  unfold waitB
  rw [at_old (by decide)]
  unfold waitA
  rw [err_ok (by simp [Bk.ok])]
  decide
theorem wait_2 : waitB ⟨2, 1, 10, 20, 0⟩ 5 = 0 := by
  unfold waitB
  rw [at_ok (by simp [Bk.ok]) (by decide) (by decide)]
  unfold waitA
  rw [err_ok (by simp [Bk.ok] <;> decide)]
  decide
theorem at_1 : atB ⟨2, 1, 10, 9, 9⟩ 5 = ⟨2, 1, 10, 9, 9⟩ := at_old (by decide)
theorem err_1 : (Bk.mk 2 1 10 0 10).err = 0 := err_ok (by simp [Bk.ok])
def AwakePost (w : World) (e : Ending) (w' : World) : Prop := e = .returned (.bool true) ∧ Below w.heap.size w w'

theorem keep24 {W w' : World} {p q r s : Nat} {p0 p1 p2 p3 p4 q0 q1 q2 q3 q4 r0 r1 r2 r3 r4 s0 s1 s2 s3 s4 : Value} (hb : Below W.heap.size W w') (h : W.cell? ⟨p, 0, none⟩ = some p0 ∧ W.cell? ⟨p, 1, none⟩ = some p1 ∧ W.cell? ⟨p, 2, none⟩ = some p2 ∧ W.cell? ⟨p, 3, none⟩ = some p3 ∧ W.cell? ⟨p, 4, none⟩ = some p4 ∧ W.cell? ⟨q, 0, none⟩ = some q0 ∧ W.cell? ⟨q, 1, none⟩ = some q1 ∧ W.cell? ⟨q, 2, none⟩ = some q2 ∧ W.cell? ⟨q, 3, none⟩ = some q3 ∧ W.cell? ⟨q, 4, none⟩ = some q4 ∧ W.cell? ⟨r, 0, none⟩ = some r0 ∧ W.cell? ⟨r, 1, none⟩ = some r1 ∧ W.cell? ⟨r, 2, none⟩ = some r2 ∧ W.cell? ⟨r, 3, none⟩ = some r3 ∧ W.cell? ⟨r, 4, none⟩ = some r4 ∧ W.cell? ⟨s, 0, none⟩ = some s0 ∧ W.cell? ⟨s, 1, none⟩ = some s1 ∧ W.cell? ⟨s, 2, none⟩ = some s2 ∧ W.cell? ⟨s, 3, none⟩ = some s3 ∧ W.cell? ⟨s, 4, none⟩ = some s4 ∧ p < W.heap.size ∧ q < W.heap.size ∧ r < W.heap.size ∧ s < W.heap.size) :
    w'.cell? ⟨p, 0, none⟩ = some p0 ∧ w'.cell? ⟨p, 1, none⟩ = some p1 ∧ w'.cell? ⟨p, 2, none⟩ = some p2 ∧ w'.cell? ⟨p, 3, none⟩ = some p3 ∧ w'.cell? ⟨p, 4, none⟩ = some p4 ∧ w'.cell? ⟨q, 0, none⟩ = some q0 ∧ w'.cell? ⟨q, 1, none⟩ = some q1 ∧ w'.cell? ⟨q, 2, none⟩ = some q2 ∧ w'.cell? ⟨q, 3, none⟩ = some q3 ∧ w'.cell? ⟨q, 4, none⟩ = some q4 ∧ w'.cell? ⟨r, 0, none⟩ = some r0 ∧ w'.cell? ⟨r, 1, none⟩ = some r1 ∧ w'.cell? ⟨r, 2, none⟩ = some r2 ∧ w'.cell? ⟨r, 3, none⟩ = some r3 ∧ w'.cell? ⟨r, 4, none⟩ = some r4 ∧ w'.cell? ⟨s, 0, none⟩ = some s0 ∧ w'.cell? ⟨s, 1, none⟩ = some s1 ∧ w'.cell? ⟨s, 2, none⟩ = some s2 ∧ w'.cell? ⟨s, 3, none⟩ = some s3 ∧ w'.cell? ⟨s, 4, none⟩ = some s4 ∧ p < w'.heap.size ∧ q < w'.heap.size ∧ r < w'.heap.size ∧ s < w'.heap.size := by
  obtain ⟨h0, h1, h2, h3, h4, h5, h6, h7, h8, h9, h10, h11, h12, h13, h14, h15, h16, h17, h18, h19, h20, h21, h22, h23⟩ := h
  exact ⟨(hb.cell (p := ⟨p, 0, none⟩) h20).trans h0, (hb.cell (p := ⟨p, 1, none⟩) h20).trans h1, (hb.cell (p := ⟨p, 2, none⟩) h20).trans h2, (hb.cell (p := ⟨p, 3, none⟩) h20).trans h3, (hb.cell (p := ⟨p, 4, none⟩) h20).trans h4, (hb.cell (p := ⟨q, 0, none⟩) h21).trans h5, (hb.cell (p := ⟨q, 1, none⟩) h21).trans h6, (hb.cell (p := ⟨q, 2, none⟩) h21).trans h7, (hb.cell (p := ⟨q, 3, none⟩) h21).trans h8, (hb.cell (p := ⟨q, 4, none⟩) h21).trans h9, (hb.cell (p := ⟨r, 0, none⟩) h22).trans h10, (hb.cell (p := ⟨r, 1, none⟩) h22).trans h11, (hb.cell (p := ⟨r, 2, none⟩) h22).trans h12, (hb.cell (p := ⟨r, 3, none⟩) h22).trans h13, (hb.cell (p := ⟨r, 4, none⟩) h22).trans h14, (hb.cell (p := ⟨s, 0, none⟩) h23).trans h15, (hb.cell (p := ⟨s, 1, none⟩) h23).trans h16, (hb.cell (p := ⟨s, 2, none⟩) h23).trans h17, (hb.cell (p := ⟨s, 3, none⟩) h23).trans h18, (hb.cell (p := ⟨s, 4, none⟩) h23).trans h19, Nat.lt_of_lt_of_le h20 hb.size, Nat.lt_of_lt_of_le h21 hb.size, Nat.lt_of_lt_of_le h22 hb.size, Nat.lt_of_lt_of_le h23 hb.size⟩
set_option maxRecDepth 100000 in
set_option maxHeartbeats 3200000 in
theorem awake_any (w : World) : Calls Try.prog 9 #[] w (AwakePost w) := by
  have h0 := new_any 2 1 10
  rw [new_1, new_1e] at h0
  have H0 := Lib.hid h0
  have h1 := take_any ⟨2, 1, 10, 20, 0⟩ 0
  rw [take_1] at h1
  have H1 := Lib.hid h1
  have h2 := take_any ⟨2, 1, 10, 10, 0⟩ 0
  rw [take_2] at h2
  have H2 := Lib.hid h2
  have h3 := take_any ⟨2, 1, 10, 0, 0⟩ 9
  rw [take_3] at h3
  have H3 := Lib.hid h3
  have h4 := take_any ⟨2, 1, 10, 9, 9⟩ 10
  rw [take_4] at h4
  have H4 := Lib.hid h4
  have h5 := new_any 0 1 1
  rw [new_2, new_2e] at h5
  have H5 := Lib.hid h5
  have h6 := wait_any ⟨2, 1, 10, 0, 0⟩ 0
  rw [wait_1] at h6
  have H6 := Lib.hid h6
  have h7 := wait_any ⟨2, 1, 10, 20, 0⟩ 5
  rw [wait_2] at h7
  have H7 := Lib.hid h7
  have h8 := has_any ⟨2, 1, 10, 20, 0⟩
  rw [has_1] at h8
  have H8 := Lib.hid h8
  have h9 := at_any ⟨2, 1, 10, 9, 9⟩ 5
  rw [at_1] at h9
  have H9 := Lib.hid h9
  have h10 := check_any ⟨2, 1, 10, 0, 10⟩
  rw [err_1] at h10
  have H10 := Lib.hid h10
  clear h0 h1 h2 h3 h4 h5 h6 h7 h8 h9 h10
  go_enter Try.func9, Try.ntmps9
  have hL := lo_refl w
  go_wp2_with fail
  refine (H0.out _).mono ?_
  rintro e w1 ⟨rfl, hb⟩
  have hL := lo_trans hL hb
  clear hb
  go_wp2_with fail
  refine (H1.out _).mono ?_
  rintro e w2 ⟨rfl, hb⟩
  have hB := (Blk.new w1 23 #[.int .i64 2, .int .i64 1, .int .i64 10, .int .i64 20, .int .i64 0]).lo hb
  have hL := lo_trans (lo_alloc hL (.cells #[.int .i64 2, .int .i64 1, .int .i64 10, .int .i64 20, .int .i64 0] 23)) hb
  clear hb
  obtain ⟨cB, fB⟩ := hB.facts
  go_wp2_with fail
  refine (H2.out _).mono ?_
  rintro e w3 ⟨rfl, hb⟩
  clear cB fB
  have hB := (hB.alloc (.cells #[.int .i64 2, .int .i64 1, .int .i64 10, .int .i64 10, .int .i64 0] 23)).lo hb
  have hC := (Blk.new w2 23 #[.int .i64 2, .int .i64 1, .int .i64 10, .int .i64 10, .int .i64 0]).lo hb
  have hL := lo_trans (lo_alloc hL (.cells #[.int .i64 2, .int .i64 1, .int .i64 10, .int .i64 10, .int .i64 0] 23)) hb
  clear hb
  obtain ⟨cB, fB⟩ := hB.facts
  obtain ⟨cC, fC⟩ := hC.facts
  go_wp2_with fail
  refine (H3.out _).mono ?_
  rintro e w4 ⟨rfl, hb⟩
  clear cB fB cC fC
  have hB := (hB.alloc (.cells #[.int .i64 2, .int .i64 1, .int .i64 10, .int .i64 0, .int .i64 0] 23)).lo hb
  have hC := (hC.alloc (.cells #[.int .i64 2, .int .i64 1, .int .i64 10, .int .i64 0, .int .i64 0] 23)).lo hb
  have hD := (Blk.new w3 23 #[.int .i64 2, .int .i64 1, .int .i64 10, .int .i64 0, .int .i64 0]).lo hb
  have hL := lo_trans (lo_alloc hL (.cells #[.int .i64 2, .int .i64 1, .int .i64 10, .int .i64 0, .int .i64 0] 23)) hb
  clear hb
  obtain ⟨cB, fB⟩ := hB.facts
  obtain ⟨cC, fC⟩ := hC.facts
  obtain ⟨cD, fD⟩ := hD.facts
  go_wp2_with fail
  refine (H4.out _).mono ?_
  rintro e w5 ⟨rfl, hb⟩
  clear cB fB cC fC cD fD
  have hB := (hB.alloc (.cells #[.int .i64 2, .int .i64 1, .int .i64 10, .int .i64 9, .int .i64 9] 23)).lo hb
  have hC := (hC.alloc (.cells #[.int .i64 2, .int .i64 1, .int .i64 10, .int .i64 9, .int .i64 9] 23)).lo hb
  have hD := (hD.alloc (.cells #[.int .i64 2, .int .i64 1, .int .i64 10, .int .i64 9, .int .i64 9] 23)).lo hb
  have hF := (Blk.new w4 23 #[.int .i64 2, .int .i64 1, .int .i64 10, .int .i64 9, .int .i64 9]).lo hb
  have hL := lo_trans (lo_alloc hL (.cells #[.int .i64 2, .int .i64 1, .int .i64 10, .int .i64 9, .int .i64 9] 23)) hb
  clear hb
  obtain ⟨cB, fB⟩ := hB.facts
  obtain ⟨cC, fC⟩ := hC.facts
  obtain ⟨cD, fD⟩ := hD.facts
  obtain ⟨cF, fF⟩ := hF.facts
  go_wp2_with fail
  refine (H5.out _).mono ?_
  rintro e w6 ⟨rfl, hb⟩
  clear cB fB cC fC cD fD cF fF
  have hB := (hB.alloc (.cells #[.int .i64 2, .int .i64 1, .int .i64 10, .int .i64 0, .int .i64 10] 23)).lo hb
  have hC := (hC.alloc (.cells #[.int .i64 2, .int .i64 1, .int .i64 10, .int .i64 0, .int .i64 10] 23)).lo hb
  have hD := (hD.alloc (.cells #[.int .i64 2, .int .i64 1, .int .i64 10, .int .i64 0, .int .i64 10] 23)).lo hb
  have hF := (hF.alloc (.cells #[.int .i64 2, .int .i64 1, .int .i64 10, .int .i64 0, .int .i64 10] 23)).lo hb
  have hG := (Blk.new w5 23 #[.int .i64 2, .int .i64 1, .int .i64 10, .int .i64 0, .int .i64 10]).lo hb
  have hL := lo_trans (lo_alloc hL (.cells #[.int .i64 2, .int .i64 1, .int .i64 10, .int .i64 0, .int .i64 10] 23)) hb
  clear hb
  obtain ⟨cB, fB⟩ := hB.facts
  obtain ⟨cC, fC⟩ := hC.facts
  obtain ⟨cD, fD⟩ := hD.facts
  obtain ⟨cF, fF⟩ := hF.facts
  obtain ⟨cG, fG⟩ := hG.facts
  go_wp2_with fail
  clear cB fB cC fC cD fD cF fF cG fG
  have hL := lo_alloc hL (.cells #[.int .i64 0, .int .i64 0, .int .i64 0, .int .i64 0, .int .i64 0] 23)
  have hB := hB.alloc (.cells #[.int .i64 0, .int .i64 0, .int .i64 0, .int .i64 0, .int .i64 0] 23)
  obtain ⟨cB, fB⟩ := hB.facts
  have lB := hB.lt
  simp only [World.size_alloc] at lB
  have hD := hD.alloc (.cells #[.int .i64 0, .int .i64 0, .int .i64 0, .int .i64 0, .int .i64 0] 23)
  obtain ⟨cD, fD⟩ := hD.facts
  have lD := hD.lt
  simp only [World.size_alloc] at lD
  have hF := hF.alloc (.cells #[.int .i64 0, .int .i64 0, .int .i64 0, .int .i64 0, .int .i64 0] 23)
  obtain ⟨cF, fF⟩ := hF.facts
  have lF := hF.lt
  simp only [World.size_alloc] at lF
  have hG := hG.alloc (.cells #[.int .i64 0, .int .i64 0, .int .i64 0, .int .i64 0, .int .i64 0] 23)
  obtain ⟨cG, fG⟩ := hG.facts
  have lG := hG.lt
  simp only [World.size_alloc] at lG
  clear hC
  simp only [List.append_eq, List.cons_append, List.nil_append]
  go_region_held3 (fun W => W.cell? ⟨w1.heap.size, 0, none⟩ = some (.int .i64 2) ∧ W.cell? ⟨w1.heap.size, 1, none⟩ = some (.int .i64 1) ∧ W.cell? ⟨w1.heap.size, 2, none⟩ = some (.int .i64 10) ∧ W.cell? ⟨w1.heap.size, 3, none⟩ = some (.int .i64 20) ∧ W.cell? ⟨w1.heap.size, 4, none⟩ = some (.int .i64 0) ∧ W.cell? ⟨w3.heap.size, 0, none⟩ = some (.int .i64 2) ∧ W.cell? ⟨w3.heap.size, 1, none⟩ = some (.int .i64 1) ∧ W.cell? ⟨w3.heap.size, 2, none⟩ = some (.int .i64 10) ∧ W.cell? ⟨w3.heap.size, 3, none⟩ = some (.int .i64 0) ∧ W.cell? ⟨w3.heap.size, 4, none⟩ = some (.int .i64 0) ∧ W.cell? ⟨w4.heap.size, 0, none⟩ = some (.int .i64 2) ∧ W.cell? ⟨w4.heap.size, 1, none⟩ = some (.int .i64 1) ∧ W.cell? ⟨w4.heap.size, 2, none⟩ = some (.int .i64 10) ∧ W.cell? ⟨w4.heap.size, 3, none⟩ = some (.int .i64 9) ∧ W.cell? ⟨w4.heap.size, 4, none⟩ = some (.int .i64 9) ∧ W.cell? ⟨w5.heap.size, 0, none⟩ = some (.int .i64 2) ∧ W.cell? ⟨w5.heap.size, 1, none⟩ = some (.int .i64 1) ∧ W.cell? ⟨w5.heap.size, 2, none⟩ = some (.int .i64 10) ∧ W.cell? ⟨w5.heap.size, 3, none⟩ = some (.int .i64 0) ∧ W.cell? ⟨w5.heap.size, 4, none⟩ = some (.int .i64 10) ∧ w1.heap.size < W.heap.size ∧ w3.heap.size < W.heap.size ∧ w4.heap.size < W.heap.size ∧ w5.heap.size < W.heap.size) (first | exact keep24 hb10 (by assumption) | exact keep24 hb9 (by assumption) | exact keep24 hb8 (by assumption) | exact keep24 hb7 (by assumption) | exact keep24 hb6 (by assumption) | (simp [*]; done) | go_keep)
    (first
      | (go_at_call_of 12 (Value.agg #[.int .i64 2, .int .i64 1, .int .i64 10, .int .i64 0, .int .i64 0]); refine (H6.out _).mono ?_; rintro e w' ⟨rfl, hb6⟩)
      | (go_at_call_of 12 (Value.agg #[.int .i64 2, .int .i64 1, .int .i64 10, .int .i64 20, .int .i64 0]); refine (H7.out _).mono ?_; rintro e w' ⟨rfl, hb7⟩)
      | (go_at_call 13; refine (H8.out _).mono ?_; rintro e w' ⟨rfl, hb8⟩)
      | (go_at_call 14; refine (H9.out _).mono ?_; rintro e w' ⟨rfl, hb9⟩)
      | (go_at_call 10; refine (H10.out _).mono ?_; rintro e w' ⟨rfl, hb10⟩))
  have hL2 := lo_trans (lo_trans (lo_trans (lo_trans (lo_trans (lo_drew hL) hb6) hb7) hb8) hb9) hb10
  clear hL hb6 hb7 hb8 hb9 hb10 hB hD hF hG
  go_wp2
  go_ret
  exact ⟨rfl, hL2⟩
end Go.Proofs.Ytokedcdjclbliaa
