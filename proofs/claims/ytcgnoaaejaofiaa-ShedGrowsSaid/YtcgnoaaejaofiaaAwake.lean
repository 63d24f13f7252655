import Derived.Test.YtcgnoaaejaofiaaDec
namespace Go.Proofs.Ytcgnoaaejaofiaa
open Go.RowKit
attribute [local go_sem ↓] Go.wp_at_zero Go.wp_at_succ

theorem ok_b : (⟨1, 1, 15, 15, 0⟩ : Bk).ok := by simp [Bk.ok]
theorem ok_c : (⟨1, 1, 15, 0, 0⟩ : Bk).ok := by simp [Bk.ok]
theorem new_1 : newB 1 1 15 = ⟨1, 1, 15, 15, 0⟩ := if_pos (err_ok (by simp [Bk.ok]))
theorem new_1e : (Bk.mk 1 1 15 0 0).err = 0 := err_ok (by simp [Bk.ok])
theorem has_c : hasB ⟨1, 1, 15, 0, 0⟩ = 0 := has_ok ok_c
theorem take_b : takeB ⟨1, 1, 15, 15, 0⟩ 0 = (⟨1, 1, 15, 0, 0⟩, true) := take_yes (at_old (by decide)) ok_b (by decide)
theorem take_c : takeB ⟨1, 1, 15, 0, 0⟩ 0 = (⟨1, 1, 15, 0, 0⟩, false) := take_no (at_old (by decide)) ok_c (by decide)
theorem wait_c : waitB ⟨1, 1, 15, 0, 0⟩ 0 = 15 := by
  unfold waitB
  rw [at_old (by decide)]
  unfold waitA
  rw [err_ok ok_c]
  decide
theorem dec_1' : decB ⟨1, 2, 9, false, 1, 0, 5, 0, 10⟩ ⟨1, 1, 15, 15, 0⟩ = (0, ⟨1, 1, 15, 0, 0⟩, 0) := by
  unfold decB
  rw [if_pos (by decide)]
  rw [take_b]
  rfl
theorem dec_2' : decB ⟨1, 2, 9, false, 1, 0, 5, 0, 10⟩ ⟨1, 1, 15, 0, 0⟩ = (2, ⟨1, 1, 15, 0, 0⟩, 2) := by
  unfold decB
  rw [if_pos (by decide)]
  rw [take_c, wait_c]
  rfl
theorem dec_3' : decB ⟨1, 2, 9, false, 1, 5, 5, 0, 10⟩ ⟨1, 1, 15, 15, 0⟩ = (3, ⟨1, 1, 15, 15, 0⟩, 1) := by
  unfold decB
  rw [if_neg (by decide), if_pos (by decide)]
theorem dec_4' : decB ⟨2, 2, 9, false, 1, 5, 5, 0, 10⟩ ⟨1, 1, 15, 15, 0⟩ = (1, ⟨1, 1, 15, 15, 0⟩, 0) := by
  unfold decB
  rw [if_neg (by decide), if_neg (by decide)]
  rfl
theorem dec_5' : decB ⟨9, 2, 9, false, 1, 5, 5, 0, 10⟩ ⟨1, 1, 15, 15, 0⟩ = (4, ⟨1, 1, 15, 15, 0⟩, 0) := by
  unfold decB
  rw [if_neg (by decide), if_neg (by decide)]
  rfl
theorem fits_4 : Lk.fits ⟨9, 2, 9, false, 1, 5, 5, 0, 10⟩ = false := by decide
set_option maxRecDepth 100000 in
set_option maxHeartbeats 6400000 in
theorem awake_any (w : World) : Calls Try.prog 15 #[] w (BoolPost w true) := by
  have h0 := new_any 1 1 15
  rw [new_1, new_1e] at h0
  have H0 := Lib.hid h0
  have h1 := decide_any ⟨1, 2, 9, false, 1, 0, 5, 0, 10⟩ ⟨1, 1, 15, 15, 0⟩ (by decide)
  rw [dec_1'] at h1
  have H1 := Lib.hid h1
  have h2 := decide_any ⟨1, 2, 9, false, 1, 0, 5, 0, 10⟩ ⟨1, 1, 15, 0, 0⟩ (by decide)
  rw [dec_2'] at h2
  have H2 := Lib.hid h2
  have h3 := decide_any ⟨1, 2, 9, false, 1, 5, 5, 0, 10⟩ ⟨1, 1, 15, 15, 0⟩ (by decide)
  rw [dec_3'] at h3
  have H3 := Lib.hid h3
  have h4 := decide_any ⟨2, 2, 9, false, 1, 5, 5, 0, 10⟩ ⟨1, 1, 15, 15, 0⟩ (by decide)
  rw [dec_4'] at h4
  have H4 := Lib.hid h4
  have h5 := decide_any ⟨9, 2, 9, false, 1, 5, 5, 0, 10⟩ ⟨1, 1, 15, 15, 0⟩ (by decide)
  rw [dec_5'] at h5
  have H5 := Lib.hid h5
  have h6 := has_any ⟨1, 1, 15, 0, 0⟩
  rw [has_c] at h6
  have H6 := Lib.hid h6
  have h7 := fits_any ⟨9, 2, 9, false, 1, 5, 5, 0, 10⟩ (by decide)
  rw [fits_4] at h7
  have H7 := Lib.hid h7
  clear h0 h1 h2 h3 h4 h5 h6 h7
  have hX := Blk.new w 29 #[.int .i64 1, .int .i64 2, .int .i64 9, .bool false, .int .i64 1, .int .i64 0, .int .i64 5, .int .i64 0, .int .i64 10]
  have hL := lo_alloc (lo_refl w) (.cells #[.int .i64 1, .int .i64 2, .int .i64 9, .bool false, .int .i64 1, .int .i64 0, .int .i64 5, .int .i64 0, .int .i64 10] 29)
  go_enter Try.func15, Try.ntmps15
  go_wp2_with fail
  obtain ⟨gx, hgx'⟩ : ∃ g, g = w.heap.size := ⟨_, rfl⟩
  rw [← hgx'] at hX ⊢
  have hgx : w.heap.size ≤ gx := by omega
  generalize w.alloc (.cells #[.int .i64 1, .int .i64 2, .int .i64 9, .bool false, .int .i64 1, .int .i64 0, .int .i64 5, .int .i64 0, .int .i64 10] 29) = v0 at hX hL ⊢
  refine (H0.out _).mono ?_
  rintro e w1 ⟨rfl, hb⟩
  have hX := hX.lo hb
  have hL := lo_trans hL hb
  clear hb
  have nB : w1.heap.size ≠ gx := by have := hX.lt; omega
  have hX := hX.alloc (.cells #[.int .i64 1, .int .i64 1, .int .i64 15, .int .i64 15, .int .i64 0] 26)
  have hB := Blk.new w1 26 #[.int .i64 1, .int .i64 1, .int .i64 15, .int .i64 15, .int .i64 0]
  have hL := lo_alloc hL (.cells #[.int .i64 1, .int .i64 1, .int .i64 15, .int .i64 15, .int .i64 0] 26)
  go_upto_region 3 with fail
  (try rw [← hgx'])
  clear hgx'
  generalize w1.heap.size = gb at hB nB ⊢
  generalize w1.alloc (.cells #[.int .i64 1, .int .i64 1, .int .i64 15, .int .i64 15, .int .i64 0] 26) = v1 at hX hB hL ⊢
  obtain ⟨cX, fX⟩ := hX.facts
  obtain ⟨cB, fB⟩ := hB.facts
  go_wp2_with fail
  refine (H1.out _).mono ?_
  rintro e u1 ⟨rfl, hb⟩
  clear cX fX cB fB
  have nC : u1.heap.size ≠ gx := by have := (hX.lo hb).lt; omega
  have hX := (hX.lo hb).alloc (.cells #[.int .i64 1, .int .i64 1, .int .i64 15, .int .i64 0, .int .i64 0] 26)
  have hB := (hB.lo hb).alloc (.cells #[.int .i64 1, .int .i64 1, .int .i64 15, .int .i64 0, .int .i64 0] 26)
  have hC := Blk.new u1 26 #[.int .i64 1, .int .i64 1, .int .i64 15, .int .i64 0, .int .i64 0]
  have hL := lo_alloc (lo_trans hL hb) (.cells #[.int .i64 1, .int .i64 1, .int .i64 15, .int .i64 0, .int .i64 0] 26)
  clear hb
  go_upto_region 4 with fail
  generalize u1.heap.size = gc at hC nC ⊢
  generalize u1.alloc (.cells #[.int .i64 1, .int .i64 1, .int .i64 15, .int .i64 0, .int .i64 0] 26) = w2 at hX hB hC hL ⊢
  obtain ⟨cX, fX⟩ := hX.facts
  obtain ⟨cB, fB⟩ := hB.facts
  obtain ⟨cC, fC⟩ := hC.facts
  go_wp2_with fail
  refine (H2.out _).mono ?_
  rintro e u2 ⟨rfl, hb⟩
  clear cX fX cB fB cC fC
  have nD : u2.heap.size ≠ gx := by have := (hX.lo hb).lt; omega
  have hX := (hX.lo hb).alloc (.cells #[.int .i64 1, .int .i64 1, .int .i64 15, .int .i64 0, .int .i64 0] 26)
  have hB := (hB.lo hb).alloc (.cells #[.int .i64 1, .int .i64 1, .int .i64 15, .int .i64 0, .int .i64 0] 26)
  have hC := (hC.lo hb).alloc (.cells #[.int .i64 1, .int .i64 1, .int .i64 15, .int .i64 0, .int .i64 0] 26)
  have hD := Blk.new u2 26 #[.int .i64 1, .int .i64 1, .int .i64 15, .int .i64 0, .int .i64 0]
  have hL := lo_alloc (lo_trans hL hb) (.cells #[.int .i64 1, .int .i64 1, .int .i64 15, .int .i64 0, .int .i64 0] 26)
  clear hb
  go_upto_region 5 with fail
  generalize u2.heap.size = gd at hD nD ⊢
  generalize u2.alloc (.cells #[.int .i64 1, .int .i64 1, .int .i64 15, .int .i64 0, .int .i64 0] 26) = w3 at hX hB hC hD hL ⊢
  obtain ⟨cX, fX⟩ := hX.facts
  have lX := hX.lt
  go_upto_region 6 with fail
  clear cX fX
  have hX : Blk (w3.setCell ⟨gx, 5, none⟩ (.int .i64 5)) gx 29 #[.int .i64 1, .int .i64 2, .int .i64 9, .bool false, .int .i64 1, .int .i64 5, .int .i64 5, .int .i64 0, .int .i64 10] := hX.set_ 5 (.int .i64 5)
  have hB := hB.far (p := ⟨gx, 5, none⟩) nB (.int .i64 5)
  have hC := hC.far (p := ⟨gx, 5, none⟩) nC (.int .i64 5)
  have hD := hD.far (p := ⟨gx, 5, none⟩) nD (.int .i64 5)
  have hL := lo_set hL (p := ⟨gx, 5, none⟩) hgx (.int .i64 5)
  generalize w3.setCell ⟨gx, 5, none⟩ (.int .i64 5) = y2 at hX hB hC hD hL ⊢
  obtain ⟨cX, fX⟩ := hX.facts
  obtain ⟨cB, fB⟩ := hB.facts
  obtain ⟨cC, fC⟩ := hC.facts
  obtain ⟨cD, fD⟩ := hD.facts
  go_wp2_with fail
  refine (H3.out _).mono ?_
  rintro e u3 ⟨rfl, hb⟩
  clear cX fX cB fB cC fC cD fD
  have hX := (hX.lo hb).alloc (.cells #[.int .i64 1, .int .i64 1, .int .i64 15, .int .i64 15, .int .i64 0] 26)
  have hB := (hB.lo hb).alloc (.cells #[.int .i64 1, .int .i64 1, .int .i64 15, .int .i64 15, .int .i64 0] 26)
  have hC := (hC.lo hb).alloc (.cells #[.int .i64 1, .int .i64 1, .int .i64 15, .int .i64 15, .int .i64 0] 26)
  have hD := (hD.lo hb).alloc (.cells #[.int .i64 1, .int .i64 1, .int .i64 15, .int .i64 15, .int .i64 0] 26)
  have hL := lo_alloc (lo_trans hL hb) (.cells #[.int .i64 1, .int .i64 1, .int .i64 15, .int .i64 15, .int .i64 0] 26)
  clear hb
  go_upto_region 7 with fail
  generalize u3.heap.size = g3x at ⊢
  generalize u3.alloc (.cells #[.int .i64 1, .int .i64 1, .int .i64 15, .int .i64 15, .int .i64 0] 26) = w4 at hX hB hC hD hL ⊢
  obtain ⟨cX, fX⟩ := hX.facts
  have lX := hX.lt
  go_upto_region 8 with fail
  clear cX fX
  have hX : Blk (w4.setCell ⟨gx, 0, none⟩ (.int .i64 2)) gx 29 #[.int .i64 2, .int .i64 2, .int .i64 9, .bool false, .int .i64 1, .int .i64 5, .int .i64 5, .int .i64 0, .int .i64 10] := hX.set_ 0 (.int .i64 2)
  have hB := hB.far (p := ⟨gx, 0, none⟩) nB (.int .i64 2)
  have hC := hC.far (p := ⟨gx, 0, none⟩) nC (.int .i64 2)
  have hD := hD.far (p := ⟨gx, 0, none⟩) nD (.int .i64 2)
  have hL := lo_set hL (p := ⟨gx, 0, none⟩) hgx (.int .i64 2)
  generalize w4.setCell ⟨gx, 0, none⟩ (.int .i64 2) = y3 at hX hB hC hD hL ⊢
  obtain ⟨cX, fX⟩ := hX.facts
  obtain ⟨cB, fB⟩ := hB.facts
  obtain ⟨cC, fC⟩ := hC.facts
  obtain ⟨cD, fD⟩ := hD.facts
  go_wp2_with fail
  refine (H4.out _).mono ?_
  rintro e u4 ⟨rfl, hb⟩
  clear cX fX cB fB cC fC cD fD
  have hX := (hX.lo hb).alloc (.cells #[.int .i64 1, .int .i64 1, .int .i64 15, .int .i64 15, .int .i64 0] 26)
  have hB := (hB.lo hb).alloc (.cells #[.int .i64 1, .int .i64 1, .int .i64 15, .int .i64 15, .int .i64 0] 26)
  have hC := (hC.lo hb).alloc (.cells #[.int .i64 1, .int .i64 1, .int .i64 15, .int .i64 15, .int .i64 0] 26)
  have hD := (hD.lo hb).alloc (.cells #[.int .i64 1, .int .i64 1, .int .i64 15, .int .i64 15, .int .i64 0] 26)
  have hL := lo_alloc (lo_trans hL hb) (.cells #[.int .i64 1, .int .i64 1, .int .i64 15, .int .i64 15, .int .i64 0] 26)
  clear hb
  go_upto_region 9 with fail
  generalize u4.heap.size = g4x at ⊢
  generalize u4.alloc (.cells #[.int .i64 1, .int .i64 1, .int .i64 15, .int .i64 15, .int .i64 0] 26) = w5 at hX hB hC hD hL ⊢
  obtain ⟨cX, fX⟩ := hX.facts
  have lX := hX.lt
  go_upto_region 10 with fail
  clear cX fX
  have hX : Blk (w5.setCell ⟨gx, 0, none⟩ (.int .i64 9)) gx 29 #[.int .i64 9, .int .i64 2, .int .i64 9, .bool false, .int .i64 1, .int .i64 5, .int .i64 5, .int .i64 0, .int .i64 10] := hX.set_ 0 (.int .i64 9)
  have hB := hB.far (p := ⟨gx, 0, none⟩) nB (.int .i64 9)
  have hC := hC.far (p := ⟨gx, 0, none⟩) nC (.int .i64 9)
  have hD := hD.far (p := ⟨gx, 0, none⟩) nD (.int .i64 9)
  have hL := lo_set hL (p := ⟨gx, 0, none⟩) hgx (.int .i64 9)
  generalize w5.setCell ⟨gx, 0, none⟩ (.int .i64 9) = y4 at hX hB hC hD hL ⊢
  obtain ⟨cX, fX⟩ := hX.facts
  obtain ⟨cB, fB⟩ := hB.facts
  obtain ⟨cC, fC⟩ := hC.facts
  obtain ⟨cD, fD⟩ := hD.facts
  go_wp2_with fail
  refine (H5.out _).mono ?_
  rintro e u5 ⟨rfl, hb⟩
  clear cX fX cB fB cC fC cD fD
  have hX := (hX.lo hb).alloc (.cells #[.int .i64 1, .int .i64 1, .int .i64 15, .int .i64 15, .int .i64 0] 26)
  have hB := (hB.lo hb).alloc (.cells #[.int .i64 1, .int .i64 1, .int .i64 15, .int .i64 15, .int .i64 0] 26)
  have hC := (hC.lo hb).alloc (.cells #[.int .i64 1, .int .i64 1, .int .i64 15, .int .i64 15, .int .i64 0] 26)
  have hD := (hD.lo hb).alloc (.cells #[.int .i64 1, .int .i64 1, .int .i64 15, .int .i64 15, .int .i64 0] 26)
  have hL := lo_alloc (lo_trans hL hb) (.cells #[.int .i64 1, .int .i64 1, .int .i64 15, .int .i64 15, .int .i64 0] 26)
  clear hb
  clear hB
  obtain ⟨cC, fC⟩ := hC.facts
  go_wp2_with fail
  refine (H6.out _).mono ?_
  rintro e u6 ⟨rfl, hb⟩
  clear cC fC
  have hX := hX.lo hb
  have hC := hC.lo hb
  have hD := hD.lo hb
  have hL := lo_trans hL hb
  clear hb
  obtain ⟨cX, fX⟩ := hX.facts
  obtain ⟨cC, fC⟩ := hC.facts
  obtain ⟨cD, fD⟩ := hD.facts
  have s1 : statusB 2 = 429 := rfl
  have s2 : statusB 3 = 503 := rfl
  have s3 : codeB 1 = 7 := rfl
  have s4 : codeB 4 = 1 := rfl
  have s5 : codeB 0 = 0 := rfl
  go_wp2_with (first
    | (go_at_call 11; refine (status_any _ _).mono ?_; rintro e w' ⟨rfl, rfl⟩)
    | (go_at_call 13; refine (code_any _ _).mono ?_; rintro e w' ⟨rfl, rfl⟩))
  refine (H7.out _).mono ?_
  rintro e u7 ⟨rfl, hb⟩
  have hL := Lib.hid (lo_trans hL hb)
  clear hb
  go_wp2_with fail
  go_ret
  exact ⟨rfl, hL.out⟩
end Go.Proofs.Ytcgnoaaejaofiaa
