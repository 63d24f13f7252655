import Derived.Test.YtbjfdmgfmdccgaaPlain
import Derived.Laws.OwnMore
namespace Go.Proofs.Ytbjfdmgfmdccgaa
open Go.RowKit
attribute [local go_sem ↓] Go.wp_at_zero Go.wp_at_succ

theorem info3 : (Try.prog.info? 3).map (fun i => (i.zero, i.size, i.bytes)) = some (some (.int .i64 0), 1, 8) := by kernel_rfl
theorem int_own {w : World} {base n : Nat} {A : Option Addr} {cap : Nat} {xs : List Int} (h : w.ownsRow base 3 1 (.slice A n cap) n (xs.map (Value.int .i64))) (hwf : ∀ x ∈ xs, (Lit.int .i64 x).wf = true) : IntRow .i64 w A n cap xs := by
  have hln : xs.length = n := by
    have h1 := h.1
    rw [List.length_map, Nat.mul_one] at h1
    exact h1
  rcases h.2 with ⟨he, rfl⟩ | ⟨g, cap', cur, he, hb, hh, hnc, hcm, _⟩
  · injection he with e1 e2 e3
    subst e1 e3
    obtain rfl : xs = [] := List.eq_nil_of_length_eq_zero hln
    exact ⟨rfl, Nat.le_refl _, Nat.zero_le _, fun _ => ⟨rfl, rfl⟩, fun i x hx => by simp at hx, hwf⟩
  · injection he with e1 e2 e3
    subst e1 e3
    have hlt : g < w.heap.size := by
      rcases Nat.lt_or_ge g w.heap.size with hlt | hge
      · exact hlt
      · rw [Array.getElem?_eq_none hge] at hh; cases hh
    refine ⟨hln, hnc, hcm, (fun e => by cases e), fun i x hx => ⟨g, 0, rfl, hlt, ?_⟩, hwf⟩
    have hi : i < xs.length := (List.getElem?_eq_some_iff.1 hx).1
    rw [Nat.zero_add, h.cellAt i (by omega), List.getElem?_map, hx]
    rfl
set_option maxRecDepth 100000 in
set_option maxHeartbeats 3200000 in
theorem falls_walk (s : St) (w : World) : Calls Try.prog 5 #[.agg #[.int .i64 s.limit, .int .i64 s.least, .int .i64 s.most, .int .i64 s.low, .int .i64 s.high, .int .i64 s.quiet, .int .i64 s.calm]] w (BoolPost w true) := by
  have hC := check_any s
  have hX := Blk.new (w.alloc (.cells #[.int .i64 s.limit, .int .i64 s.least, .int .i64 s.most, .int .i64 s.low, .int .i64 s.high, .int .i64 s.quiet, .int .i64 s.calm] 28)) 24 #[.int .i64 s.limit, .int .i64 s.least, .int .i64 s.most, .int .i64 s.low, .int .i64 s.high, .int .i64 s.quiet, .int .i64 s.calm]
  simp only [World.size_alloc] at hX
  have hL := lo_alloc (lo_alloc (lo_refl w) (.cells #[.int .i64 s.limit, .int .i64 s.least, .int .i64 s.most, .int .i64 s.low, .int .i64 s.high, .int .i64 s.quiet, .int .i64 s.calm] 28)) (.cells #[.int .i64 s.limit, .int .i64 s.least, .int .i64 s.most, .int .i64 s.low, .int .i64 s.high, .int .i64 s.quiet, .int .i64 s.calm] 24)
  rcases err_cases s with he | he
  case inr =>
    rw [he] at hC
    have HC := Lib.hid hC
    clear hC he
    go_enter Try.func5, Try.ntmps5
    go_wp2_with fail
    refine (HC.out _).mono ?_
    rintro e w1 ⟨rfl, hb⟩
    have hL := lo_trans hL hb
    clear hb
    go_wp2_with fail
    refine (awake_any _).mono ?_
    rintro e wa ⟨rfl, hb⟩
    have hM := Lib.hid (lo_trans hL hb)
    clear hb
    go_wp2_with fail
    go_ret
    exact ⟨rfl, hM.out⟩

  case inl =>
  have hok : s.ok := by
    by_cases h : s.ok
    · exact h
    · rw [show s.err = 8 from if_neg h] at he; cases he
  rw [he] at hC
  have HC := Lib.hid hC
  clear hC he
  by_cases c1 : 20 < s.quiet
  · go_enter Try.func5, Try.ntmps5
    go_wp2_with fail
    refine (HC.out _).mono ?_
    rintro e w1 ⟨rfl, hb⟩
    have hX := hX.lo hb
    have hL := lo_trans hL hb
    clear hb
    obtain ⟨cX, fX⟩ := hX.facts
    go_wp2_with fail
    refine (awake_any _).mono ?_
    rintro e wa ⟨rfl, hb⟩
    have hM := Lib.hid (lo_trans hL hb)
    clear hb
    go_wp2_with fail
    go_ret
    exact ⟨rfl, hM.out⟩

  by_cases c2 : 549755813888 < s.high
  · go_enter Try.func5, Try.ntmps5
    go_wp2_with fail
    refine (HC.out _).mono ?_
    rintro e w1 ⟨rfl, hb⟩
    have hX := hX.lo hb
    have hL := lo_trans hL hb
    clear hb
    obtain ⟨cX, fX⟩ := hX.facts
    go_wp2_with fail
    refine (awake_any _).mono ?_
    rintro e wa ⟨rfl, hb⟩
    have hM := Lib.hid (lo_trans hL hb)
    clear hb
    go_wp2_with fail
    go_ret
    exact ⟨rfl, hM.out⟩

  have hlow := five hok
  have hq := hok
  obtain ⟨⟨q1, q2, q3, q4⟩, ⟨q5, q6, q7⟩, ⟨q8, q9⟩, q10, q11⟩ := hq
  have hwfh : (Lit.int .i64 (s.high + 1)).wf = true := by
    simp [Lit.wf, IntKind.min, IntKind.max, IntKind.signed, IntKind.bits]
    omega
  have hwfl : (Lit.int .i64 (s.low - 1)).wf = true := by
    simp [Lit.wf, IntKind.min, IntKind.max, IntKind.signed, IntKind.bits]
    omega
  have hR1 : ∀ (W : World) (g : Nat), Blk W g 3 #[.int .i64 (s.high + 1), .int .i64 (s.high + 1), .int .i64 (s.high + 1), .int .i64 (s.high + 1), .int .i64 (s.high + 1)] → Calls Try.prog 12 #[.agg #[.int .i64 s.limit, .int .i64 s.least, .int .i64 s.most, .int .i64 s.low, .int .i64 s.high, .int .i64 s.quiet, .int .i64 s.calm], .slice (some ⟨g, 0, none⟩) 5 5] W (RunPost W (runS [s.high + 1, s.high + 1, s.high + 1, s.high + 1, s.high + 1] s 0)) := fun W g hg =>
    run_any s (some ⟨g, 0, none⟩) 5 5 [s.high + 1, s.high + 1, s.high + 1, s.high + 1, s.high + 1] W (row_of hg rfl (by simp) (fun x hx => by simp at hx; rw [hx]; exact hwfh)) (by decide)
  generalize runS [s.high + 1, s.high + 1, s.high + 1, s.high + 1, s.high + 1] s 0 = R at hlow hR1
  obtain ⟨r0, n0⟩ := R
  simp only at hlow
  subst hlow
  have HR1 := Lib.hid hR1
  obtain ⟨T, hT⟩ : ∃ T : Nat, (T : Int) = s.quiet * (s.most - s.least) := ⟨(s.quiet * (s.most - s.least)).toNat, by
    have := Int.mul_nonneg (show 0 ≤ s.quiet by omega) (show 0 ≤ s.most - s.least by omega)
    omega⟩
  have hT2 : (T : Int) ≤ 300 := by
    rw [hT]
    have := Int.mul_le_mul (a := s.quiet) (c := 20) (b := s.most - s.least) (d := 15) (by omega) (by omega) (by omega) (by omega)
    omega
  have hfp := falls_plain hok hT
  have wT : IntKind.i64.wrap (s.quiet * (s.most - s.least)) = (T : Int) := by rw [← hT]; exact IntWalk.i64_in _ (by omega)
  have wS : IntKind.i64.wrap (s.most - s.least) = s.most - s.least := IntWalk.i64_in _ (by omega)
  have wH : IntKind.i64.wrap (s.high + 1) = s.high + 1 := IntWalk.i64_in _ (by omega)
  have wL : IntKind.i64.wrap (s.low - 1) = s.low - 1 := IntWalk.i64_in _ (by omega)
  have HFP := Lib.hid hfp
  obtain ⟨i0, hi, hz0, hz1, hz2⟩ := info_parts info3
  clear hT hfp hR1 hok q1 q2 q3 q4 q5 q6 q7 q8 q9 q10 q11 hwfh
  go_enter Try.func5, Try.ntmps5
  go_wp2_with fail
  refine (HC.out _).mono ?_
  rintro e w1 ⟨rfl, hb⟩
  have hX := hX.lo hb
  have hL := lo_trans hL hb
  clear hb HC
  obtain ⟨gx, hgx⟩ : ∃ g, g = w.heap.size + 1 := ⟨_, rfl⟩
  obtain ⟨cX, fX⟩ := hX.facts
  go_upto_region 4 with fail
  rw [← hgx] at hX ⊢
  clear hgx cX fX
  obtain ⟨cX, fX⟩ := hX.facts
  have hX2 := hX.alloc (.cells #[.int .i64 (s.high + 1), .int .i64 (s.high + 1), .int .i64 (s.high + 1), .int .i64 (s.high + 1), .int .i64 (s.high + 1)] 3)
  have hr := HR1.out _ _ (Blk.new w1 3 #[.int .i64 (s.high + 1), .int .i64 (s.high + 1), .int .i64 (s.high + 1), .int .i64 (s.high + 1), .int .i64 (s.high + 1)])
  have hL2 := lo_alloc hL (.cells #[.int .i64 (s.high + 1), .int .i64 (s.high + 1), .int .i64 (s.high + 1), .int .i64 (s.high + 1), .int .i64 (s.high + 1)] 3)
  go_wp2_with fail
  refine hr.mono ?_
  rintro e w2 ⟨rfl, hb⟩
  have hX := (hX2.lo hb).alloc (.cells #[.int .i64 s.least, .int .i64 s.least, .int .i64 s.most, .int .i64 s.low, .int .i64 s.high, .int .i64 s.quiet, .int .i64 0] 24)
  have hW := Blk.new w2 24 #[.int .i64 s.least, .int .i64 s.least, .int .i64 s.most, .int .i64 s.low, .int .i64 s.high, .int .i64 s.quiet, .int .i64 0]
  have hL := lo_alloc (lo_trans hL2 hb) (.cells #[.int .i64 s.least, .int .i64 s.least, .int .i64 s.most, .int .i64 s.low, .int .i64 s.high, .int .i64 s.quiet, .int .i64 0] 24)
  clear hb hr hX2 hL2 HR1 cX fX
  go_upto_region 5 with fail
  generalize w2.heap.size = gw at hW ⊢
  generalize w2.alloc (.cells #[.int .i64 s.least, .int .i64 s.least, .int .i64 s.most, .int .i64 s.low, .int .i64 s.high, .int .i64 s.quiet, .int .i64 0] 24) = w3 at hX hW hL ⊢
  obtain ⟨cX, fX⟩ := hX.facts
  obtain ⟨cW, fW⟩ := hW.facts
  go_wp2_with fail
  clear cX fX cW fW
  go_loopw [6, 7] (fun v z wr => ∃ k : Nat, k ≤ T ∧ z = .int .i64 k ∧ wr.ownsRow w3.heap.size 3 1 v k ((List.replicate k (s.low - 1)).map (Value.int .i64)) ∧ Below w3.heap.size w3 wr) (fun _ z _ => T - (intOf z).toNat)
  case atStart => exact ⟨0, by omega, rfl, World.ownsRow_nil _ _ _ _, lo_refl w3⟩
  case round =>
    obtain ⟨k, hk, rfl, hown, hbel⟩ := hrel
    have hXk := hX.lo hbel
    obtain ⟨cX, fX⟩ := hXk.facts
    by_cases hkT : k < T
    · have hkT' : (k : Int) < (T : Int) := by omega
      have hsz := hbel.size
      go_wp2_with (at_builtin; refine wp_append_box rfl _ _ 33 rfl w3.heap.size 3 i0 _ 1 8 Try.underlying33 hi hz0 hz1 hz2 rfl (by decide) _ _ _ rfl hown 1 _ rfl rfl (by intro u hu; simp at hu; subst hu; rfl) (by omega) (by decide) hsz ?_; intro v' w4 hown1 hbel1)
      go_roundw
      case rel =>
        refine ⟨k + 1, by omega, by go_num, ?_, hbel.trans hbel1⟩
        rw [List.replicate_succ', List.map_append]
        exact hown1
      case measure => simp [intOf]; omega
    · have hkT' : ¬ (k : Int) < (T : Int) := by omega
      obtain rfl : k = T := by omega
      obtain ⟨A, cp, rfl, hcp, hnil⟩ := own_shape hown
      have hA : IntRow .i64 wr A k cp (List.replicate k (s.low - 1)) := int_own hown (fun x hx => by rw [(List.mem_replicate.1 hx).2]; exact hwfl)
      have hr := run_any ⟨s.least, s.least, s.most, s.low, s.high, s.quiet, 0⟩ A k cp (List.replicate k (s.low - 1)) wr hA (by omega)
      rw [HFP.out] at hr
      have hr := Lib.hid hr
      have hWk := hW.lo hbel
      obtain ⟨cW, fW⟩ := hWk.facts
      have hL2 := lo_trans hL hbel
      clear hown hcp hnil hA hX hW hL
      go_wp2_with fail
      refine hr.out.mono ?_
      rintro e w5 ⟨rfl, hb⟩
      have hX := (hXk.lo hb).alloc (.cells #[.int .i64 s.most, .int .i64 s.least, .int .i64 s.most, .int .i64 s.low, .int .i64 s.high, .int .i64 s.quiet, .int .i64 0] 24)
      have hH := Blk.new w5 24 #[.int .i64 s.most, .int .i64 s.least, .int .i64 s.most, .int .i64 s.low, .int .i64 s.high, .int .i64 s.quiet, .int .i64 0]
      have hL := lo_alloc (lo_trans hL2 hb) (.cells #[.int .i64 s.most, .int .i64 s.least, .int .i64 s.most, .int .i64 s.low, .int .i64 s.high, .int .i64 s.quiet, .int .i64 0] 24)
      clear hb cX fX cW fW hXk hWk hL2 hr hbel
      go_upto_region 13 with fail
      generalize w5.heap.size = gh at hH ⊢
      generalize w5.alloc (.cells #[.int .i64 s.most, .int .i64 s.least, .int .i64 s.most, .int .i64 s.low, .int .i64 s.high, .int .i64 s.quiet, .int .i64 0] 24) = w6 at hX hH hL ⊢
      obtain ⟨cX, fX⟩ := hX.facts
      obtain ⟨cH, fH⟩ := hH.facts
      go_wp2_with fail
      refine (awake_any _).mono ?_
      rintro e wa ⟨rfl, hb⟩
      have hM := Lib.hid (lo_trans hL hb)
      clear hb
      go_wp2_with fail
      go_ret
      exact ⟨rfl, hM.out⟩

theorem walk_HystFalls (s0_0 : Int) (s0_1 : Int) (s0_2 : Int) (s0_3 : Int) (s0_4 : Int) (s0_5 : Int) (s0_6 : Int) (w : World) (w0_0 : (Lit.int .i64 s0_0).wf = true) (w0_1 : (Lit.int .i64 s0_1).wf = true) (w0_2 : (Lit.int .i64 s0_2).wf = true) (w0_3 : (Lit.int .i64 s0_3).wf = true) (w0_4 : (Lit.int .i64 s0_4).wf = true) (w0_5 : (Lit.int .i64 s0_5).wf = true) (w0_6 : (Lit.int .i64 s0_6).wf = true) :
    Calls Try.prog 5 #[.agg #[.int .i64 s0_0, .int .i64 s0_1, .int .i64 s0_2, .int .i64 s0_3, .int .i64 s0_4, .int .i64 s0_5, .int .i64 s0_6]] w fun e w' => e = .returned (.bool true) ∧ Below w.heap.size w w' := falls_walk ⟨s0_0, s0_1, s0_2, s0_3, s0_4, s0_5, s0_6⟩ w
end Go.Proofs.Ytbjfdmgfmdccgaa
