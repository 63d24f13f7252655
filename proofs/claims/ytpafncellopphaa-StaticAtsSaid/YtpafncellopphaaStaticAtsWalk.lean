import Derived.Test.YtpafncellopphaaAwake
import Derived.Test.YtpafncellopphaaRefAt
import Derived.Test.YtpafncellopphaaPlain
import Derived.Deep.DrawnRows
import Derived.Deep.DeepFit
import Derived.Deep.RegionHeld3
import Derived.WalkSmall
import Derived.Deep.RegionWith
import Derived.Deep.QuietTactic
import Derived.BigQuiet
namespace Go.Proofs.Ytpafncellopphaa
open Go.RowKit
attribute [local go_sem ↓] Go.wp_at_zero Go.wp_at_succ

theorem keep9 {W w' : World} {p q r : Nat} {p0 p1 p2 q0 q1 q2 r0 r1 r2 : Value} (hb : Below W.heap.size W w') (h : W.cell? ⟨p, 0, none⟩ = some p0 ∧ W.cell? ⟨p, 1, none⟩ = some p1 ∧ W.cell? ⟨p, 2, none⟩ = some p2 ∧ W.cell? ⟨q, 0, none⟩ = some q0 ∧ W.cell? ⟨q, 1, none⟩ = some q1 ∧ W.cell? ⟨q, 2, none⟩ = some q2 ∧ W.cell? ⟨r, 0, none⟩ = some r0 ∧ W.cell? ⟨r, 1, none⟩ = some r1 ∧ W.cell? ⟨r, 2, none⟩ = some r2 ∧ p < W.heap.size ∧ q < W.heap.size ∧ r < W.heap.size) :
    w'.cell? ⟨p, 0, none⟩ = some p0 ∧ w'.cell? ⟨p, 1, none⟩ = some p1 ∧ w'.cell? ⟨p, 2, none⟩ = some p2 ∧ w'.cell? ⟨q, 0, none⟩ = some q0 ∧ w'.cell? ⟨q, 1, none⟩ = some q1 ∧ w'.cell? ⟨q, 2, none⟩ = some q2 ∧ w'.cell? ⟨r, 0, none⟩ = some r0 ∧ w'.cell? ⟨r, 1, none⟩ = some r1 ∧ w'.cell? ⟨r, 2, none⟩ = some r2 ∧ p < w'.heap.size ∧ q < w'.heap.size ∧ r < w'.heap.size := by
  obtain ⟨h0, h1, h2, h3, h4, h5, h6, h7, h8, h9, h10, h11⟩ := h
  exact ⟨(hb.cell (p := ⟨p, 0, none⟩) h9).trans h0, (hb.cell (p := ⟨p, 1, none⟩) h9).trans h1, (hb.cell (p := ⟨p, 2, none⟩) h9).trans h2, (hb.cell (p := ⟨q, 0, none⟩) h10).trans h3, (hb.cell (p := ⟨q, 1, none⟩) h10).trans h4, (hb.cell (p := ⟨q, 2, none⟩) h10).trans h5, (hb.cell (p := ⟨r, 0, none⟩) h11).trans h6, (hb.cell (p := ⟨r, 1, none⟩) h11).trans h7, (hb.cell (p := ⟨r, 2, none⟩) h11).trans h8, Nat.lt_of_lt_of_le h9 hb.size, Nat.lt_of_lt_of_le h10 hb.size, Nat.lt_of_lt_of_le h11 hb.size⟩
set_option maxRecDepth 100000 in
set_option maxHeartbeats 3200000 in
theorem walk_StaticAts (a0 : Int) (s1_0 : ByteArray) (s1_1 : ByteArray) (s1_2 : Bool) (w : World) (_w0 : (Lit.int .i64 a0).wf = true) (_w1_0 : s1_0.size ≤ maxLen) (_w1_1 : s1_1.size ≤ maxLen) :
    Calls Try.prog 3 #[.int .i64 a0, .agg #[.string s1_0, .string s1_1, .bool s1_2]] w fun e w' => e = .returned (.bool true) ∧ Below w.heap.size w w' := by
  clear _w0 _w1_0 _w1_1
  by_cases h0 : s1_0.size > 100
  · go_enter Try.func3, Try.ntmps3
    go_wp2_with fail
    refine (awake_any _).mono ?_
    rintro e w2 ⟨rfl, hb2⟩
    have hM := Lib.hid (lo_trans (lo_alloc (lo_refl w) _) hb2)
    go_wp2_with fail
    go_ret
    exact ⟨rfl, hM.out⟩
  · by_cases h1 : s1_1.size > 100
    · go_enter Try.func3, Try.ntmps3
      go_wp2_with fail
      refine (awake_any _).mono ?_
      rintro e w2 ⟨rfl, hb2⟩
      have hM := Lib.hid (lo_trans (lo_alloc (lo_refl w) _) hb2)
      go_wp2_with fail
      go_ret
      exact ⟨rfl, hM.out⟩
    · have H1 := Lib.hid (at_any a0)
      have H2 := Lib.hid (ref_any a0)
      generalize atT a0 = r at H1 H2
      obtain ⟨⟨xn, xv⟩, xb⟩ := r
      have H3 := Lib.hid (size_any s1_0 s1_1 s1_2 (by omega) (by omega))
      have H4 := Lib.hid (size_ref s1_0 s1_1 s1_2 (by omega) (by omega))
      go_enter Try.func3, Try.ntmps3
      go_wp2_with fail
      refine (H1.out _).mono ?_
      rintro e w1 ⟨rfl, hb1⟩
      have hA := ((Blk.new w 23 #[.string s1_0, .string s1_1, .bool s1_2]).lo hb1).alloc (.cells #[.string xn, .string xv, .bool false] 23)
      have hB := Blk.new w1 23 #[.string xn, .string xv, .bool false]
      have hL := Lib.hid (lo_alloc (lo_trans (lo_alloc (lo_refl w) _) hb1) (.cells #[.string xn, .string xv, .bool false] 23))
      clear hb1
      go_wp2_with fail
      refine (H2.out _).mono ?_
      rintro e w2 ⟨rfl, hb2⟩
      have hA := (hA.lo hb2).alloc (.cells #[.string xn, .string xv, .bool false] 23)
      have hB := (hB.lo hb2).alloc (.cells #[.string xn, .string xv, .bool false] 23)
      have hC := Blk.new w2 23 #[.string xn, .string xv, .bool false]
      have hL := Lib.hid (lo_alloc (lo_trans hL.out hb2) (.cells #[.string xn, .string xv, .bool false] 23))
      clear hb2
      go_wp2_with fail
      refine (all_any _).mono ?_
      rintro e w3 ⟨g, rfl, hG, hg2, hb3⟩
      have hA := hA.lo hb3
      have hB := hB.lo hb3
      have hC := hC.lo hb3
      have hL := Lib.hid (lo_trans hL.out hb3)
      clear hb3 hg2
      go_wp2_with fail
      generalize hga : w.heap.size = ga at hA
      generalize hgb : w1.heap.size = gb at *
      generalize hgc : w2.heap.size = gc at *
      go_loopw [10] (fun y wr => ∃ k : Nat, k ≤ 61 ∧ y = .int .i64 k ∧ Blk wr ga 23 #[.string s1_0, .string s1_1, .bool s1_2] ∧ Blk wr gb 23 #[.string xn, .string xv, .bool false] ∧ Blk wr gc 23 #[.string xn, .string xv, .bool false] ∧ Blk wr g 35 tabArr ∧ Below w.heap.size w wr) (fun y _ => 61 - (intOf y).toNat)
      case atStart => exact ⟨0, by omega, rfl, hA, hB, hC, hG, hL.out⟩
      case round =>
        clear hA hB hC hG hL
        obtain ⟨k, hk, rfl, hA, hB, hC, hG, hbel⟩ := hrel
        by_cases hkl : k < 61
        · have hkl' : (k : Int) < 61 := by omega
          have hR := ref_any ((k : Int) + 1)
          rw [at_in hkl] at hR
          have hcells := tab_cells k hkl
          generalize tab.getD k nofield = x at hR hcells
          obtain ⟨yn, yv⟩ := x
          have HR := Lib.hid hR
          clear hR
          have HL := Lib.hid hbel
          clear hbel
          go_wp2_with fail
          refine (HR.out _).mono ?_
          rintro e w4 ⟨rfl, hb4⟩
          have hA := (hA.lo hb4).alloc (.cells #[.string yn, .string yv, .bool false] 23)
          have hB := (hB.lo hb4).alloc (.cells #[.string yn, .string yv, .bool false] 23)
          have hC := (hC.lo hb4).alloc (.cells #[.string yn, .string yv, .bool false] 23)
          have hG := (hG.lo hb4).alloc (.cells #[.string yn, .string yv, .bool false] 23)
          have HL := Lib.hid (lo_alloc (lo_trans HL.out hb4) (.cells #[.string yn, .string yv, .bool false] 23))
          clear hb4
          have hY := Blk.new w4 23 #[.string yn, .string yv, .bool false]
          obtain ⟨t0, t1, t2⟩ := hcells
          rw [Nat.mul_comm 3 k] at t0 t1 t2
          go_upto_region 12 with fail
          generalize w4.heap.size = gy at *
          generalize w4.alloc (.cells #[.string yn, .string yv, .bool false] 23) = w5 at *
          obtain ⟨cG, fG⟩ := hG.facts
          obtain ⟨cY, fY⟩ := hY.facts
          have c0 := (cG (k * 3)).trans t0
          have c1 := (cG (k * 3 + 1)).trans t1
          have c2 := (cG (k * 3 + 2)).trans t2
          have f0 := fG (k * 3)
          have f1 := fG (k * 3 + 1)
          have f2 := fG (k * 3 + 2)
          clear cG fG t0 t1 t2
          go_quiet (fail)
          have hA := hA.drewN nq
          have hB := hB.drewN nq
          have hC := hC.drewN nq
          have hG := hG.drewN nq
          have HL := Lib.hid (lo_drewN HL.out nq)
          clear c0 c1 c2 f0 f1 f2 cY fY
          go_wp2_with fail
          go_roundw
          case rel => exact ⟨k + 1, by omega, by go_num, hA, hB, hC, hG, HL.out⟩
          case measure => simp [intOf]; omega
        · have hkl' : ¬ (k : Int) < 61 := by omega
          obtain ⟨cA, fA⟩ := hA.facts
          obtain ⟨cB, fB⟩ := hB.facts
          obtain ⟨cC, fC⟩ := hC.facts
          have lA := hA.lt
          have lB := hB.lt
          have lC := hC.lt
          have HL := Lib.hid hbel
          clear hbel hA hB hC hG
          go_wp2_with fail
          go_region_held3 (fun W => W.cell? ⟨ga, 0, none⟩ = some (.string s1_0) ∧ W.cell? ⟨ga, 1, none⟩ = some (.string s1_1) ∧ W.cell? ⟨ga, 2, none⟩ = some (.bool s1_2) ∧ W.cell? ⟨gb, 0, none⟩ = some (.string xn) ∧ W.cell? ⟨gb, 1, none⟩ = some (.string xv) ∧ W.cell? ⟨gb, 2, none⟩ = some (.bool false) ∧ W.cell? ⟨gc, 0, none⟩ = some (.string xn) ∧ W.cell? ⟨gc, 1, none⟩ = some (.string xv) ∧ W.cell? ⟨gc, 2, none⟩ = some (.bool false) ∧ ga < W.heap.size ∧ gb < W.heap.size ∧ gc < W.heap.size) (first | exact keep9 hb1 (by assumption) | exact keep9 hb2 (by assumption) | exact keep9 hb3 (by assumption) | (simp [*]; done) | go_keep)
            (first
              | (go_at_call 10; refine (H3.out _).mono ?_; rintro e wx ⟨rfl, hb1⟩)
              | (go_at_call 11; refine (H4.out _).mono ?_; rintro e wx ⟨rfl, hb2⟩)
              | (go_at_call 6; refine (awake_any _).mono ?_; rintro e wx ⟨rfl, hb3⟩))
          have hM := lo_trans (lo_trans (lo_trans (lo_drew HL.out) hb1) hb2) hb3
          clear hb1 hb2 hb3
          go_wp2_with fail
          go_ret
          exact ⟨rfl, hM⟩
end Go.Proofs.Ytpafncellopphaa
