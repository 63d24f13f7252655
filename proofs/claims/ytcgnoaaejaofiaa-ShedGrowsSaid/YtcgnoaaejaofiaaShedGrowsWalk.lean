import Derived.Test.YtcgnoaaejaofiaaLib9
import Derived.Test.YtcgnoaaejaofiaaUntil
namespace Go.Proofs.Ytcgnoaaejaofiaa
open Go.RowKit
attribute [local go_sem ↓] Go.wp_at_zero Go.wp_at_succ

theorem dec_ok {x : Lk} {b : Bk} (hf : (decB x b).1 = 0) : b.ok := by
  obtain ⟨f1, f2, f3, f4, f5⟩ := (fates_plain x b).1.1 hf
  have hok : (atB b x.tick).ok := ok_of_has (by omega)
  by_cases h : b.ok
  · exact h
  · rw [at_bad h] at hok; exact hok
set_option maxRecDepth 100000 in
set_option maxHeartbeats 3200000 in
theorem grows_walk (x : Lk) (b : Bk) (n0 n1 n2 n3 : Int) (h0 : 0 ≤ n0 ∧ n0 ≤ 255) (h1 : 0 ≤ n1 ∧ n1 ≤ 255) (h2 : 0 ≤ n2 ∧ n2 ≤ 255) (h3 : 0 ≤ n3 ∧ n3 ≤ 255) (hcap : x.cap ≤ 9223372036854775807) (w : World) :
    Calls Try.prog 6 #[.agg #[.int .i64 x.opn, .int .i64 x.told, .int .i64 x.agreed, .bool x.away, .int .i64 x.cost, .int .i64 x.backlog, .int .i64 x.cap, .int .i64 x.tick, .int .i64 x.second], .agg #[.int .i64 b.burst, .int .i64 b.rate, .int .i64 b.per, .int .i64 b.level, .int .i64 b.now], .agg #[.int .u8 n0, .int .u8 n1, .int .u8 n2, .int .u8 n3]] w (BoolPost w true) := by
  go_enter Try.func6, Try.ntmps6
  go_upto_region 1 with fail
  go_cut [7, 8] (fun u v wr => ∃ gx gb, u = .pointer (some ⟨gx, 0, none⟩) ∧ v = .pointer (some ⟨gb, 0, none⟩) ∧ Copies w x b gx gb wr ∧ Blk wr (w.heap.size + 1 + 1) 45 #[.int .u8 n0, .int .u8 n1, .int .u8 n2, .int .u8 n3] ∧ gx ≠ w.heap.size + 1 + 1 ∧ gb ≠ w.heap.size + 1 + 1)
  case first =>
    have hb3 := lo_alloc (lo_alloc (lo_alloc (lo_refl w) (.cells #[.int .i64 x.opn, .int .i64 x.told, .int .i64 x.agreed, .bool x.away, .int .i64 x.cost, .int .i64 x.backlog, .int .i64 x.cap, .int .i64 x.tick, .int .i64 x.second] 23)) (.cells #[.int .i64 b.burst, .int .i64 b.rate, .int .i64 b.per, .int .i64 b.level, .int .i64 b.now] 25)) (.cells #[.int .u8 n0, .int .u8 n1, .int .u8 n2, .int .u8 n3] 45)
    replace hN := Blk.new ((w.alloc (.cells #[.int .i64 x.opn, .int .i64 x.told, .int .i64 x.agreed, .bool x.away, .int .i64 x.cost, .int .i64 x.backlog, .int .i64 x.cap, .int .i64 x.tick, .int .i64 x.second] 23)).alloc (.cells #[.int .i64 b.burst, .int .i64 b.rate, .int .i64 b.per, .int .i64 b.level, .int .i64 b.now] 25)) 45 #[.int .u8 n0, .int .u8 n1, .int .u8 n2, .int .u8 n3]
    simp only [World.size_alloc] at hN
    go_region
    all_goals
      go_wp2_with fail
      go_meet
      first
      | (have hc := copies_a w _ x b hb3; simp only [World.size_alloc] at hc; exact ⟨_, _, rfl, rfl, hc, ((hN.alloc _).alloc _).drew, by omega, by omega⟩)
      | (have hc := copies_b w _ x b hb3; simp only [World.size_alloc] at hc; exact ⟨_, _, rfl, rfl, hc, ((hN.alloc _).alloc _).drew, by omega, by omega⟩)
  case rest =>
  obtain ⟨gx, gb, rfl, rfl, ⟨hX, hB, lx, lb, nxb, hL⟩, hN, nxn, nbn⟩ := hcut

  have H1 := Lib.hid (decide_any x b hcap)
  have H2 := Lib.hid (decide_any ⟨x.opn, x.told, x.agreed, true, x.cost, x.backlog, x.cap, x.tick, x.second⟩ b hcap)
  have H3 := Lib.hid (decide_any ⟨x.opn, x.told, x.agreed, x.away, x.cost, x.backlog, 0, x.tick, x.second⟩ b (by simp))
  have hz2 := grows_away (x := ⟨x.opn, x.told, x.agreed, true, x.cost, x.backlog, x.cap, x.tick, x.second⟩) b rfl
  have hz3 := grows_full (x := ⟨x.opn, x.told, x.agreed, x.away, x.cost, x.backlog, 0, x.tick, x.second⟩) b rfl
  generalize decB ⟨x.opn, x.told, x.agreed, true, x.cost, x.backlog, x.cap, x.tick, x.second⟩ b = r2 at H2 hz2
  generalize decB ⟨x.opn, x.told, x.agreed, x.away, x.cost, x.backlog, 0, x.tick, x.second⟩ b = r3 at H3 hz3
  have hp1 : (decB x b).1 = 0 → x.opn < x.agreed ∧ x.opn < x.told ∧ 0 ≤ x.backlog ∧ x.backlog ≤ x.cap := fun h => by
    have := (fates_plain x b).1.1 h
    have hf := this.2.2.2.1
    simp only [Lk.fits, decide_eq_true_eq] at hf
    exact ⟨this.1, this.2.1, hf.2.1, hf.2.2.1⟩
  have hk := @dec_ok x b
  have hg := @grows_plain x b
  obtain ⟨r1, hr1⟩ : ∃ r, decB x b = r := ⟨_, rfl⟩
  rw [hr1] at H1 hp1 hg hk
  have HP1 := Lib.hid hp1
  have HG := Lib.hid hg
  have HK := Lib.hid hk
  clear hp1 hg hr1 hk
  obtain ⟨gn, hgn⟩ : ∃ g, g = w.heap.size + 1 + 1 := ⟨_, rfl⟩
  rw [← hgn] at hN nxn nbn ⊢
  clear hgn
  obtain ⟨cX, fX⟩ := hX.facts
  obtain ⟨cB, fB⟩ := hB.facts
  go_wp2_with fail
  refine (H1.out _).mono ?_
  rintro e u1 ⟨rfl, hb⟩
  clear cX fX cB fB
  replace hX := (hX.lo hb).alloc (.cells #[.int .i64 r1.2.1.burst, .int .i64 r1.2.1.rate, .int .i64 r1.2.1.per, .int .i64 r1.2.1.level, .int .i64 r1.2.1.now] 26)
  replace hB := (hB.lo hb).alloc (.cells #[.int .i64 r1.2.1.burst, .int .i64 r1.2.1.rate, .int .i64 r1.2.1.per, .int .i64 r1.2.1.level, .int .i64 r1.2.1.now] 26)
  replace hN := (hN.lo hb).alloc (.cells #[.int .i64 r1.2.1.burst, .int .i64 r1.2.1.rate, .int .i64 r1.2.1.per, .int .i64 r1.2.1.level, .int .i64 r1.2.1.now] 26)
  replace hL := lo_alloc (lo_trans hL hb) (.cells #[.int .i64 r1.2.1.burst, .int .i64 r1.2.1.rate, .int .i64 r1.2.1.per, .int .i64 r1.2.1.level, .int .i64 r1.2.1.now] 26)
  clear hb
  go_upto_region 3 with fail
  generalize u1.heap.size = g1 at ⊢
  generalize u1.alloc (.cells #[.int .i64 r1.2.1.burst, .int .i64 r1.2.1.rate, .int .i64 r1.2.1.per, .int .i64 r1.2.1.level, .int .i64 r1.2.1.now] 26) = v1 at hX hB hN hL ⊢
  obtain ⟨cX, fX⟩ := hX.facts
  go_upto_region 4 with fail
  clear cX fX
  have hA := Blk.new v1 29 #[.int .i64 x.opn, .int .i64 x.told, .int .i64 x.agreed, .bool x.away, .int .i64 x.cost, .int .i64 x.backlog, .int .i64 x.cap, .int .i64 x.tick, .int .i64 x.second]
  have nAX : v1.heap.size ≠ gx := by have := hX.lt; omega
  have nAB : v1.heap.size ≠ gb := by have := hB.lt; omega
  have nAN : v1.heap.size ≠ gn := by have := hN.lt; omega
  have hgA := hL.size
  replace hX := hX.alloc (.cells #[.int .i64 x.opn, .int .i64 x.told, .int .i64 x.agreed, .bool x.away, .int .i64 x.cost, .int .i64 x.backlog, .int .i64 x.cap, .int .i64 x.tick, .int .i64 x.second] 29)
  replace hB := hB.alloc (.cells #[.int .i64 x.opn, .int .i64 x.told, .int .i64 x.agreed, .bool x.away, .int .i64 x.cost, .int .i64 x.backlog, .int .i64 x.cap, .int .i64 x.tick, .int .i64 x.second] 29)
  replace hN := hN.alloc (.cells #[.int .i64 x.opn, .int .i64 x.told, .int .i64 x.agreed, .bool x.away, .int .i64 x.cost, .int .i64 x.backlog, .int .i64 x.cap, .int .i64 x.tick, .int .i64 x.second] 29)
  replace hL := lo_alloc hL (.cells #[.int .i64 x.opn, .int .i64 x.told, .int .i64 x.agreed, .bool x.away, .int .i64 x.cost, .int .i64 x.backlog, .int .i64 x.cap, .int .i64 x.tick, .int .i64 x.second] 29)
  generalize v1.heap.size = gA at hA nAX nAB nAN hgA ⊢
  generalize v1.alloc (.cells #[.int .i64 x.opn, .int .i64 x.told, .int .i64 x.agreed, .bool x.away, .int .i64 x.cost, .int .i64 x.backlog, .int .i64 x.cap, .int .i64 x.tick, .int .i64 x.second] 29) = v1a at hA hX hB hN hL ⊢
  obtain ⟨cA, fA⟩ := hA.facts
  have lA := hA.lt
  go_upto_region 5 with fail
  clear cA fA lA
  have hA : Blk (v1a.setCell ⟨gA, 3, none⟩ (.bool true)) gA 29 #[.int .i64 x.opn, .int .i64 x.told, .int .i64 x.agreed, .bool true, .int .i64 x.cost, .int .i64 x.backlog, .int .i64 x.cap, .int .i64 x.tick, .int .i64 x.second] := hA.set_ 3 (.bool true)
  replace hX := hX.far (p := ⟨gA, 3, none⟩) nAX.symm (.bool true)
  replace hB := hB.far (p := ⟨gA, 3, none⟩) nAB.symm (.bool true)
  replace hN := hN.far (p := ⟨gA, 3, none⟩) nAN.symm (.bool true)
  replace hL := lo_set hL (p := ⟨gA, 3, none⟩) hgA (.bool true)
  generalize v1a.setCell ⟨gA, 3, none⟩ (.bool true) = v2 at hA hX hB hN hL ⊢
  clear nAX nAB nAN hgA
  obtain ⟨cA, fA⟩ := hA.facts
  obtain ⟨cB, fB⟩ := hB.facts
  go_wp2_with fail
  refine (H2.out _).mono ?_
  rintro e u2 ⟨rfl, hb⟩
  clear cA fA cB fB
  replace hX := (hX.lo hb).alloc (.cells #[.int .i64 r2.2.1.burst, .int .i64 r2.2.1.rate, .int .i64 r2.2.1.per, .int .i64 r2.2.1.level, .int .i64 r2.2.1.now] 26)
  replace hB := (hB.lo hb).alloc (.cells #[.int .i64 r2.2.1.burst, .int .i64 r2.2.1.rate, .int .i64 r2.2.1.per, .int .i64 r2.2.1.level, .int .i64 r2.2.1.now] 26)
  replace hN := (hN.lo hb).alloc (.cells #[.int .i64 r2.2.1.burst, .int .i64 r2.2.1.rate, .int .i64 r2.2.1.per, .int .i64 r2.2.1.level, .int .i64 r2.2.1.now] 26)
  replace hL := lo_alloc (lo_trans hL hb) (.cells #[.int .i64 r2.2.1.burst, .int .i64 r2.2.1.rate, .int .i64 r2.2.1.per, .int .i64 r2.2.1.level, .int .i64 r2.2.1.now] 26)
  clear hb
  go_upto_region 6 with fail
  generalize u2.heap.size = g2 at ⊢
  generalize u2.alloc (.cells #[.int .i64 r2.2.1.burst, .int .i64 r2.2.1.rate, .int .i64 r2.2.1.per, .int .i64 r2.2.1.level, .int .i64 r2.2.1.now] 26) = v3 at hX hB hN hL ⊢
  clear hA
  obtain ⟨cX, fX⟩ := hX.facts
  go_upto_region 7 with fail
  clear cX fX
  have hF := Blk.new v3 29 #[.int .i64 x.opn, .int .i64 x.told, .int .i64 x.agreed, .bool x.away, .int .i64 x.cost, .int .i64 x.backlog, .int .i64 x.cap, .int .i64 x.tick, .int .i64 x.second]
  have nFX : v3.heap.size ≠ gx := by have := hX.lt; omega
  have nFB : v3.heap.size ≠ gb := by have := hB.lt; omega
  have nFN : v3.heap.size ≠ gn := by have := hN.lt; omega
  have hgF := hL.size
  replace hX := hX.alloc (.cells #[.int .i64 x.opn, .int .i64 x.told, .int .i64 x.agreed, .bool x.away, .int .i64 x.cost, .int .i64 x.backlog, .int .i64 x.cap, .int .i64 x.tick, .int .i64 x.second] 29)
  replace hB := hB.alloc (.cells #[.int .i64 x.opn, .int .i64 x.told, .int .i64 x.agreed, .bool x.away, .int .i64 x.cost, .int .i64 x.backlog, .int .i64 x.cap, .int .i64 x.tick, .int .i64 x.second] 29)
  replace hN := hN.alloc (.cells #[.int .i64 x.opn, .int .i64 x.told, .int .i64 x.agreed, .bool x.away, .int .i64 x.cost, .int .i64 x.backlog, .int .i64 x.cap, .int .i64 x.tick, .int .i64 x.second] 29)
  replace hL := lo_alloc hL (.cells #[.int .i64 x.opn, .int .i64 x.told, .int .i64 x.agreed, .bool x.away, .int .i64 x.cost, .int .i64 x.backlog, .int .i64 x.cap, .int .i64 x.tick, .int .i64 x.second] 29)
  generalize v3.heap.size = gF at hF nFX nFB nFN hgF ⊢
  generalize v3.alloc (.cells #[.int .i64 x.opn, .int .i64 x.told, .int .i64 x.agreed, .bool x.away, .int .i64 x.cost, .int .i64 x.backlog, .int .i64 x.cap, .int .i64 x.tick, .int .i64 x.second] 29) = v3a at hF hX hB hN hL ⊢
  obtain ⟨cF, fF⟩ := hF.facts
  have lF := hF.lt
  go_upto_region 8 with fail
  clear cF fF lF
  have hF : Blk (v3a.setCell ⟨gF, 6, none⟩ (.int .i64 0)) gF 29 #[.int .i64 x.opn, .int .i64 x.told, .int .i64 x.agreed, .bool x.away, .int .i64 x.cost, .int .i64 x.backlog, .int .i64 0, .int .i64 x.tick, .int .i64 x.second] := hF.set_ 6 (.int .i64 0)
  replace hX := hX.far (p := ⟨gF, 6, none⟩) nFX.symm (.int .i64 0)
  replace hB := hB.far (p := ⟨gF, 6, none⟩) nFB.symm (.int .i64 0)
  replace hN := hN.far (p := ⟨gF, 6, none⟩) nFN.symm (.int .i64 0)
  replace hL := lo_set hL (p := ⟨gF, 6, none⟩) hgF (.int .i64 0)
  generalize v3a.setCell ⟨gF, 6, none⟩ (.int .i64 0) = v4 at hF hX hB hN hL ⊢
  clear nFX nFB nFN hgF
  obtain ⟨cF, fF⟩ := hF.facts
  obtain ⟨cB, fB⟩ := hB.facts
  go_wp2_with fail
  refine (H3.out _).mono ?_
  rintro e u3 ⟨rfl, hb⟩
  clear cF fF cB fB
  replace hX := (hX.lo hb).alloc (.cells #[.int .i64 r3.2.1.burst, .int .i64 r3.2.1.rate, .int .i64 r3.2.1.per, .int .i64 r3.2.1.level, .int .i64 r3.2.1.now] 26)
  replace hB := (hB.lo hb).alloc (.cells #[.int .i64 r3.2.1.burst, .int .i64 r3.2.1.rate, .int .i64 r3.2.1.per, .int .i64 r3.2.1.level, .int .i64 r3.2.1.now] 26)
  replace hN := (hN.lo hb).alloc (.cells #[.int .i64 r3.2.1.burst, .int .i64 r3.2.1.rate, .int .i64 r3.2.1.per, .int .i64 r3.2.1.level, .int .i64 r3.2.1.now] 26)
  replace hL := lo_alloc (lo_trans hL hb) (.cells #[.int .i64 r3.2.1.burst, .int .i64 r3.2.1.rate, .int .i64 r3.2.1.per, .int .i64 r3.2.1.level, .int .i64 r3.2.1.now] 26)
  clear hb
  go_upto_region 9 with fail
  generalize u3.heap.size = g3 at ⊢
  generalize u3.alloc (.cells #[.int .i64 r3.2.1.burst, .int .i64 r3.2.1.rate, .int .i64 r3.2.1.per, .int .i64 r3.2.1.level, .int .i64 r3.2.1.now] 26) = v5 at hX hB hN hL ⊢
  clear hF
  have z2 : (r2.1 == 0) = false := beq_eq_false_iff_ne.2 hz2
  have z3 : (r3.1 == 0) = false := beq_eq_false_iff_ne.2 hz3
  clear hz2 hz3 H1 H2 H3
  by_cases hf : r1.1 = 0
  · by_cases c1 : 1000 < x.told
    · obtain ⟨cX, fX⟩ := hX.facts
      go_wp2_with fail
      refine (awake_any _).mono ?_
      rintro e wa ⟨rfl, hb⟩
      have hM := Lib.hid (lo_trans hL hb)
      clear hb
      go_wp2_with fail
      go_ret
      exact ⟨rfl, hM.out⟩

    · by_cases c2 : 1000 < x.agreed
      · obtain ⟨cX, fX⟩ := hX.facts
        go_wp2_with fail
        refine (awake_any _).mono ?_
        rintro e wa ⟨rfl, hb⟩
        have hM := Lib.hid (lo_trans hL hb)
        clear hb
        go_wp2_with fail
        go_ret
        exact ⟨rfl, hM.out⟩

      · by_cases c3 : x.opn < -1000
        · obtain ⟨cX, fX⟩ := hX.facts
          go_wp2_with fail
          refine (awake_any _).mono ?_
          rintro e wa ⟨rfl, hb⟩
          have hM := Lib.hid (lo_trans hL hb)
          clear hb
          go_wp2_with fail
          go_ret
          exact ⟨rfl, hM.out⟩

        · by_cases c4 : 1099511627776 < x.cap
          · obtain ⟨cX, fX⟩ := hX.facts
            go_wp2_with fail
            refine (awake_any _).mono ?_
            rintro e wa ⟨rfl, hb⟩
            have hM := Lib.hid (lo_trans hL hb)
            clear hb
            go_wp2_with fail
            go_ret
            exact ⟨rfl, hM.out⟩

          · obtain ⟨hgo, hgt, hbl0, hbl1⟩ := HP1.out hf
            obtain ⟨cX, fX⟩ := hX.facts
            go_upto_region 13 with fail
            clear cX fX
            have w0 : IntKind.i64.wrap n0 = n0 := IntWalk.i64_in _ (by omega)
            have w1 : IntKind.i64.wrap n1 = n1 := IntWalk.i64_in _ (by omega)
            have w2 : IntKind.i64.wrap n2 = n2 := IntWalk.i64_in _ (by omega)
            have w3 : IntKind.i64.wrap n3 = n3 := IntWalk.i64_in _ (by omega)
            have kk0 : IntKind.i64.wrap (x.opn - n0) = x.opn - n0 := IntWalk.i64_in _ (by omega)
            have kk1 : IntKind.i64.wrap (x.told + n1) = x.told + n1 := IntWalk.i64_in _ (by omega)
            have kk2 : IntKind.i64.wrap (x.agreed + n2) = x.agreed + n2 := IntWalk.i64_in _ (by omega)
            have kk3 : IntKind.i64.wrap (x.cap + n3) = x.cap + n3 := IntWalk.i64_in _ (by omega)
            refine wp_region_until (S := (fun W => W.cell? ⟨gx, 0, none⟩ = some (.int .i64 x.opn) ∧ W.cell? ⟨gx, 1, none⟩ = some (.int .i64 x.told) ∧ W.cell? ⟨gx, 2, none⟩ = some (.int .i64 x.agreed) ∧ W.cell? ⟨gx, 6, none⟩ = some (.int .i64 x.cap) ∧ gx < W.heap.size)) (S2 := (fun W => W.cell? ⟨gn, 0, none⟩ = some (.int .u8 n0) ∧ W.cell? ⟨gn, 1, none⟩ = some (.int .u8 n1) ∧ W.cell? ⟨gn, 2, none⟩ = some (.int .u8 n2) ∧ W.cell? ⟨gn, 3, none⟩ = some (.int .u8 n3) ∧ gn < W.heap.size ∧ gx < W.heap.size)) 25 (by kernel_rfl) ?_
            replace hX : Blk v5.drew _ _ _ := hX
            replace hN : Blk v5.drew _ _ _ := hN
            replace hB : Blk v5.drew _ _ _ := hB
            replace hL := lo_drew hL
            generalize v5.drew = wd at *
            have hG : (fun W => W.cell? ⟨gn, 0, none⟩ = some (.int .u8 n0) ∧ W.cell? ⟨gn, 1, none⟩ = some (.int .u8 n1) ∧ W.cell? ⟨gn, 2, none⟩ = some (.int .u8 n2) ∧ W.cell? ⟨gn, 3, none⟩ = some (.int .u8 n3) ∧ gn < W.heap.size ∧ gx < W.heap.size) wd ∧ (fun W => W.cell? ⟨gx, 0, none⟩ = some (.int .i64 x.opn) ∧ W.cell? ⟨gx, 1, none⟩ = some (.int .i64 x.told) ∧ W.cell? ⟨gx, 2, none⟩ = some (.int .i64 x.agreed) ∧ W.cell? ⟨gx, 6, none⟩ = some (.int .i64 x.cap) ∧ gx < W.heap.size) wd := by have q := hN.facts.1; have r := hX.facts.1; exact ⟨⟨q 0, q 1, q 2, q 3, hN.lt, hX.lt⟩, r 0, r 1, r 2, r 6, hX.lt⟩
            dsimp only at hG
            (refine until_take2 (i := 0) (oi := _) (v := ?_) (getop rfl) (by decide) (by kernel_rfl) (by kernel_rfl) (by kernel_rfl) (fun _ _ _ h => h) (Or.inl ⟨by rfl, ?_⟩) ⟨hG.1, Or.inr hG.2⟩ ?_; rotate_left; focus (intro w hSw; (try dsimp only at hSw); (try obtain ⟨hSa, hSb⟩ := hSw); go_simp; (try with_reducible rfl); done))
            (try simp only [Act.put, List.setIfInBounds_toArray, List.set_cons_zero, List.set_cons_succ])
            (refine until_take (i := 1) (oi := _) (op := _) (v := ?_) (getop rfl) (getop rfl) (by kernel_rfl) (by decide) (by kernel_rfl) (by kernel_rfl) (by kernel_rfl) (by kernel_rfl) (fun _ _ _ h => h) (Or.inl ⟨by rfl, ?_⟩) hG ?_; rotate_left; focus (intro w hSw; (try dsimp only at hSw); (try obtain ⟨hSa, hSb⟩ := hSw); go_simp; (try with_reducible rfl); done))
            (try simp only [Act.put, List.setIfInBounds_toArray, List.set_cons_zero, List.set_cons_succ])
            (refine until_take2 (i := 2) (oi := _) (v := ?_) (getop rfl) (by decide) (by kernel_rfl) (by kernel_rfl) (by kernel_rfl) (fun _ _ _ h => h) (Or.inl ⟨by rfl, ?_⟩) ⟨hG.1, Or.inr hG.2⟩ ?_; rotate_left; focus (intro w hSw; (try dsimp only at hSw); (try obtain ⟨hSa, hSb⟩ := hSw); go_simp; (try with_reducible rfl); done))
            (try simp only [Act.put, List.setIfInBounds_toArray, List.set_cons_zero, List.set_cons_succ])
            (refine until_take2 (i := 3) (oi := _) (v := ?_) (getop rfl) (by decide) (by kernel_rfl) (by kernel_rfl) (by kernel_rfl) (fun _ _ _ h => h) (Or.inl ⟨by rfl, ?_⟩) ⟨hG.1, Or.inr hG.2⟩ ?_; rotate_left; focus (intro w hSw; (try dsimp only at hSw); (try obtain ⟨hSa, hSb⟩ := hSw); go_simp; (try with_reducible rfl); done))
            (try simp only [Act.put, List.setIfInBounds_toArray, List.set_cons_zero, List.set_cons_succ])
            (refine until_take2 (i := 4) (oi := _) (v := ?_) (getop rfl) (by decide) (by kernel_rfl) (by kernel_rfl) (by kernel_rfl) (fun _ _ _ h => h) (Or.inl ⟨by rfl, ?_⟩) ⟨hG.1, Or.inr hG.2⟩ ?_; rotate_left; focus (intro w hSw; (try dsimp only at hSw); (try obtain ⟨hSa, hSb⟩ := hSw); go_simp; (try with_reducible rfl); done))
            (try simp only [Act.put, List.setIfInBounds_toArray, List.set_cons_zero, List.set_cons_succ])
            (refine until_take2 (i := 5) (oi := _) (v := ?_) (getop rfl) (by decide) (by kernel_rfl) (by kernel_rfl) (by kernel_rfl) (fun _ _ _ h => h) (Or.inl ⟨by rfl, ?_⟩) ⟨hG.1, Or.inr hG.2⟩ ?_; rotate_left; focus (intro w hSw; (try dsimp only at hSw); (try obtain ⟨hSa, hSb⟩ := hSw); go_simp; (try with_reducible rfl); done))
            (try simp only [Act.put, List.setIfInBounds_toArray, List.set_cons_zero, List.set_cons_succ])
            (refine until_take2 (i := 6) (oi := _) (v := ?_) (getop rfl) (by decide) (by kernel_rfl) (by kernel_rfl) (by kernel_rfl) (fun _ _ _ h => h) (Or.inl ⟨by rfl, ?_⟩) ⟨hG.1, Or.inr hG.2⟩ ?_; rotate_left; focus (intro w hSw; (try dsimp only at hSw); (try obtain ⟨hSa, hSb⟩ := hSw); go_simp; (try with_reducible rfl); done))
            (try simp only [Act.put, List.setIfInBounds_toArray, List.set_cons_zero, List.set_cons_succ])
            (refine until_take (i := 7) (oi := _) (op := _) (v := ?_) (getop rfl) (getop rfl) (by kernel_rfl) (by decide) (by kernel_rfl) (by kernel_rfl) (by kernel_rfl) (by kernel_rfl) (fun _ _ _ h => h) (Or.inl ⟨by rfl, ?_⟩) hG ?_; rotate_left; focus (intro w hSw; (try dsimp only at hSw); (try obtain ⟨hSa, hSb⟩ := hSw); go_simp; (try with_reducible rfl); done))
            (try simp only [Act.put, List.setIfInBounds_toArray, List.set_cons_zero, List.set_cons_succ])
            (refine until_take2 (i := 8) (oi := _) (v := ?_) (getop rfl) (by decide) (by kernel_rfl) (by kernel_rfl) (by kernel_rfl) (fun _ _ _ h => h) (Or.inl ⟨by rfl, ?_⟩) ⟨hG.1, Or.inr hG.2⟩ ?_; rotate_left; focus (intro w hSw; (try dsimp only at hSw); (try obtain ⟨hSa, hSb⟩ := hSw); go_simp; (try with_reducible rfl); done))
            (try simp only [Act.put, List.setIfInBounds_toArray, List.set_cons_zero, List.set_cons_succ])
            (refine until_take2 (i := 9) (oi := _) (v := ?_) (getop rfl) (by decide) (by kernel_rfl) (by kernel_rfl) (by kernel_rfl) (fun _ _ _ h => h) (Or.inl ⟨by rfl, ?_⟩) ⟨hG.1, Or.inr hG.2⟩ ?_; rotate_left; focus (intro w hSw; (try dsimp only at hSw); (try obtain ⟨hSa, hSb⟩ := hSw); go_simp; (try with_reducible rfl); done))
            (try simp only [Act.put, List.setIfInBounds_toArray, List.set_cons_zero, List.set_cons_succ])
            (refine until_take2 (i := 10) (oi := _) (v := ?_) (getop rfl) (by decide) (by kernel_rfl) (by kernel_rfl) (by kernel_rfl) (fun _ _ _ h => h) (Or.inl ⟨by rfl, ?_⟩) ⟨hG.1, Or.inr hG.2⟩ ?_; rotate_left; focus (intro w hSw; (try dsimp only at hSw); (try obtain ⟨hSa, hSb⟩ := hSw); go_simp; (try with_reducible rfl); done))
            (try simp only [Act.put, List.setIfInBounds_toArray, List.set_cons_zero, List.set_cons_succ])
            (refine until_take2 (i := 11) (oi := _) (v := ?_) (getop rfl) (by decide) (by kernel_rfl) (by kernel_rfl) (by kernel_rfl) (fun _ _ _ h => h) (Or.inl ⟨by rfl, ?_⟩) ⟨hG.1, Or.inr hG.2⟩ ?_; rotate_left; focus (intro w hSw; (try dsimp only at hSw); (try obtain ⟨hSa, hSb⟩ := hSw); go_simp; (try with_reducible rfl); done))
            (try simp only [Act.put, List.setIfInBounds_toArray, List.set_cons_zero, List.set_cons_succ])
            (refine until_take2 (i := 12) (oi := _) (v := ?_) (getop rfl) (by decide) (by kernel_rfl) (by kernel_rfl) (by kernel_rfl) (fun _ _ _ h => h) (Or.inl ⟨by rfl, ?_⟩) ⟨hG.1, Or.inr hG.2⟩ ?_; rotate_left; focus (intro w hSw; (try dsimp only at hSw); (try obtain ⟨hSa, hSb⟩ := hSw); go_simp; (try with_reducible rfl); done))
            (try simp only [Act.put, List.setIfInBounds_toArray, List.set_cons_zero, List.set_cons_succ])
            (refine until_take (i := 13) (oi := _) (op := _) (v := ?_) (getop rfl) (getop rfl) (by kernel_rfl) (by decide) (by kernel_rfl) (by kernel_rfl) (by kernel_rfl) (by kernel_rfl) (fun _ _ _ h => h) (Or.inl ⟨by rfl, ?_⟩) hG ?_; rotate_left; focus (intro w hSw; (try dsimp only at hSw); (try obtain ⟨hSa, hSb⟩ := hSw); go_simp; (try with_reducible rfl); done))
            (try simp only [Act.put, List.setIfInBounds_toArray, List.set_cons_zero, List.set_cons_succ])
            (refine until_take2 (i := 14) (oi := _) (v := ?_) (getop rfl) (by decide) (by kernel_rfl) (by kernel_rfl) (by kernel_rfl) (fun _ _ _ h => h) (Or.inl ⟨by rfl, ?_⟩) ⟨hG.1, Or.inr hG.2⟩ ?_; rotate_left; focus (intro w hSw; (try dsimp only at hSw); (try obtain ⟨hSa, hSb⟩ := hSw); go_simp; (try with_reducible rfl); done))
            (try simp only [Act.put, List.setIfInBounds_toArray, List.set_cons_zero, List.set_cons_succ])
            (refine until_take2 (i := 15) (oi := _) (v := ?_) (getop rfl) (by decide) (by kernel_rfl) (by kernel_rfl) (by kernel_rfl) (fun _ _ _ h => h) (Or.inl ⟨by rfl, ?_⟩) ⟨hG.1, Or.inr hG.2⟩ ?_; rotate_left; focus (intro w hSw; (try dsimp only at hSw); (try obtain ⟨hSa, hSb⟩ := hSw); go_simp; (try with_reducible rfl); done))
            (try simp only [Act.put, List.setIfInBounds_toArray, List.set_cons_zero, List.set_cons_succ])
            (refine until_take2 (i := 16) (oi := _) (v := ?_) (getop rfl) (by decide) (by kernel_rfl) (by kernel_rfl) (by kernel_rfl) (fun _ _ _ h => h) (Or.inl ⟨by rfl, ?_⟩) ⟨hG.1, Or.inr hG.2⟩ ?_; rotate_left; focus (intro w hSw; (try dsimp only at hSw); (try obtain ⟨hSa, hSb⟩ := hSw); go_simp; (try with_reducible rfl); done))
            (try simp only [Act.put, List.setIfInBounds_toArray, List.set_cons_zero, List.set_cons_succ])
            (refine until_take2 (i := 17) (oi := _) (v := ?_) (getop rfl) (by decide) (by kernel_rfl) (by kernel_rfl) (by kernel_rfl) (fun _ _ _ h => h) (Or.inl ⟨by rfl, ?_⟩) ⟨hG.1, Or.inr hG.2⟩ ?_; rotate_left; focus (intro w hSw; (try dsimp only at hSw); (try obtain ⟨hSa, hSb⟩ := hSw); go_simp; (try with_reducible rfl); done))
            (try simp only [Act.put, List.setIfInBounds_toArray, List.set_cons_zero, List.set_cons_succ])
            (refine until_take2 (i := 18) (oi := _) (v := ?_) (getop rfl) (by decide) (by kernel_rfl) (by kernel_rfl) (by kernel_rfl) (fun _ _ _ h => h) (Or.inl ⟨by rfl, ?_⟩) ⟨hG.1, Or.inr hG.2⟩ ?_; rotate_left; focus (intro w hSw; (try dsimp only at hSw); (try obtain ⟨hSa, hSb⟩ := hSw); go_simp; (try with_reducible rfl); done))
            (try simp only [Act.put, List.setIfInBounds_toArray, List.set_cons_zero, List.set_cons_succ])
            (refine until_take (i := 19) (oi := _) (op := _) (v := ?_) (getop rfl) (getop rfl) (by kernel_rfl) (by decide) (by kernel_rfl) (by kernel_rfl) (by kernel_rfl) (by kernel_rfl) (fun _ _ _ h => h) (Or.inl ⟨by rfl, ?_⟩) hG ?_; rotate_left; focus (intro w hSw; (try dsimp only at hSw); (try obtain ⟨hSa, hSb⟩ := hSw); go_simp; (try with_reducible rfl); done))
            (try simp only [Act.put, List.setIfInBounds_toArray, List.set_cons_zero, List.set_cons_succ])
            (refine until_take2 (i := 20) (oi := _) (v := ?_) (getop rfl) (by decide) (by kernel_rfl) (by kernel_rfl) (by kernel_rfl) (fun _ _ _ h => h) (Or.inl ⟨by rfl, ?_⟩) ⟨hG.1, Or.inr hG.2⟩ ?_; rotate_left; focus (intro w hSw; (try dsimp only at hSw); (try obtain ⟨hSa, hSb⟩ := hSw); go_simp; (try with_reducible rfl); done))
            (try simp only [Act.put, List.setIfInBounds_toArray, List.set_cons_zero, List.set_cons_succ])
            (refine until_take2 (i := 21) (oi := _) (v := ?_) (getop rfl) (by decide) (by kernel_rfl) (by kernel_rfl) (by kernel_rfl) (fun _ _ _ h => h) (Or.inl ⟨by rfl, ?_⟩) ⟨hG.1, Or.inr hG.2⟩ ?_; rotate_left; focus (intro w hSw; (try dsimp only at hSw); (try obtain ⟨hSa, hSb⟩ := hSw); go_simp; (try with_reducible rfl); done))
            (try simp only [Act.put, List.setIfInBounds_toArray, List.set_cons_zero, List.set_cons_succ])
            (refine until_take2 (i := 22) (oi := _) (v := ?_) (getop rfl) (by decide) (by kernel_rfl) (by kernel_rfl) (by kernel_rfl) (fun _ _ _ h => h) (Or.inl ⟨by rfl, ?_⟩) ⟨hG.1, Or.inr hG.2⟩ ?_; rotate_left; focus (intro w hSw; (try dsimp only at hSw); (try obtain ⟨hSa, hSb⟩ := hSw); go_simp; (try with_reducible rfl); done))
            (try simp only [Act.put, List.setIfInBounds_toArray, List.set_cons_zero, List.set_cons_succ])
            (refine until_take2 (i := 23) (oi := _) (v := ?_) (getop rfl) (by decide) (by kernel_rfl) (by kernel_rfl) (by kernel_rfl) (fun _ _ _ h => h) (Or.inl ⟨by rfl, ?_⟩) ⟨hG.1, Or.inr hG.2⟩ ?_; rotate_left; focus (intro w hSw; (try dsimp only at hSw); (try obtain ⟨hSa, hSb⟩ := hSw); go_simp; (try with_reducible rfl); done))
            (try simp only [Act.put, List.setIfInBounds_toArray, List.set_cons_zero, List.set_cons_succ])
            (refine until_take2 (i := 24) (oi := _) (v := ?_) (getop rfl) (by decide) (by kernel_rfl) (by kernel_rfl) (by kernel_rfl) (fun _ _ _ h => h) (Or.inl ⟨by rfl, ?_⟩) ⟨hG.1, Or.inr hG.2⟩ ?_; rotate_left; focus (intro w hSw; (try dsimp only at hSw); (try obtain ⟨hSa, hSb⟩ := hSw); go_simp; (try with_reducible rfl); done))
            (try simp only [Act.put, List.setIfInBounds_toArray, List.set_cons_zero, List.set_cons_succ])
            clear hG
            refine until_step (i := 25) (o := _) (by kernel_rfl) (getop rfl) (by kernel_rfl) (fun K hK => ?_)
            obtain ⟨cX, fX⟩ := hX.facts
            have lX := hX.lt
            go_simp
            clear cX fX lX
            replace hX := hX.set_ 0 (.int .i64 (x.opn - n0))
            replace hN := hN.far (p := ⟨gx, 0, none⟩) (Ne.symm nxn) (.int .i64 (x.opn - n0))
            replace hB := hB.far (p := ⟨gx, 0, none⟩) (Ne.symm nxb) (.int .i64 (x.opn - n0))
            replace hL := lo_set hL (p := ⟨gx, 0, none⟩) lx (.int .i64 (x.opn - n0))
            refine hK.out _ _ (by have q := hN.facts.1; exact ⟨q 0, q 1, q 2, q 3, hN.lt, hX.lt⟩) ?_
            clear hK K
            skip
            (try simp only [Act.put, List.setIfInBounds_toArray, List.set_cons_zero, List.set_cons_succ])
            (refine until_take2 (i := 26) (oi := _) (v := ?_) (getop rfl) (by decide) (by kernel_rfl) (by kernel_rfl) (by kernel_rfl) (fun _ _ _ h => h) (Or.inl ⟨by rfl, ?_⟩) ⟨(by have q := hN.facts.1; exact ⟨q 0, q 1, q 2, q 3, hN.lt, hX.lt⟩), Or.inl (by kernel_rfl)⟩ ?_; rotate_left; focus (intro w hSw; (try dsimp only at hSw); (try obtain ⟨hSa, hSb⟩ := hSw); go_simp; (try with_reducible rfl); done))
            (try simp only [Act.put, List.setIfInBounds_toArray, List.set_cons_zero, List.set_cons_succ])
            refine until_step (i := 27) (o := _) (by kernel_rfl) (getop rfl) (by kernel_rfl) (fun K hK => ?_)
            obtain ⟨cX, fX⟩ := hX.facts
            have lX := hX.lt
            go_simp
            clear cX fX lX
            replace hX := hX.set_ 1 (.int .i64 (x.told + n1))
            replace hN := hN.far (p := ⟨gx, 1, none⟩) (Ne.symm nxn) (.int .i64 (x.told + n1))
            replace hB := hB.far (p := ⟨gx, 1, none⟩) (Ne.symm nxb) (.int .i64 (x.told + n1))
            replace hL := lo_set hL (p := ⟨gx, 1, none⟩) lx (.int .i64 (x.told + n1))
            refine hK.out _ _ (by have q := hN.facts.1; exact ⟨q 0, q 1, q 2, q 3, hN.lt, hX.lt⟩) ?_
            clear hK K
            skip
            (try simp only [Act.put, List.setIfInBounds_toArray, List.set_cons_zero, List.set_cons_succ])
            (refine until_take2 (i := 28) (oi := _) (v := ?_) (getop rfl) (by decide) (by kernel_rfl) (by kernel_rfl) (by kernel_rfl) (fun _ _ _ h => h) (Or.inl ⟨by rfl, ?_⟩) ⟨(by have q := hN.facts.1; exact ⟨q 0, q 1, q 2, q 3, hN.lt, hX.lt⟩), Or.inl (by kernel_rfl)⟩ ?_; rotate_left; focus (intro w hSw; (try dsimp only at hSw); (try obtain ⟨hSa, hSb⟩ := hSw); go_simp; (try with_reducible rfl); done))
            (try simp only [Act.put, List.setIfInBounds_toArray, List.set_cons_zero, List.set_cons_succ])
            refine until_step (i := 29) (o := _) (by kernel_rfl) (getop rfl) (by kernel_rfl) (fun K hK => ?_)
            obtain ⟨cX, fX⟩ := hX.facts
            have lX := hX.lt
            go_simp
            clear cX fX lX
            replace hX := hX.set_ 2 (.int .i64 (x.agreed + n2))
            replace hN := hN.far (p := ⟨gx, 2, none⟩) (Ne.symm nxn) (.int .i64 (x.agreed + n2))
            replace hB := hB.far (p := ⟨gx, 2, none⟩) (Ne.symm nxb) (.int .i64 (x.agreed + n2))
            replace hL := lo_set hL (p := ⟨gx, 2, none⟩) lx (.int .i64 (x.agreed + n2))
            refine hK.out _ _ (by have q := hN.facts.1; exact ⟨q 0, q 1, q 2, q 3, hN.lt, hX.lt⟩) ?_
            clear hK K
            skip
            (try simp only [Act.put, List.setIfInBounds_toArray, List.set_cons_zero, List.set_cons_succ])
            (refine until_take2 (i := 30) (oi := _) (v := ?_) (getop rfl) (by decide) (by kernel_rfl) (by kernel_rfl) (by kernel_rfl) (fun _ _ _ h => h) (Or.inl ⟨by rfl, ?_⟩) ⟨(by have q := hN.facts.1; exact ⟨q 0, q 1, q 2, q 3, hN.lt, hX.lt⟩), Or.inl (by kernel_rfl)⟩ ?_; rotate_left; focus (intro w hSw; (try dsimp only at hSw); (try obtain ⟨hSa, hSb⟩ := hSw); go_simp; (try with_reducible rfl); done))
            (try simp only [Act.put, List.setIfInBounds_toArray, List.set_cons_zero, List.set_cons_succ])
            refine until_step (i := 31) (o := _) (by kernel_rfl) (getop rfl) (by kernel_rfl) (fun K hK => ?_)
            obtain ⟨cX, fX⟩ := hX.facts
            have lX := hX.lt
            go_simp
            clear cX fX lX
            replace hX := hX.set_ 6 (.int .i64 (x.cap + n3))
            replace hN := hN.far (p := ⟨gx, 6, none⟩) (Ne.symm nxn) (.int .i64 (x.cap + n3))
            replace hB := hB.far (p := ⟨gx, 6, none⟩) (Ne.symm nxb) (.int .i64 (x.cap + n3))
            replace hL := lo_set hL (p := ⟨gx, 6, none⟩) lx (.int .i64 (x.cap + n3))
            refine hK.out _ _ (by have q := hN.facts.1; exact ⟨q 0, q 1, q 2, q 3, hN.lt, hX.lt⟩) ?_
            clear hK K
            skip
            (try simp only [Act.put, List.setIfInBounds_toArray, List.set_cons_zero, List.set_cons_succ])
            refine until_done (by kernel_rfl) ?_ _
            replace hX : Blk ((((wd.setCell ⟨gx, 0, none⟩ (.int .i64 (x.opn - n0))).setCell ⟨gx, 1, none⟩ (.int .i64 (x.told + n1))).setCell ⟨gx, 2, none⟩ (.int .i64 (x.agreed + n2))).setCell ⟨gx, 6, none⟩ (.int .i64 (x.cap + n3))) gx 29 #[.int .i64 (x.opn - n0), .int .i64 (x.told + n1), .int .i64 (x.agreed + n2), .bool x.away, .int .i64 x.cost, .int .i64 x.backlog, .int .i64 (x.cap + n3), .int .i64 x.tick, .int .i64 x.second] := by simpa using hX
            generalize (((wd.setCell ⟨gx, 0, none⟩ (.int .i64 (x.opn - n0))).setCell ⟨gx, 1, none⟩ (.int .i64 (x.told + n1))).setCell ⟨gx, 2, none⟩ (.int .i64 (x.agreed + n2))).setCell ⟨gx, 6, none⟩ (.int .i64 (x.cap + n3)) = ws at hX hN hB hL ⊢
            clear w0 w1 w2 w3 kk0 kk1 kk2 kk3
            obtain ⟨cX, fX⟩ := hX.facts
            have lX := hX.lt
            go_upto_region 15 with fail
            clear cX fX lX
            replace hX : Blk (ws.setCell ⟨gx, 5, none⟩ (.int .i64 (x.backlog / 2))) gx 29 #[.int .i64 (x.opn - n0), .int .i64 (x.told + n1), .int .i64 (x.agreed + n2), .bool x.away, .int .i64 x.cost, .int .i64 (x.backlog / 2), .int .i64 (x.cap + n3), .int .i64 x.tick, .int .i64 x.second] := by simpa using hX.set_ 5 (.int .i64 (x.backlog / 2))
            replace hB := hB.far (p := ⟨gx, 5, none⟩) (Ne.symm nxb) (.int .i64 (x.backlog / 2))
            replace hL := lo_set hL (p := ⟨gx, 5, none⟩) lx (.int .i64 (x.backlog / 2))
            generalize ws.setCell ⟨gx, 5, none⟩ (.int .i64 (x.backlog / 2)) = wt at hX hB hL ⊢
            have hok := HK.out hf
            obtain ⟨⟨⟨q1, q2⟩, ⟨q3, q4⟩, ⟨q5, q6⟩⟩, ⟨q7, q8⟩, ⟨q9, q10⟩⟩ := hok
            obtain ⟨p1, p2⟩ := prod_le q1 q2 q5 q6
            obtain ⟨cB, fB⟩ := hB.facts
            have lB := hB.lt
            by_cases hlv : b.level < b.burst * b.per
            · have hg := HG.out hf h0.1 h1.1 h2.1 h3.1 (k := x.backlog / 2) (L := b.level + 1) (by omega) (by omega) (by omega) (fun _ => by omega)
              have H4 := Lib.hid (decide_any ⟨x.opn - n0, x.told + n1, x.agreed + n2, x.away, x.cost, x.backlog / 2, x.cap + n3, x.tick, x.second⟩ ⟨b.burst, b.rate, b.per, b.level + 1, b.now⟩ (by simp only; omega))
              generalize decB ⟨x.opn - n0, x.told + n1, x.agreed + n2, x.away, x.cost, x.backlog / 2, x.cap + n3, x.tick, x.second⟩ ⟨b.burst, b.rate, b.per, b.level + 1, b.now⟩ = r4 at hg H4
              obtain ⟨i9, cc9, t9⟩ := r4
              obtain ⟨rfl, rfl⟩ : i9 = 0 ∧ t9 = 0 := hg
              have wB : IntKind.i64.wrap (b.burst * b.per) = b.burst * b.per := IntWalk.i64_in _ (by omega)
              have wL : IntKind.i64.wrap (b.level + 1) = b.level + 1 := IntWalk.i64_in _ (by omega)
              clear q1 q2 q3 q4 q5 q6 q9 q10 hgo hgt hbl0 hbl1 h0 h1 h2 h3 c1 c2 c3 c4 HG HK HP1 hN wB wL z2 z3
              go_upto_region 17 with fail
              clear cB fB lB
              replace hX := hX.far (p := ⟨gb, 3, none⟩) nxb (.int .i64 (b.level + 1))
              replace hB : Blk (wt.setCell ⟨gb, 3, none⟩ (.int .i64 (b.level + 1))) gb 26 #[.int .i64 b.burst, .int .i64 b.rate, .int .i64 b.per, .int .i64 (b.level + 1), .int .i64 b.now] := by simpa using hB.set_ 3 (.int .i64 (b.level + 1))
              replace hL := lo_set hL (p := ⟨gb, 3, none⟩) lb (.int .i64 (b.level + 1))
              generalize wt.setCell ⟨gb, 3, none⟩ (.int .i64 (b.level + 1)) = wu at hX hB hL ⊢
              obtain ⟨cX, fX⟩ := hX.facts
              obtain ⟨cB, fB⟩ := hB.facts
              go_wp2_with fail
              refine (H4.out _).mono ?_
              rintro e wv ⟨rfl, hb⟩
              replace hL := lo_alloc (lo_trans hL hb) (.cells #[.int .i64 cc9.burst, .int .i64 cc9.rate, .int .i64 cc9.per, .int .i64 cc9.level, .int .i64 cc9.now] 26)
              clear hb cX fX cB fB hX hB
              go_wp2_with fail
              refine (awake_any _).mono ?_
              rintro e wz ⟨rfl, hb⟩
              have hM := Lib.hid (lo_trans hL hb)
              clear hb
              go_wp2_with fail
              go_ret
              exact ⟨rfl, hM.out⟩
            · have hg := HG.out hf h0.1 h1.1 h2.1 h3.1 (k := x.backlog / 2) (L := b.level) (by omega) (by omega) (by omega) (fun _ => by omega)
              have H4 := Lib.hid (decide_any ⟨x.opn - n0, x.told + n1, x.agreed + n2, x.away, x.cost, x.backlog / 2, x.cap + n3, x.tick, x.second⟩ ⟨b.burst, b.rate, b.per, b.level, b.now⟩ (by simp only; omega))
              generalize decB ⟨x.opn - n0, x.told + n1, x.agreed + n2, x.away, x.cost, x.backlog / 2, x.cap + n3, x.tick, x.second⟩ ⟨b.burst, b.rate, b.per, b.level, b.now⟩ = r4 at hg H4
              obtain ⟨i9, cc9, t9⟩ := r4
              obtain ⟨rfl, rfl⟩ : i9 = 0 ∧ t9 = 0 := hg
              have wB : IntKind.i64.wrap (b.burst * b.per) = b.burst * b.per := IntWalk.i64_in _ (by omega)
              have wL : IntKind.i64.wrap (b.level + 1) = b.level + 1 := IntWalk.i64_in _ (by omega)
              clear q1 q2 q3 q4 q5 q6 q9 q10 hgo hgt hbl0 hbl1 h0 h1 h2 h3 c1 c2 c3 c4 HG HK HP1 hN wB wL z2 z3
              go_upto_region 17 with fail
              clear cB fB lB
              obtain ⟨cX, fX⟩ := hX.facts
              obtain ⟨cB, fB⟩ := hB.facts
              go_wp2_with fail
              refine (H4.out _).mono ?_
              rintro e wv ⟨rfl, hb⟩
              replace hL := lo_alloc (lo_trans hL hb) (.cells #[.int .i64 cc9.burst, .int .i64 cc9.rate, .int .i64 cc9.per, .int .i64 cc9.level, .int .i64 cc9.now] 26)
              clear hb cX fX cB fB hX hB
              go_wp2_with fail
              refine (awake_any _).mono ?_
              rintro e wz ⟨rfl, hb⟩
              have hM := Lib.hid (lo_trans hL hb)
              clear hb
              go_wp2_with fail
              go_ret
              exact ⟨rfl, hM.out⟩
  · obtain ⟨cX, fX⟩ := hX.facts
    have hf' : (r1.1 != 0) = true := by simpa using hf
    go_wp2_with fail
    refine (awake_any _).mono ?_
    rintro e wa ⟨rfl, hb⟩
    have hM := Lib.hid (lo_trans hL hb)
    clear hb
    go_wp2_with fail
    go_ret
    exact ⟨rfl, hM.out⟩


theorem walk_ShedGrows (s0_0 : Int) (s0_1 : Int) (s0_2 : Int) (s0_3 : Bool) (s0_4 : Int) (s0_5 : Int) (s0_6 : Int) (s0_7 : Int) (s0_8 : Int) (s1_0 : Int) (s1_1 : Int) (s1_2 : Int) (s1_3 : Int) (s1_4 : Int) (s2_0 : Int) (s2_1 : Int) (s2_2 : Int) (s2_3 : Int) (w : World) (w0_0 : (Lit.int .i64 s0_0).wf = true) (w0_1 : (Lit.int .i64 s0_1).wf = true) (w0_2 : (Lit.int .i64 s0_2).wf = true) (w0_4 : (Lit.int .i64 s0_4).wf = true) (w0_5 : (Lit.int .i64 s0_5).wf = true) (w0_6 : (Lit.int .i64 s0_6).wf = true) (w0_7 : (Lit.int .i64 s0_7).wf = true) (w0_8 : (Lit.int .i64 s0_8).wf = true) (w1_0 : (Lit.int .i64 s1_0).wf = true) (w1_1 : (Lit.int .i64 s1_1).wf = true) (w1_2 : (Lit.int .i64 s1_2).wf = true) (w1_3 : (Lit.int .i64 s1_3).wf = true) (w1_4 : (Lit.int .i64 s1_4).wf = true) (w2_0 : (Lit.int .u8 s2_0).wf = true) (w2_1 : (Lit.int .u8 s2_1).wf = true) (w2_2 : (Lit.int .u8 s2_2).wf = true) (w2_3 : (Lit.int .u8 s2_3).wf = true) :
    Calls Try.prog 6 #[.agg #[.int .i64 s0_0, .int .i64 s0_1, .int .i64 s0_2, .bool s0_3, .int .i64 s0_4, .int .i64 s0_5, .int .i64 s0_6, .int .i64 s0_7, .int .i64 s0_8], .agg #[.int .i64 s1_0, .int .i64 s1_1, .int .i64 s1_2, .int .i64 s1_3, .int .i64 s1_4], .agg #[.int .u8 s2_0, .int .u8 s2_1, .int .u8 s2_2, .int .u8 s2_3]] w fun e w' => e = .returned (.bool true) ∧ Below w.heap.size w w' := by
  have b6 := bounds_i64 w0_6
  have c0 := bounds_u8 w2_0
  have c1 := bounds_u8 w2_1
  have c2 := bounds_u8 w2_2
  have c3 := bounds_u8 w2_3
  exact grows_walk ⟨s0_0, s0_1, s0_2, s0_3, s0_4, s0_5, s0_6, s0_7, s0_8⟩ ⟨s1_0, s1_1, s1_2, s1_3, s1_4⟩ s2_0 s2_1 s2_2 s2_3 c0 c1 c2 c3 b6.2 w
end Go.Proofs.Ytcgnoaaejaofiaa
