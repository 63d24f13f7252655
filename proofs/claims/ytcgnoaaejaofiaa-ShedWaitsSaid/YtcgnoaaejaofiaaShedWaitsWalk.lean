import Derived.Test.YtcgnoaaejaofiaaLib9
namespace Go.Proofs.Ytcgnoaaejaofiaa
open Go.RowKit
attribute [local go_sem ↓] Go.wp_at_zero Go.wp_at_succ

set_option maxRecDepth 100000 in
set_option maxHeartbeats 3200000 in
theorem waits_walk (x : Lk) (b : Bk) (hcap : x.cap ≤ 9223372036854775807) (w : World) :
    Calls Try.prog 5 #[.agg #[.int .i64 x.opn, .int .i64 x.told, .int .i64 x.agreed, .bool x.away, .int .i64 x.cost, .int .i64 x.backlog, .int .i64 x.cap, .int .i64 x.tick, .int .i64 x.second], .agg #[.int .i64 b.burst, .int .i64 b.rate, .int .i64 b.per, .int .i64 b.level, .int .i64 b.now]] w (BoolPost w true) := by
  go_enter Try.func5, Try.ntmps5
  go_upto_region 1 with fail
  go_cut [5, 6] (fun u v wr => ∃ gx gb, u = .pointer (some ⟨gx, 0, none⟩) ∧ v = .pointer (some ⟨gb, 0, none⟩) ∧ Copies w x b gx gb wr)
  case first =>
    go_region
    all_goals
      go_wp2_with fail
      go_meet
      first
      | (have hc := copies_a w _ x b (lo_alloc (lo_alloc (lo_refl w) (.cells #[.int .i64 x.opn, .int .i64 x.told, .int .i64 x.agreed, .bool x.away, .int .i64 x.cost, .int .i64 x.backlog, .int .i64 x.cap, .int .i64 x.tick, .int .i64 x.second] 23)) (.cells #[.int .i64 b.burst, .int .i64 b.rate, .int .i64 b.per, .int .i64 b.level, .int .i64 b.now] 25)); simp only [World.size_alloc] at hc; exact ⟨_, _, rfl, rfl, hc⟩)
      | (have hc := copies_b w _ x b (lo_alloc (lo_alloc (lo_refl w) (.cells #[.int .i64 x.opn, .int .i64 x.told, .int .i64 x.agreed, .bool x.away, .int .i64 x.cost, .int .i64 x.backlog, .int .i64 x.cap, .int .i64 x.tick, .int .i64 x.second] 23)) (.cells #[.int .i64 b.burst, .int .i64 b.rate, .int .i64 b.per, .int .i64 b.level, .int .i64 b.now] 25)); simp only [World.size_alloc] at hc; exact ⟨_, _, rfl, rfl, hc⟩)
  case rest =>
  obtain ⟨gx, gb, rfl, rfl, hX, hB, lx, lb, nxb, hL⟩ := hcut

  obtain ⟨cX, fX⟩ := hX.facts
  obtain ⟨cB, fB⟩ := hB.facts
  have hcase : x.tick < 0 ∨ (0 ≤ x.tick ∧ 1073741824 < x.tick) ∨ (0 ≤ x.tick ∧ x.tick ≤ 1073741824 ∧ 1073741824 < b.now) ∨ (0 ≤ x.tick ∧ x.tick ≤ 1073741824 ∧ b.now ≤ 1073741824 ∧ x.second < 1) ∨ (0 ≤ x.tick ∧ x.tick ≤ 1073741824 ∧ b.now ≤ 1073741824 ∧ 1 ≤ x.second ∧ 1000 < x.second) ∨ (0 ≤ x.tick ∧ x.tick ≤ 1073741824 ∧ b.now ≤ 1073741824 ∧ 1 ≤ x.second ∧ x.second ≤ 1000) := by omega
  rcases hcase with h | ⟨h1, h⟩ | ⟨h1, h2, h⟩ | ⟨h1, h2, h3, h⟩ | ⟨h1, h2, h3, h4, h⟩ | ⟨h1, h2, h3, h4, h5⟩
  iterate 5
    ·
      go_wp2_with fail
      refine (awake_any _).mono ?_
      rintro e wa ⟨rfl, hb⟩
      have hM := Lib.hid (lo_trans hL hb)
      clear hb
      go_wp2_with fail
      go_ret
      exact ⟨rfl, hM.out⟩

  · have HD := Lib.hid (decide_any x b hcap)
    have HC := check_any b
    have hpl := fun (h : b.ok) (hr : b.rate ≠ 0) (hf : (decB x b).1 = 2) => shedwaits_plain (x := x) h h3 hr h2 h4 h5 hf rfl rfl
    generalize decB x b = r at HD hpl
    obtain ⟨f, c, wt⟩ := r
    go_wp2_with fail
    refine (HD.out _).mono ?_
    rintro e w1 ⟨rfl, hb⟩
    have hX := (hX.lo hb).alloc (.cells #[.int .i64 c.burst, .int .i64 c.rate, .int .i64 c.per, .int .i64 c.level, .int .i64 c.now] 26)
    have hB := (hB.lo hb).alloc (.cells #[.int .i64 c.burst, .int .i64 c.rate, .int .i64 c.per, .int .i64 c.level, .int .i64 c.now] 26)
    have hL := lo_alloc (lo_trans hL hb) (.cells #[.int .i64 c.burst, .int .i64 c.rate, .int .i64 c.per, .int .i64 c.level, .int .i64 c.now] 26)
    clear hb cX fX cB fB
    go_upto_region 5 with fail
    generalize w1.heap.size = gc at ⊢
    generalize w1.alloc (.cells #[.int .i64 c.burst, .int .i64 c.rate, .int .i64 c.per, .int .i64 c.level, .int .i64 c.now] 26) = w2 at hX hB hL ⊢
    obtain ⟨cX, fX⟩ := hX.facts
    obtain ⟨cB, fB⟩ := hB.facts
    by_cases hf : f = 2
    · subst hf
      rcases err_cases b with ⟨hok, he⟩ | ⟨hok, he⟩
      · rw [he] at HC
        have HC := Lib.hid HC
        by_cases hr : b.rate = 0
        · clear hX cX fX cB fB hpl HD
          obtain ⟨b0, b1, b2, b3, b4⟩ := b
          obtain rfl : b1 = 0 := hr
          have HC : Hid (∀ w, Calls Try.prog 18 #[.agg #[.int .i64 b0, .int .i64 0, .int .i64 b2, .int .i64 b3, .int .i64 b4]] w (IntPost w 0)) := HC
          have hB : Blk w2 gb 26 #[.int .i64 b0, .int .i64 0, .int .i64 b2, .int .i64 b3, .int .i64 b4] := hB
          clear hok he h3
          obtain ⟨cB, fB⟩ := hB.facts
          go_wp2_with fail
          refine (HC.out _).mono ?_
          rintro e w3 ⟨rfl, hb⟩
          have hB := hB.lo hb
          have hL := lo_trans hL hb
          clear hb cB fB
          obtain ⟨cB, fB⟩ := hB.facts
          go_wp2_with fail
          refine (awake_any _).mono ?_
          rintro e wa ⟨rfl, hb⟩
          have hM := Lib.hid (lo_trans hL hb)
          clear hb
          go_wp2_with fail
          go_ret
          exact ⟨rfl, hM.out⟩

        · have hr' : (b.rate == 0) = false := beq_eq_false_iff_ne.2 hr
          obtain ⟨p1, p2, p3, p4⟩ := hpl hok hr rfl
          obtain ⟨m, hm⟩ : ∃ m, max x.tick b.now = m := ⟨_, rfl⟩
          rw [hm] at p3 p4
          have hmm : 0 ≤ m ∧ m ≤ 1073741824 := by omega
          obtain ⟨P, hP⟩ : ∃ P, wt * x.second = P := ⟨_, rfl⟩
          obtain ⟨P1, hP1⟩ : ∃ P, (wt - 1) * x.second = P := ⟨_, rfl⟩
          have q1 : 0 ≤ P ∧ P ≤ 1000000 := by
            have := small_prod (a := wt) (A := 1000) (b := x.second) (B := 1000) (by omega) (by omega) (by omega) (by omega)
            omega
          have q2 : 0 ≤ P1 ∧ P1 ≤ 1000000 := by
            have := small_prod (a := wt - 1) (A := 1000) (b := x.second) (B := 1000) (by omega) (by omega) (by omega) (by omega)
            omega
          rw [hP] at p3
          rw [hP1] at p4
          have HA1 := Lib.hid (at_any b (m + P))
          have HA2 := Lib.hid (at_any b (m + P1))
          generalize atB b (m + P) = a1 at p3 HA1
          generalize atB b (m + P1) = a2 at p4 HA2
          have HH1 := Lib.hid (has_any a1)
          have HH2 := Lib.hid (has_any a2)
          generalize hasB a1 = n1 at p3 HH1
          generalize hasB a2 = n2 at p4 HH2
          clear hpl
          rcases (show (b.now ≤ x.tick ∧ m = x.tick) ∨ (¬ b.now ≤ x.tick ∧ m = b.now) by omega) with ⟨hle, rfl⟩ | ⟨hle, rfl⟩
          all_goals
            go_wp2_with fail
            refine (HC.out _).mono ?_
            rintro e w3 ⟨rfl, hb⟩
            have hX := hX.lo hb
            have hB := hB.lo hb
            have hL := lo_trans hL hb
            clear hb cX fX cB fB
            obtain ⟨cX, fX⟩ := hX.facts
            obtain ⟨cB, fB⟩ := hB.facts
            go_wp2_with fail
            refine (HA1.out _).mono ?_
            rintro e w4 ⟨rfl, hb⟩
            have hX := hX.lo hb
            have hB := hB.lo hb
            have hL := lo_trans hL hb
            clear hb cX fX cB fB
            go_wp2_with fail
            refine (HH1.out _).mono ?_
            rintro e w5 ⟨rfl, hb⟩
            have hX := hX.lo hb
            have hB := hB.lo hb
            have hL := lo_trans hL hb
            clear hb
            obtain ⟨cX, fX⟩ := hX.facts
            obtain ⟨cB, fB⟩ := hB.facts
            go_wp2_with fail
            refine (HA2.out _).mono ?_
            rintro e w6 ⟨rfl, hb⟩
            have hL := lo_trans hL hb
            clear hb cX fX cB fB
            go_wp2_with fail
            refine (HH2.out _).mono ?_
            rintro e w7 ⟨rfl, hb⟩
            have hL := lo_trans hL hb
            clear hb
            by_cases hw1 : wt = 1
            · subst hw1
              go_wp2_with fail
              refine (awake_any _).mono ?_
              rintro e wa ⟨rfl, hb⟩
              have hM := Lib.hid (lo_trans hL hb)
              clear hb
              go_wp2_with fail
              go_ret
              exact ⟨rfl, hM.out⟩

            · have hn2 : n2 = 0 := p4.resolve_left hw1
              subst hn2
              have hw1' : (wt == 1) = false := beq_eq_false_iff_ne.2 hw1
              go_wp2_with fail
              refine (awake_any _).mono ?_
              rintro e wa ⟨rfl, hb⟩
              have hM := Lib.hid (lo_trans hL hb)
              clear hb
              go_wp2_with fail
              go_ret
              exact ⟨rfl, hM.out⟩

      · rw [he] at HC
        have HC := Lib.hid HC
        go_wp2_with fail
        refine (HC.out _).mono ?_
        rintro e w3 ⟨rfl, hb⟩
        have hL := lo_trans hL hb
        clear hb
        go_wp2_with fail
        refine (awake_any _).mono ?_
        rintro e wa ⟨rfl, hb⟩
        have hM := Lib.hid (lo_trans hL hb)
        clear hb
        go_wp2_with fail
        go_ret
        exact ⟨rfl, hM.out⟩

    · have hf' : (f != 2) = true := by simpa using hf
      go_wp2_with fail
      refine (awake_any _).mono ?_
      rintro e wa ⟨rfl, hb⟩
      have hM := Lib.hid (lo_trans hL hb)
      clear hb
      go_wp2_with fail
      go_ret
      exact ⟨rfl, hM.out⟩

theorem walk_ShedWaits (s0_0 : Int) (s0_1 : Int) (s0_2 : Int) (s0_3 : Bool) (s0_4 : Int) (s0_5 : Int) (s0_6 : Int) (s0_7 : Int) (s0_8 : Int) (s1_0 : Int) (s1_1 : Int) (s1_2 : Int) (s1_3 : Int) (s1_4 : Int) (w : World) (w0_0 : (Lit.int .i64 s0_0).wf = true) (w0_1 : (Lit.int .i64 s0_1).wf = true) (w0_2 : (Lit.int .i64 s0_2).wf = true) (w0_4 : (Lit.int .i64 s0_4).wf = true) (w0_5 : (Lit.int .i64 s0_5).wf = true) (w0_6 : (Lit.int .i64 s0_6).wf = true) (w0_7 : (Lit.int .i64 s0_7).wf = true) (w0_8 : (Lit.int .i64 s0_8).wf = true) (w1_0 : (Lit.int .i64 s1_0).wf = true) (w1_1 : (Lit.int .i64 s1_1).wf = true) (w1_2 : (Lit.int .i64 s1_2).wf = true) (w1_3 : (Lit.int .i64 s1_3).wf = true) (w1_4 : (Lit.int .i64 s1_4).wf = true) :
    Calls Try.prog 5 #[.agg #[.int .i64 s0_0, .int .i64 s0_1, .int .i64 s0_2, .bool s0_3, .int .i64 s0_4, .int .i64 s0_5, .int .i64 s0_6, .int .i64 s0_7, .int .i64 s0_8], .agg #[.int .i64 s1_0, .int .i64 s1_1, .int .i64 s1_2, .int .i64 s1_3, .int .i64 s1_4]] w fun e w' => e = .returned (.bool true) ∧ Below w.heap.size w w' := by
  have b6 := bounds_i64 w0_6
  exact waits_walk ⟨s0_0, s0_1, s0_2, s0_3, s0_4, s0_5, s0_6, s0_7, s0_8⟩ ⟨s1_0, s1_1, s1_2, s1_3, s1_4⟩ b6.2 w
end Go.Proofs.Ytcgnoaaejaofiaa
