import Derived.Test.YtcgnoaaejaofiaaLib9
namespace Go.Proofs.Ytcgnoaaejaofiaa
open Go.RowKit
attribute [local go_sem ↓] Go.wp_at_zero Go.wp_at_succ

theorem has_le (b : Bk) : hasB b ≤ 1000000 := by
  by_cases h : b.ok
  · rw [has_ok h]
    have h1 := (prod_le h.1.1.1 h.1.1.2 h.1.2.2.1 h.1.2.2.2).2
    have h2 := Int.ediv_le_self b.per h.2.1.1
    have h3 := h.2.1.2
    omega
  · rw [has_no h]; decide
set_option maxRecDepth 100000 in
set_option maxHeartbeats 6400000 in
theorem fates_walk (x : Lk) (b : Bk) (hcap : x.cap ≤ 9223372036854775807) (w : World) :
    Calls Try.prog 4 #[.agg #[.int .i64 x.opn, .int .i64 x.told, .int .i64 x.agreed, .bool x.away, .int .i64 x.cost, .int .i64 x.backlog, .int .i64 x.cap, .int .i64 x.tick, .int .i64 x.second], .agg #[.int .i64 b.burst, .int .i64 b.rate, .int .i64 b.per, .int .i64 b.level, .int .i64 b.now]] w (BoolPost w true) := by
  go_enter Try.func4, Try.ntmps4
  go_upto_region 1 with fail
  go_cut [5, 6] (fun u v wr => ∃ gx gb, u = .pointer (some ⟨gx, 0, none⟩) ∧ v = .pointer (some ⟨gb, 0, none⟩) ∧ Copies w x b gx gb wr)
  case first =>
    go_region
    all_goals
      go_wp2_with fail
      go_meet
      first
      | (have hc := copies_a w _ x b (lo_alloc (lo_alloc (lo_refl w) (.cells #[.int .i64 x.opn, .int .i64 x.told, .int .i64 x.agreed, .bool x.away, .int .i64 x.cost, .int .i64 x.backlog, .int .i64 x.cap, .int .i64 x.tick, .int .i64 x.second] 23)) (.cells #[.int .i64 b.burst, .int .i64 b.rate, .int .i64 b.per, .int .i64 b.level, .int .i64 b.now] 25)); simp only [World.size_alloc] at hc; exact ⟨_, _, rfl, rfl, hc⟩)
      | (have hc := copies_b w _ x b (lo_alloc (lo_alloc (lo_refl w) (.cells #[.int .i64 x.opn, .int .i64 x.told, .int .i64 x.agreed, .bool x.away, .int .i64 x.cost, .int .i64 x.backlog, .int .i64 x.cap, .int .i64 x.tick, .int .i64 x.second] 23)) (.cells #[.int .i64 b.burst, .int .i64 b.rate, .int .i64 b.per, .int .i64 b.level, .int .i64 b.now] 25)); simp only [World.size_alloc] at hc; exact ⟨_, _, rfl, rfl, hc⟩)
  case rest =>
  obtain ⟨gx, gb, rfl, rfl, hX, hB, lx, lb, nxb, hL⟩ := hcut

  obtain ⟨cX, fX⟩ := hX.facts
  obtain ⟨cB, fB⟩ := hB.facts
  have HD := Lib.hid (decide_any x b hcap)
  obtain ⟨hp1, hp2, hp3, hp4, hp5, hp6⟩ := fates_plain x b
  have HA := Lib.hid (at_any b x.tick)
  have HH := Lib.hid (has_any (atB b x.tick))
  have hn0 := has_some (atB b x.tick)
  have hn1 := has_le (atB b x.tick)
  generalize atB b x.tick = a at HA HH hn0 hn1 hp1 hp5 hp6
  generalize decB x b = r at HD hp1 hp2 hp3 hp4 hp5 hp6
  obtain ⟨f, c, wt⟩ := r
  simp only at hp1 hp2 hp3 hp4 hp5 hp6
  have HHc := Lib.hid (has_any c)
  have HA2 := Lib.hid (at_any c x.tick)
  have HH2 := Lib.hid (has_any (atB c x.tick))
  generalize atB c x.tick = a2 at HA2 HH2 hp6
  generalize hasB a = n at HH hn0 hn1 hp1 hp5 hp6
  generalize hasB a2 = n2 at HH2 hp6
  generalize hasB c = nc at HHc hp5
  have HP1 := Lib.hid hp1
  have HP5 := Lib.hid hp5
  have HP6 := Lib.hid hp6
  clear hp1 hp5 hp6
  go_wp2_with fail
  refine (HD.out _).mono ?_
  rintro e w1 ⟨rfl, hb⟩
  have hX := (hX.lo hb).alloc (.cells #[.int .i64 c.burst, .int .i64 c.rate, .int .i64 c.per, .int .i64 c.level, .int .i64 c.now] 26)
  have hB := (hB.lo hb).alloc (.cells #[.int .i64 c.burst, .int .i64 c.rate, .int .i64 c.per, .int .i64 c.level, .int .i64 c.now] 26)
  have hC := Blk.new w1 26 #[.int .i64 c.burst, .int .i64 c.rate, .int .i64 c.per, .int .i64 c.level, .int .i64 c.now]
  have hL := lo_alloc (lo_trans hL hb) (.cells #[.int .i64 c.burst, .int .i64 c.rate, .int .i64 c.per, .int .i64 c.level, .int .i64 c.now] 26)
  clear hb cX fX cB fB
  go_upto_region 3 with fail
  generalize w1.heap.size = gc at hC ⊢
  generalize w1.alloc (.cells #[.int .i64 c.burst, .int .i64 c.rate, .int .i64 c.per, .int .i64 c.level, .int .i64 c.now] 26) = w2 at hX hB hC hL ⊢
  obtain ⟨cX, fX⟩ := hX.facts
  obtain ⟨cB, fB⟩ := hB.facts
  go_wp2_with fail
  refine (HA.out _).mono ?_
  rintro e w3 ⟨rfl, hb⟩
  have hX := hX.lo hb
  have hB := hB.lo hb
  have hC := hC.lo hb
  have hL := lo_trans hL hb
  clear hb cX fX cB fB
  go_wp2_with fail
  refine (HH.out _).mono ?_
  rintro e w4 ⟨rfl, hb⟩
  have hX := hX.lo hb
  have hB := hB.lo hb
  have hC := hC.lo hb
  have hL := lo_trans hL hb
  clear hb
  go_upto_region 4 with fail
  go_cut [11] (fun u wz => u = .bool (decide (f = 0)) ∧ Blk wz gx 29 #[.int .i64 x.opn, .int .i64 x.told, .int .i64 x.agreed, .bool x.away, .int .i64 x.cost, .int .i64 x.backlog, .int .i64 x.cap, .int .i64 x.tick, .int .i64 x.second] ∧ Blk wz gb 26 #[.int .i64 b.burst, .int .i64 b.rate, .int .i64 b.per, .int .i64 b.level, .int .i64 b.now] ∧ Blk wz gc 26 #[.int .i64 c.burst, .int .i64 c.rate, .int .i64 c.per, .int .i64 c.level, .int .i64 c.now] ∧ Below w.heap.size w wz)
  case first =>
    obtain ⟨cX, fX⟩ := hX.facts
    by_cases c1 : x.opn < x.agreed
    · by_cases c2 : x.opn < x.told
      · rcases (show x.away = false ∨ x.away = true by cases x.away <;> simp) with c3 | c3
        · have HF := fits_any x hcap
          rw [c3] at HF
          have HF := Lib.hid HF
          have k3 := cX 3
          rw [c3] at k3
          have k0 := cX 0
          have k1 := cX 1
          have k2 := cX 2
          have k4 := cX 4
          have k5 := cX 5
          have k6 := cX 6
          have k7 := cX 7
          have k8 := cX 8
          have C3 := Lib.hid c3
          clear cX c3
          go_wp2_with fail
          refine (HF.out _).mono ?_
          rintro e w5 ⟨rfl, hb⟩
          have hX := hX.lo hb
          have hB := hB.lo hb
          have hC := hC.lo hb
          have hL := lo_trans hL hb
          clear hb fX k0 k1 k2 k3 k4 k5 k6 k7 k8
          cases c4 : x.fits
          · have hdf : decide (f = 0) = false := decide_eq_false fun h => by have := HP1.out.1 h; rw [c4] at this; simp at this
            go_wp2_with fail
            go_meet
            exact ⟨by rw [hdf], hX, hB, hC, hL⟩

          · have hdf : decide (f = 0) = decide (0 < n) := by
              have h := HP1.out
              simp only [c1, c2, C3.out, c4, true_and] at h
              exact decide_eq_decide.2 h
            go_wp2_with fail
            go_meet
            exact ⟨by rw [hdf], hX, hB, hC, hL⟩

        · have hdf : decide (f = 0) = false := decide_eq_false fun h => by have := HP1.out.1 h; rw [c3] at this; simp at this
          have k3 := cX 3
          rw [c3] at k3
          have k0 := cX 0
          have k1 := cX 1
          have k2 := cX 2
          clear cX c3
          go_wp2_with fail
          go_meet
          exact ⟨by rw [hdf], hX, hB, hC, hL⟩

      · have hdf : decide (f = 0) = false := decide_eq_false fun h => c2 (HP1.out.1 h).2.1
        go_wp2_with fail
        go_meet
        exact ⟨by rw [hdf], hX, hB, hC, hL⟩

    · have hdf : decide (f = 0) = false := decide_eq_false fun h => c1 (HP1.out.1 h).1
      go_wp2_with fail
      go_meet
      exact ⟨by rw [hdf], hX, hB, hC, hL⟩

  case rest =>
  obtain ⟨rfl, hX, hB, hC, hL⟩ := hcut
  clear HP1
  have hf5 : f = 0 ∨ f = 1 ∨ f = 2 ∨ f = 3 ∨ f = 4 := by omega
  rcases hf5 with rfl | rfl | rfl | rfl | rfl
  · as_aux_lemma =>
      have k6 := (HP5.out rfl).symm
      have k7 : IntKind.i64.wrap nc = nc := IntWalk.i64_in _ (by omega)
      clear HP5 HP6 HA2 HH2
      have hwt : ¬ 0 < wt := by omega
      clear hp4
      go_upto_region 7 with fail
      refine wp_region_held_drew (S := (fun W => W.cell? ⟨gx, 7, none⟩ = some (.int .i64 x.tick) ∧ W.cell? ⟨gx, 8, none⟩ = some (.int .i64 x.second) ∧ W.cell? ⟨gb, 0, none⟩ = some (.int .i64 b.burst) ∧ W.cell? ⟨gb, 1, none⟩ = some (.int .i64 b.rate) ∧ W.cell? ⟨gb, 2, none⟩ = some (.int .i64 b.per) ∧ W.cell? ⟨gb, 3, none⟩ = some (.int .i64 b.level) ∧ W.cell? ⟨gb, 4, none⟩ = some (.int .i64 b.now) ∧ W.cell? ⟨gc, 0, none⟩ = some (.int .i64 c.burst) ∧ W.cell? ⟨gc, 1, none⟩ = some (.int .i64 c.rate) ∧ W.cell? ⟨gc, 2, none⟩ = some (.int .i64 c.per) ∧ W.cell? ⟨gc, 3, none⟩ = some (.int .i64 c.level) ∧ W.cell? ⟨gc, 4, none⟩ = some (.int .i64 c.now) ∧ gx < W.heap.size ∧ gb < W.heap.size ∧ gc < W.heap.size)) (by kernel_rfl) ?_ (fun hHeld => ?_)
      focus ((try dsimp only); (first | assumption | exact keep12 hb1 (by assumption) | exact keep12 hb2 (by assumption) | exact keep12 hb3 (by assumption) | (have q := hX.facts.1; have r := hB.facts.1; have s := hC.facts.1; exact ⟨q 7, q 8, r 0, r 1, r 2, r 3, r 4, s 0, s 1, s 2, s 3, s 4, hX.lt, hB.lt, hC.lt⟩)))
      first
      | (refine wpAnyH_take (i := 0) (oi := _) (v := ?_) (getop rfl) (by kernel_rfl) (by kernel_rfl) (by kernel_rfl) (fun _ _ _ h => h) (Or.inl ⟨by rfl, ?_⟩) (by assumption) ?_; rotate_left; focus (intro w hSw; (try dsimp only at hSw); go_simp; (try with_reducible rfl); done))
      | (refine wpAnyH_take (i := 0) (oi := _) (v := undef) (getop rfl) (by kernel_rfl) (by kernel_rfl) (by kernel_rfl) (fun _ _ _ h => h) (Or.inr ⟨by rfl, rfl⟩) (by assumption) ?_)
      (try simp only [Act.put, List.setIfInBounds_toArray, List.set_cons_zero, List.set_cons_succ])
      first
      | (refine wpAnyH_take (i := 1) (oi := _) (v := ?_) (getop rfl) (by kernel_rfl) (by kernel_rfl) (by kernel_rfl) (fun _ _ _ h => h) (Or.inl ⟨by rfl, ?_⟩) (by assumption) ?_; rotate_left; focus (intro w hSw; (try dsimp only at hSw); go_simp; (try with_reducible rfl); done))
      | (refine wpAnyH_take (i := 1) (oi := _) (v := undef) (getop rfl) (by kernel_rfl) (by kernel_rfl) (by kernel_rfl) (fun _ _ _ h => h) (Or.inr ⟨by rfl, rfl⟩) (by assumption) ?_)
      (try simp only [Act.put, List.setIfInBounds_toArray, List.set_cons_zero, List.set_cons_succ])
      first
      | (refine wpAnyH_take (i := 2) (oi := _) (v := ?_) (getop rfl) (by kernel_rfl) (by kernel_rfl) (by kernel_rfl) (fun _ _ _ h => h) (Or.inl ⟨by rfl, ?_⟩) (by assumption) ?_; rotate_left; focus (intro w hSw; (try dsimp only at hSw); go_simp; (try with_reducible rfl); done))
      | (refine wpAnyH_take (i := 2) (oi := _) (v := undef) (getop rfl) (by kernel_rfl) (by kernel_rfl) (by kernel_rfl) (fun _ _ _ h => h) (Or.inr ⟨by rfl, rfl⟩) (by assumption) ?_)
      (try simp only [Act.put, List.setIfInBounds_toArray, List.set_cons_zero, List.set_cons_succ])
      first
      | (refine wpAnyH_take (i := 3) (oi := _) (v := ?_) (getop rfl) (by kernel_rfl) (by kernel_rfl) (by kernel_rfl) (fun _ _ _ h => h) (Or.inl ⟨by rfl, ?_⟩) (by assumption) ?_; rotate_left; focus (intro w hSw; (try dsimp only at hSw); go_simp; (try with_reducible rfl); done))
      | (refine wpAnyH_take (i := 3) (oi := _) (v := undef) (getop rfl) (by kernel_rfl) (by kernel_rfl) (by kernel_rfl) (fun _ _ _ h => h) (Or.inr ⟨by rfl, rfl⟩) (by assumption) ?_)
      (try simp only [Act.put, List.setIfInBounds_toArray, List.set_cons_zero, List.set_cons_succ])
      first
      | (refine wpAnyH_take (i := 5) (oi := _) (v := ?_) (getop rfl) (by kernel_rfl) (by kernel_rfl) (by kernel_rfl) (fun _ _ _ h => h) (Or.inl ⟨by rfl, ?_⟩) (by assumption) ?_; rotate_left; focus (intro w hSw; (try dsimp only at hSw); go_simp; (try with_reducible rfl); done))
      | (refine wpAnyH_take (i := 5) (oi := _) (v := undef) (getop rfl) (by kernel_rfl) (by kernel_rfl) (by kernel_rfl) (fun _ _ _ h => h) (Or.inr ⟨by rfl, rfl⟩) (by assumption) ?_)
      (try simp only [Act.put, List.setIfInBounds_toArray, List.set_cons_zero, List.set_cons_succ])
      first
      | (refine wpAnyH_take (i := 6) (oi := _) (v := ?_) (getop rfl) (by kernel_rfl) (by kernel_rfl) (by kernel_rfl) (fun _ _ _ h => h) (Or.inl ⟨by rfl, ?_⟩) (by assumption) ?_; rotate_left; focus (intro w hSw; (try dsimp only at hSw); go_simp; (try with_reducible rfl); done))
      | (refine wpAnyH_take (i := 6) (oi := _) (v := undef) (getop rfl) (by kernel_rfl) (by kernel_rfl) (by kernel_rfl) (fun _ _ _ h => h) (Or.inr ⟨by rfl, rfl⟩) (by assumption) ?_)
      (try simp only [Act.put, List.setIfInBounds_toArray, List.set_cons_zero, List.set_cons_succ])
      first
      | (refine wpAnyH_take (i := 7) (oi := _) (v := ?_) (getop rfl) (by kernel_rfl) (by kernel_rfl) (by kernel_rfl) (fun _ _ _ h => h) (Or.inl ⟨by rfl, ?_⟩) (by assumption) ?_; rotate_left; focus (intro w hSw; (try dsimp only at hSw); go_simp; (try with_reducible rfl); done))
      | (refine wpAnyH_take (i := 7) (oi := _) (v := undef) (getop rfl) (by kernel_rfl) (by kernel_rfl) (by kernel_rfl) (fun _ _ _ h => h) (Or.inr ⟨by rfl, rfl⟩) (by assumption) ?_)
      (try simp only [Act.put, List.setIfInBounds_toArray, List.set_cons_zero, List.set_cons_succ])
      refine wpAnyH_ready (rs := [4]) (by kernel_rfl) (by simp) ?_
      refine AllReadyH.cons (o := _) (getop rfl) (fun K hK => ?_) AllReadyH.nil
      go_simp
      (refine (HHc.out _).mono ?_; rintro e wx ⟨rfl, hb1⟩)
      refine hK.out _ _ ?_ (fun hHeld4 => ?_)
      focus ((try dsimp only); (first | assumption | exact keep12 hb1 (by assumption) | exact keep12 hb2 (by assumption) | exact keep12 hb3 (by assumption) | (have q := hX.facts.1; have r := hB.facts.1; have s := hC.facts.1; exact ⟨q 7, q 8, r 0, r 1, r 2, r 3, r 4, s 0, s 1, s 2, s 3, s 4, hX.lt, hB.lt, hC.lt⟩)))
      clear hK K hHeld
      have hHeld := hHeld4
      clear hHeld4
      (try simp only [Act.put, List.setIfInBounds_toArray, List.set_cons_zero, List.set_cons_succ])
      refine wpAnyH_ready (rs := [8]) (by kernel_rfl) (by simp) ?_
      refine AllReadyH.cons (o := _) (getop rfl) (fun K hK => ?_) AllReadyH.nil
      go_simp
      (refine (HA.out _).mono ?_; rintro e wx ⟨rfl, hb2⟩)
      refine hK.out _ _ ?_ (fun hHeld8 => ?_)
      focus ((try dsimp only); (first | assumption | exact keep12 hb1 (by assumption) | exact keep12 hb2 (by assumption) | exact keep12 hb3 (by assumption) | (have q := hX.facts.1; have r := hB.facts.1; have s := hC.facts.1; exact ⟨q 7, q 8, r 0, r 1, r 2, r 3, r 4, s 0, s 1, s 2, s 3, s 4, hX.lt, hB.lt, hC.lt⟩)))
      clear hK K hHeld
      have hHeld := hHeld8
      clear hHeld8
      (try simp only [Act.put, List.setIfInBounds_toArray, List.set_cons_zero, List.set_cons_succ])
      refine wpAnyH_ready (rs := [9]) (by kernel_rfl) (by simp) ?_
      refine AllReadyH.cons (o := _) (getop rfl) (fun K hK => ?_) AllReadyH.nil
      go_simp
      (refine (HH.out _).mono ?_; rintro e wx ⟨rfl, hb3⟩)
      refine hK.out _ _ ?_ (fun hHeld9 => ?_)
      focus ((try dsimp only); (first | assumption | exact keep12 hb1 (by assumption) | exact keep12 hb2 (by assumption) | exact keep12 hb3 (by assumption) | (have q := hX.facts.1; have r := hB.facts.1; have s := hC.facts.1; exact ⟨q 7, q 8, r 0, r 1, r 2, r 3, r 4, s 0, s 1, s 2, s 3, s 4, hX.lt, hB.lt, hC.lt⟩)))
      clear hK K hHeld
      have hHeld := hHeld9
      clear hHeld9
      (try simp only [Act.put, List.setIfInBounds_toArray, List.set_cons_zero, List.set_cons_succ])
      first
      | (refine wpAnyH_take (i := 10) (oi := _) (v := ?_) (getop rfl) (by kernel_rfl) (by kernel_rfl) (by kernel_rfl) (fun _ _ _ h => h) (Or.inl ⟨by rfl, ?_⟩) (by assumption) ?_; rotate_left; focus (intro w hSw; (try dsimp only at hSw); go_simp; (try with_reducible rfl); done))
      | (refine wpAnyH_take (i := 10) (oi := _) (v := undef) (getop rfl) (by kernel_rfl) (by kernel_rfl) (by kernel_rfl) (fun _ _ _ h => h) (Or.inr ⟨by rfl, rfl⟩) (by assumption) ?_)
      (try simp only [Act.put, List.setIfInBounds_toArray, List.set_cons_zero, List.set_cons_succ])
      first
      | (refine wpAnyH_take (i := 11) (oi := _) (v := ?_) (getop rfl) (by kernel_rfl) (by kernel_rfl) (by kernel_rfl) (fun _ _ _ h => h) (Or.inl ⟨by rfl, ?_⟩) (by assumption) ?_; rotate_left; focus (intro w hSw; (try dsimp only at hSw); go_simp; (try with_reducible rfl); done))
      | (refine wpAnyH_take (i := 11) (oi := _) (v := undef) (getop rfl) (by kernel_rfl) (by kernel_rfl) (by kernel_rfl) (fun _ _ _ h => h) (Or.inr ⟨by rfl, rfl⟩) (by assumption) ?_)
      (try simp only [Act.put, List.setIfInBounds_toArray, List.set_cons_zero, List.set_cons_succ])
      first
      | (refine wpAnyH_take (i := 12) (oi := _) (v := ?_) (getop rfl) (by kernel_rfl) (by kernel_rfl) (by kernel_rfl) (fun _ _ _ h => h) (Or.inl ⟨by rfl, ?_⟩) (by assumption) ?_; rotate_left; focus (intro w hSw; (try dsimp only at hSw); go_simp; (try with_reducible rfl); done))
      | (refine wpAnyH_take (i := 12) (oi := _) (v := undef) (getop rfl) (by kernel_rfl) (by kernel_rfl) (by kernel_rfl) (fun _ _ _ h => h) (Or.inr ⟨by rfl, rfl⟩) (by assumption) ?_)
      (try simp only [Act.put, List.setIfInBounds_toArray, List.set_cons_zero, List.set_cons_succ])
      first
      | (refine wpAnyH_take (i := 13) (oi := _) (v := ?_) (getop rfl) (by kernel_rfl) (by kernel_rfl) (by kernel_rfl) (fun _ _ _ h => h) (Or.inl ⟨by rfl, ?_⟩) (by assumption) ?_; rotate_left; focus (intro w hSw; (try dsimp only at hSw); go_simp; (try with_reducible rfl); done))
      | (refine wpAnyH_take (i := 13) (oi := _) (v := undef) (getop rfl) (by kernel_rfl) (by kernel_rfl) (by kernel_rfl) (fun _ _ _ h => h) (Or.inr ⟨by rfl, rfl⟩) (by assumption) ?_)
      (try simp only [Act.put, List.setIfInBounds_toArray, List.set_cons_zero, List.set_cons_succ])
      first
      | (refine wpAnyH_take (i := 14) (oi := _) (v := ?_) (getop rfl) (by kernel_rfl) (by kernel_rfl) (by kernel_rfl) (fun _ _ _ h => h) (Or.inl ⟨by rfl, ?_⟩) (by assumption) ?_; rotate_left; focus (intro w hSw; (try dsimp only at hSw); go_simp; (try with_reducible rfl); done))
      | (refine wpAnyH_take (i := 14) (oi := _) (v := undef) (getop rfl) (by kernel_rfl) (by kernel_rfl) (by kernel_rfl) (fun _ _ _ h => h) (Or.inr ⟨by rfl, rfl⟩) (by assumption) ?_)
      (try simp only [Act.put, List.setIfInBounds_toArray, List.set_cons_zero, List.set_cons_succ])
      first
      | (refine wpAnyH_take (i := 15) (oi := _) (v := ?_) (getop rfl) (by kernel_rfl) (by kernel_rfl) (by kernel_rfl) (fun _ _ _ h => h) (Or.inl ⟨by rfl, ?_⟩) (by assumption) ?_; rotate_left; focus (intro w hSw; (try dsimp only at hSw); go_simp; (try with_reducible rfl); done))
      | (refine wpAnyH_take (i := 15) (oi := _) (v := undef) (getop rfl) (by kernel_rfl) (by kernel_rfl) (by kernel_rfl) (fun _ _ _ h => h) (Or.inr ⟨by rfl, rfl⟩) (by assumption) ?_)
      (try simp only [Act.put, List.setIfInBounds_toArray, List.set_cons_zero, List.set_cons_succ])
      first
      | (refine wpAnyH_take (i := 16) (oi := _) (v := ?_) (getop rfl) (by kernel_rfl) (by kernel_rfl) (by kernel_rfl) (fun _ _ _ h => h) (Or.inl ⟨by rfl, ?_⟩) (by assumption) ?_; rotate_left; focus (intro w hSw; (try dsimp only at hSw); go_simp; (try with_reducible rfl); done))
      | (refine wpAnyH_take (i := 16) (oi := _) (v := undef) (getop rfl) (by kernel_rfl) (by kernel_rfl) (by kernel_rfl) (fun _ _ _ h => h) (Or.inr ⟨by rfl, rfl⟩) (by assumption) ?_)
      (try simp only [Act.put, List.setIfInBounds_toArray, List.set_cons_zero, List.set_cons_succ])
      first
      | (refine wpAnyH_take (i := 17) (oi := _) (v := ?_) (getop rfl) (by kernel_rfl) (by kernel_rfl) (by kernel_rfl) (fun _ _ _ h => h) (Or.inl ⟨by rfl, ?_⟩) (by assumption) ?_; rotate_left; focus (intro w hSw; (try dsimp only at hSw); go_simp; (try with_reducible rfl); done))
      | (refine wpAnyH_take (i := 17) (oi := _) (v := undef) (getop rfl) (by kernel_rfl) (by kernel_rfl) (by kernel_rfl) (fun _ _ _ h => h) (Or.inr ⟨by rfl, rfl⟩) (by assumption) ?_)
      (try simp only [Act.put, List.setIfInBounds_toArray, List.set_cons_zero, List.set_cons_succ])
      first
      | (refine wpAnyH_take (i := 18) (oi := _) (v := ?_) (getop rfl) (by kernel_rfl) (by kernel_rfl) (by kernel_rfl) (fun _ _ _ h => h) (Or.inl ⟨by rfl, ?_⟩) (by assumption) ?_; rotate_left; focus (intro w hSw; (try dsimp only at hSw); go_simp; (try with_reducible rfl); done))
      | (refine wpAnyH_take (i := 18) (oi := _) (v := undef) (getop rfl) (by kernel_rfl) (by kernel_rfl) (by kernel_rfl) (fun _ _ _ h => h) (Or.inr ⟨by rfl, rfl⟩) (by assumption) ?_)
      (try simp only [Act.put, List.setIfInBounds_toArray, List.set_cons_zero, List.set_cons_succ])
      first
      | (refine wpAnyH_take (i := 19) (oi := _) (v := ?_) (getop rfl) (by kernel_rfl) (by kernel_rfl) (by kernel_rfl) (fun _ _ _ h => h) (Or.inl ⟨by rfl, ?_⟩) (by assumption) ?_; rotate_left; focus (intro w hSw; (try dsimp only at hSw); go_simp; (try with_reducible rfl); done))
      | (refine wpAnyH_take (i := 19) (oi := _) (v := undef) (getop rfl) (by kernel_rfl) (by kernel_rfl) (by kernel_rfl) (fun _ _ _ h => h) (Or.inr ⟨by rfl, rfl⟩) (by assumption) ?_)
      (try simp only [Act.put, List.setIfInBounds_toArray, List.set_cons_zero, List.set_cons_succ])
      first
      | (refine wpAnyH_take (i := 22) (oi := _) (v := ?_) (getop rfl) (by kernel_rfl) (by kernel_rfl) (by kernel_rfl) (fun _ _ _ h => h) (Or.inl ⟨by rfl, ?_⟩) (by assumption) ?_; rotate_left; focus (intro w hSw; (try dsimp only at hSw); go_simp; (try with_reducible rfl); done))
      | (refine wpAnyH_take (i := 22) (oi := _) (v := undef) (getop rfl) (by kernel_rfl) (by kernel_rfl) (by kernel_rfl) (fun _ _ _ h => h) (Or.inr ⟨by rfl, rfl⟩) (by assumption) ?_)
      (try simp only [Act.put, List.setIfInBounds_toArray, List.set_cons_zero, List.set_cons_succ])
      first
      | (refine wpAnyH_take (i := 23) (oi := _) (v := ?_) (getop rfl) (by kernel_rfl) (by kernel_rfl) (by kernel_rfl) (fun _ _ _ h => h) (Or.inl ⟨by rfl, ?_⟩) (by assumption) ?_; rotate_left; focus (intro w hSw; (try dsimp only at hSw); go_simp; (try with_reducible rfl); done))
      | (refine wpAnyH_take (i := 23) (oi := _) (v := undef) (getop rfl) (by kernel_rfl) (by kernel_rfl) (by kernel_rfl) (fun _ _ _ h => h) (Or.inr ⟨by rfl, rfl⟩) (by assumption) ?_)
      (try simp only [Act.put, List.setIfInBounds_toArray, List.set_cons_zero, List.set_cons_succ])
      first
      | (refine wpAnyH_take (i := 24) (oi := _) (v := ?_) (getop rfl) (by kernel_rfl) (by kernel_rfl) (by kernel_rfl) (fun _ _ _ h => h) (Or.inl ⟨by rfl, ?_⟩) (by assumption) ?_; rotate_left; focus (intro w hSw; (try dsimp only at hSw); go_simp; (try with_reducible rfl); done))
      | (refine wpAnyH_take (i := 24) (oi := _) (v := undef) (getop rfl) (by kernel_rfl) (by kernel_rfl) (by kernel_rfl) (fun _ _ _ h => h) (Or.inr ⟨by rfl, rfl⟩) (by assumption) ?_)
      (try simp only [Act.put, List.setIfInBounds_toArray, List.set_cons_zero, List.set_cons_succ])
      refine wpAnyH_ready (rs := [20]) (by kernel_rfl) (by simp) ?_
      refine AllReadyH.cons (o := _) (getop rfl) (fun K hK => ?_) AllReadyH.nil
      go_simp
      skip
      refine hK.out _ _ ?_ (fun hHeld20 => ?_)
      focus ((try dsimp only); (first | assumption | exact keep12 hb1 (by assumption) | exact keep12 hb2 (by assumption) | exact keep12 hb3 (by assumption) | (have q := hX.facts.1; have r := hB.facts.1; have s := hC.facts.1; exact ⟨q 7, q 8, r 0, r 1, r 2, r 3, r 4, s 0, s 1, s 2, s 3, s 4, hX.lt, hB.lt, hC.lt⟩)))
      clear hK K hHeld
      have hHeld := hHeld20
      clear hHeld20
      (try simp only [Act.put, List.setIfInBounds_toArray, List.set_cons_zero, List.set_cons_succ])
      refine wpAnyH_ready (rs := [21]) (by kernel_rfl) (by simp) ?_
      refine AllReadyH.cons (o := _) (getop rfl) (fun K hK => ?_) AllReadyH.nil
      go_simp
      skip
      refine hK.out _ _ ?_ (fun hHeld21 => ?_)
      focus ((try dsimp only); (first | assumption | exact keep12 hb1 (by assumption) | exact keep12 hb2 (by assumption) | exact keep12 hb3 (by assumption) | (have q := hX.facts.1; have r := hB.facts.1; have s := hC.facts.1; exact ⟨q 7, q 8, r 0, r 1, r 2, r 3, r 4, s 0, s 1, s 2, s 3, s 4, hX.lt, hB.lt, hC.lt⟩)))
      clear hK K hHeld
      have hHeld := hHeld21
      clear hHeld21
      (try simp only [Act.put, List.setIfInBounds_toArray, List.set_cons_zero, List.set_cons_succ])
      refine wpAnyH_ready (rs := [25]) (by kernel_rfl) (by simp) ?_
      refine AllReadyH.cons (o := _) (getop rfl) (fun K hK => ?_) AllReadyH.nil
      go_simp
      skip
      refine hK.out _ _ ?_ (fun hHeld25 => ?_)
      focus ((try dsimp only); (first | assumption | exact keep12 hb1 (by assumption) | exact keep12 hb2 (by assumption) | exact keep12 hb3 (by assumption) | (have q := hX.facts.1; have r := hB.facts.1; have s := hC.facts.1; exact ⟨q 7, q 8, r 0, r 1, r 2, r 3, r 4, s 0, s 1, s 2, s 3, s 4, hX.lt, hB.lt, hC.lt⟩)))
      clear hK K hHeld
      have hHeld := hHeld25
      clear hHeld25
      (try simp only [Act.put, List.setIfInBounds_toArray, List.set_cons_zero, List.set_cons_succ])
      refine wpAnyH_ready (rs := [26]) (by kernel_rfl) (by simp) ?_
      refine AllReadyH.cons (o := _) (getop rfl) (fun K hK => ?_) AllReadyH.nil
      go_simp
      skip
      refine hK.out _ _ ?_ (fun hHeld26 => ?_)
      focus ((try dsimp only); (first | assumption | exact keep12 hb1 (by assumption) | exact keep12 hb2 (by assumption) | exact keep12 hb3 (by assumption) | (have q := hX.facts.1; have r := hB.facts.1; have s := hC.facts.1; exact ⟨q 7, q 8, r 0, r 1, r 2, r 3, r 4, s 0, s 1, s 2, s 3, s 4, hX.lt, hB.lt, hC.lt⟩)))
      clear hK K hHeld
      have hHeld := hHeld26
      clear hHeld26
      (try simp only [Act.put, List.setIfInBounds_toArray, List.set_cons_zero, List.set_cons_succ])
      first
      | (refine wpAnyH_take (i := 27) (oi := _) (v := ?_) (getop rfl) (by kernel_rfl) (by kernel_rfl) (by kernel_rfl) (fun _ _ _ h => h) (Or.inl ⟨by rfl, ?_⟩) (by assumption) ?_; rotate_left; focus (intro w hSw; (try dsimp only at hSw); go_simp; (try with_reducible rfl); done))
      | (refine wpAnyH_take (i := 27) (oi := _) (v := undef) (getop rfl) (by kernel_rfl) (by kernel_rfl) (by kernel_rfl) (fun _ _ _ h => h) (Or.inr ⟨by rfl, rfl⟩) (by assumption) ?_)
      (try simp only [Act.put, List.setIfInBounds_toArray, List.set_cons_zero, List.set_cons_succ])
      first
      | (refine wpAnyH_take (i := 28) (oi := _) (v := ?_) (getop rfl) (by kernel_rfl) (by kernel_rfl) (by kernel_rfl) (fun _ _ _ h => h) (Or.inl ⟨by rfl, ?_⟩) (by assumption) ?_; rotate_left; focus (intro w hSw; (try dsimp only at hSw); go_simp; (try with_reducible rfl); done))
      | (refine wpAnyH_take (i := 28) (oi := _) (v := undef) (getop rfl) (by kernel_rfl) (by kernel_rfl) (by kernel_rfl) (fun _ _ _ h => h) (Or.inr ⟨by rfl, rfl⟩) (by assumption) ?_)
      (try simp only [Act.put, List.setIfInBounds_toArray, List.set_cons_zero, List.set_cons_succ])
      first
      | (refine wpAnyH_take (i := 29) (oi := _) (v := ?_) (getop rfl) (by kernel_rfl) (by kernel_rfl) (by kernel_rfl) (fun _ _ _ h => h) (Or.inl ⟨by rfl, ?_⟩) (by assumption) ?_; rotate_left; focus (intro w hSw; (try dsimp only at hSw); go_simp; (try with_reducible rfl); done))
      | (refine wpAnyH_take (i := 29) (oi := _) (v := undef) (getop rfl) (by kernel_rfl) (by kernel_rfl) (by kernel_rfl) (fun _ _ _ h => h) (Or.inr ⟨by rfl, rfl⟩) (by assumption) ?_)
      (try simp only [Act.put, List.setIfInBounds_toArray, List.set_cons_zero, List.set_cons_succ])
      refine wpAnyH_done (by kernel_rfl) ?_ _
      have hL := lo_trans (lo_trans (lo_trans (lo_drew hL) hb1) hb2) hb3
      clear hb1 hb2 hb3
      have s1 : statusB 0 = 0 := rfl
      have s2 : codeB 0 = 0 := rfl
      go_wp2_with (first
        | (go_at_call 11; refine (status_any _ _).mono ?_; rintro e w' ⟨rfl, rfl⟩)
        | (go_at_call 13; refine (code_any _ _).mono ?_; rintro e w' ⟨rfl, rfl⟩))
      refine (awake_any _).mono ?_
      rintro e wf ⟨rfl, hb⟩
      have hM := Lib.hid (lo_trans hL hb)
      clear hb
      go_wp2_with fail
      go_ret
      exact ⟨rfl, hM.out⟩
  · as_aux_lemma =>
      have h6 := HP6.out (by decide)
      subst h6
      clear HP5 HP6 HHc
      have hwt : ¬ 0 < wt := by omega
      clear hp4
      go_upto_region 7 with fail
      refine wp_region_held_drew (S := (fun W => W.cell? ⟨gx, 7, none⟩ = some (.int .i64 x.tick) ∧ W.cell? ⟨gx, 8, none⟩ = some (.int .i64 x.second) ∧ W.cell? ⟨gb, 0, none⟩ = some (.int .i64 b.burst) ∧ W.cell? ⟨gb, 1, none⟩ = some (.int .i64 b.rate) ∧ W.cell? ⟨gb, 2, none⟩ = some (.int .i64 b.per) ∧ W.cell? ⟨gb, 3, none⟩ = some (.int .i64 b.level) ∧ W.cell? ⟨gb, 4, none⟩ = some (.int .i64 b.now) ∧ W.cell? ⟨gc, 0, none⟩ = some (.int .i64 c.burst) ∧ W.cell? ⟨gc, 1, none⟩ = some (.int .i64 c.rate) ∧ W.cell? ⟨gc, 2, none⟩ = some (.int .i64 c.per) ∧ W.cell? ⟨gc, 3, none⟩ = some (.int .i64 c.level) ∧ W.cell? ⟨gc, 4, none⟩ = some (.int .i64 c.now) ∧ gx < W.heap.size ∧ gb < W.heap.size ∧ gc < W.heap.size)) (by kernel_rfl) ?_ (fun hHeld => ?_)
      focus ((try dsimp only); (first | assumption | exact keep12 hb1 (by assumption) | exact keep12 hb2 (by assumption) | exact keep12 hb3 (by assumption) | exact keep12 hb4 (by assumption) | (have q := hX.facts.1; have r := hB.facts.1; have s := hC.facts.1; exact ⟨q 7, q 8, r 0, r 1, r 2, r 3, r 4, s 0, s 1, s 2, s 3, s 4, hX.lt, hB.lt, hC.lt⟩)))
      first
      | (refine wpAnyH_take (i := 0) (oi := _) (v := ?_) (getop rfl) (by kernel_rfl) (by kernel_rfl) (by kernel_rfl) (fun _ _ _ h => h) (Or.inl ⟨by rfl, ?_⟩) (by assumption) ?_; rotate_left; focus (intro w hSw; (try dsimp only at hSw); go_simp; (try with_reducible rfl); done))
      | (refine wpAnyH_take (i := 0) (oi := _) (v := undef) (getop rfl) (by kernel_rfl) (by kernel_rfl) (by kernel_rfl) (fun _ _ _ h => h) (Or.inr ⟨by rfl, rfl⟩) (by assumption) ?_)
      (try simp only [Act.put, List.setIfInBounds_toArray, List.set_cons_zero, List.set_cons_succ])
      first
      | (refine wpAnyH_take (i := 1) (oi := _) (v := ?_) (getop rfl) (by kernel_rfl) (by kernel_rfl) (by kernel_rfl) (fun _ _ _ h => h) (Or.inl ⟨by rfl, ?_⟩) (by assumption) ?_; rotate_left; focus (intro w hSw; (try dsimp only at hSw); go_simp; (try with_reducible rfl); done))
      | (refine wpAnyH_take (i := 1) (oi := _) (v := undef) (getop rfl) (by kernel_rfl) (by kernel_rfl) (by kernel_rfl) (fun _ _ _ h => h) (Or.inr ⟨by rfl, rfl⟩) (by assumption) ?_)
      (try simp only [Act.put, List.setIfInBounds_toArray, List.set_cons_zero, List.set_cons_succ])
      first
      | (refine wpAnyH_take (i := 2) (oi := _) (v := ?_) (getop rfl) (by kernel_rfl) (by kernel_rfl) (by kernel_rfl) (fun _ _ _ h => h) (Or.inl ⟨by rfl, ?_⟩) (by assumption) ?_; rotate_left; focus (intro w hSw; (try dsimp only at hSw); go_simp; (try with_reducible rfl); done))
      | (refine wpAnyH_take (i := 2) (oi := _) (v := undef) (getop rfl) (by kernel_rfl) (by kernel_rfl) (by kernel_rfl) (fun _ _ _ h => h) (Or.inr ⟨by rfl, rfl⟩) (by assumption) ?_)
      (try simp only [Act.put, List.setIfInBounds_toArray, List.set_cons_zero, List.set_cons_succ])
      first
      | (refine wpAnyH_take (i := 3) (oi := _) (v := ?_) (getop rfl) (by kernel_rfl) (by kernel_rfl) (by kernel_rfl) (fun _ _ _ h => h) (Or.inl ⟨by rfl, ?_⟩) (by assumption) ?_; rotate_left; focus (intro w hSw; (try dsimp only at hSw); go_simp; (try with_reducible rfl); done))
      | (refine wpAnyH_take (i := 3) (oi := _) (v := undef) (getop rfl) (by kernel_rfl) (by kernel_rfl) (by kernel_rfl) (fun _ _ _ h => h) (Or.inr ⟨by rfl, rfl⟩) (by assumption) ?_)
      (try simp only [Act.put, List.setIfInBounds_toArray, List.set_cons_zero, List.set_cons_succ])
      first
      | (refine wpAnyH_take (i := 5) (oi := _) (v := ?_) (getop rfl) (by kernel_rfl) (by kernel_rfl) (by kernel_rfl) (fun _ _ _ h => h) (Or.inl ⟨by rfl, ?_⟩) (by assumption) ?_; rotate_left; focus (intro w hSw; (try dsimp only at hSw); go_simp; (try with_reducible rfl); done))
      | (refine wpAnyH_take (i := 5) (oi := _) (v := undef) (getop rfl) (by kernel_rfl) (by kernel_rfl) (by kernel_rfl) (fun _ _ _ h => h) (Or.inr ⟨by rfl, rfl⟩) (by assumption) ?_)
      (try simp only [Act.put, List.setIfInBounds_toArray, List.set_cons_zero, List.set_cons_succ])
      first
      | (refine wpAnyH_take (i := 6) (oi := _) (v := ?_) (getop rfl) (by kernel_rfl) (by kernel_rfl) (by kernel_rfl) (fun _ _ _ h => h) (Or.inl ⟨by rfl, ?_⟩) (by assumption) ?_; rotate_left; focus (intro w hSw; (try dsimp only at hSw); go_simp; (try with_reducible rfl); done))
      | (refine wpAnyH_take (i := 6) (oi := _) (v := undef) (getop rfl) (by kernel_rfl) (by kernel_rfl) (by kernel_rfl) (fun _ _ _ h => h) (Or.inr ⟨by rfl, rfl⟩) (by assumption) ?_)
      (try simp only [Act.put, List.setIfInBounds_toArray, List.set_cons_zero, List.set_cons_succ])
      first
      | (refine wpAnyH_take (i := 7) (oi := _) (v := ?_) (getop rfl) (by kernel_rfl) (by kernel_rfl) (by kernel_rfl) (fun _ _ _ h => h) (Or.inl ⟨by rfl, ?_⟩) (by assumption) ?_; rotate_left; focus (intro w hSw; (try dsimp only at hSw); go_simp; (try with_reducible rfl); done))
      | (refine wpAnyH_take (i := 7) (oi := _) (v := undef) (getop rfl) (by kernel_rfl) (by kernel_rfl) (by kernel_rfl) (fun _ _ _ h => h) (Or.inr ⟨by rfl, rfl⟩) (by assumption) ?_)
      (try simp only [Act.put, List.setIfInBounds_toArray, List.set_cons_zero, List.set_cons_succ])
      refine wpAnyH_ready (rs := [4]) (by kernel_rfl) (by simp) ?_
      refine AllReadyH.cons (o := _) (getop rfl) (fun K hK => ?_) AllReadyH.nil
      go_simp
      skip
      refine hK.out _ _ ?_ (fun hHeld4 => ?_)
      focus ((try dsimp only); (first | assumption | exact keep12 hb1 (by assumption) | exact keep12 hb2 (by assumption) | exact keep12 hb3 (by assumption) | exact keep12 hb4 (by assumption) | (have q := hX.facts.1; have r := hB.facts.1; have s := hC.facts.1; exact ⟨q 7, q 8, r 0, r 1, r 2, r 3, r 4, s 0, s 1, s 2, s 3, s 4, hX.lt, hB.lt, hC.lt⟩)))
      clear hK K hHeld
      have hHeld := hHeld4
      clear hHeld4
      (try simp only [Act.put, List.setIfInBounds_toArray, List.set_cons_zero, List.set_cons_succ])
      refine wpAnyH_ready (rs := [8]) (by kernel_rfl) (by simp) ?_
      refine AllReadyH.cons (o := _) (getop rfl) (fun K hK => ?_) AllReadyH.nil
      go_simp
      skip
      refine hK.out _ _ ?_ (fun hHeld8 => ?_)
      focus ((try dsimp only); (first | assumption | exact keep12 hb1 (by assumption) | exact keep12 hb2 (by assumption) | exact keep12 hb3 (by assumption) | exact keep12 hb4 (by assumption) | (have q := hX.facts.1; have r := hB.facts.1; have s := hC.facts.1; exact ⟨q 7, q 8, r 0, r 1, r 2, r 3, r 4, s 0, s 1, s 2, s 3, s 4, hX.lt, hB.lt, hC.lt⟩)))
      clear hK K hHeld
      have hHeld := hHeld8
      clear hHeld8
      (try simp only [Act.put, List.setIfInBounds_toArray, List.set_cons_zero, List.set_cons_succ])
      refine wpAnyH_ready (rs := [9]) (by kernel_rfl) (by simp) ?_
      refine AllReadyH.cons (o := _) (getop rfl) (fun K hK => ?_) AllReadyH.nil
      go_simp
      skip
      refine hK.out _ _ ?_ (fun hHeld9 => ?_)
      focus ((try dsimp only); (first | assumption | exact keep12 hb1 (by assumption) | exact keep12 hb2 (by assumption) | exact keep12 hb3 (by assumption) | exact keep12 hb4 (by assumption) | (have q := hX.facts.1; have r := hB.facts.1; have s := hC.facts.1; exact ⟨q 7, q 8, r 0, r 1, r 2, r 3, r 4, s 0, s 1, s 2, s 3, s 4, hX.lt, hB.lt, hC.lt⟩)))
      clear hK K hHeld
      have hHeld := hHeld9
      clear hHeld9
      (try simp only [Act.put, List.setIfInBounds_toArray, List.set_cons_zero, List.set_cons_succ])
      first
      | (refine wpAnyH_take (i := 10) (oi := _) (v := ?_) (getop rfl) (by kernel_rfl) (by kernel_rfl) (by kernel_rfl) (fun _ _ _ h => h) (Or.inl ⟨by rfl, ?_⟩) (by assumption) ?_; rotate_left; focus (intro w hSw; (try dsimp only at hSw); go_simp; (try with_reducible rfl); done))
      | (refine wpAnyH_take (i := 10) (oi := _) (v := undef) (getop rfl) (by kernel_rfl) (by kernel_rfl) (by kernel_rfl) (fun _ _ _ h => h) (Or.inr ⟨by rfl, rfl⟩) (by assumption) ?_)
      (try simp only [Act.put, List.setIfInBounds_toArray, List.set_cons_zero, List.set_cons_succ])
      first
      | (refine wpAnyH_take (i := 11) (oi := _) (v := ?_) (getop rfl) (by kernel_rfl) (by kernel_rfl) (by kernel_rfl) (fun _ _ _ h => h) (Or.inl ⟨by rfl, ?_⟩) (by assumption) ?_; rotate_left; focus (intro w hSw; (try dsimp only at hSw); go_simp; (try with_reducible rfl); done))
      | (refine wpAnyH_take (i := 11) (oi := _) (v := undef) (getop rfl) (by kernel_rfl) (by kernel_rfl) (by kernel_rfl) (fun _ _ _ h => h) (Or.inr ⟨by rfl, rfl⟩) (by assumption) ?_)
      (try simp only [Act.put, List.setIfInBounds_toArray, List.set_cons_zero, List.set_cons_succ])
      first
      | (refine wpAnyH_take (i := 12) (oi := _) (v := ?_) (getop rfl) (by kernel_rfl) (by kernel_rfl) (by kernel_rfl) (fun _ _ _ h => h) (Or.inl ⟨by rfl, ?_⟩) (by assumption) ?_; rotate_left; focus (intro w hSw; (try dsimp only at hSw); go_simp; (try with_reducible rfl); done))
      | (refine wpAnyH_take (i := 12) (oi := _) (v := undef) (getop rfl) (by kernel_rfl) (by kernel_rfl) (by kernel_rfl) (fun _ _ _ h => h) (Or.inr ⟨by rfl, rfl⟩) (by assumption) ?_)
      (try simp only [Act.put, List.setIfInBounds_toArray, List.set_cons_zero, List.set_cons_succ])
      first
      | (refine wpAnyH_take (i := 13) (oi := _) (v := ?_) (getop rfl) (by kernel_rfl) (by kernel_rfl) (by kernel_rfl) (fun _ _ _ h => h) (Or.inl ⟨by rfl, ?_⟩) (by assumption) ?_; rotate_left; focus (intro w hSw; (try dsimp only at hSw); go_simp; (try with_reducible rfl); done))
      | (refine wpAnyH_take (i := 13) (oi := _) (v := undef) (getop rfl) (by kernel_rfl) (by kernel_rfl) (by kernel_rfl) (fun _ _ _ h => h) (Or.inr ⟨by rfl, rfl⟩) (by assumption) ?_)
      (try simp only [Act.put, List.setIfInBounds_toArray, List.set_cons_zero, List.set_cons_succ])
      first
      | (refine wpAnyH_take (i := 14) (oi := _) (v := ?_) (getop rfl) (by kernel_rfl) (by kernel_rfl) (by kernel_rfl) (fun _ _ _ h => h) (Or.inl ⟨by rfl, ?_⟩) (by assumption) ?_; rotate_left; focus (intro w hSw; (try dsimp only at hSw); go_simp; (try with_reducible rfl); done))
      | (refine wpAnyH_take (i := 14) (oi := _) (v := undef) (getop rfl) (by kernel_rfl) (by kernel_rfl) (by kernel_rfl) (fun _ _ _ h => h) (Or.inr ⟨by rfl, rfl⟩) (by assumption) ?_)
      (try simp only [Act.put, List.setIfInBounds_toArray, List.set_cons_zero, List.set_cons_succ])
      first
      | (refine wpAnyH_take (i := 15) (oi := _) (v := ?_) (getop rfl) (by kernel_rfl) (by kernel_rfl) (by kernel_rfl) (fun _ _ _ h => h) (Or.inl ⟨by rfl, ?_⟩) (by assumption) ?_; rotate_left; focus (intro w hSw; (try dsimp only at hSw); go_simp; (try with_reducible rfl); done))
      | (refine wpAnyH_take (i := 15) (oi := _) (v := undef) (getop rfl) (by kernel_rfl) (by kernel_rfl) (by kernel_rfl) (fun _ _ _ h => h) (Or.inr ⟨by rfl, rfl⟩) (by assumption) ?_)
      (try simp only [Act.put, List.setIfInBounds_toArray, List.set_cons_zero, List.set_cons_succ])
      first
      | (refine wpAnyH_take (i := 16) (oi := _) (v := ?_) (getop rfl) (by kernel_rfl) (by kernel_rfl) (by kernel_rfl) (fun _ _ _ h => h) (Or.inl ⟨by rfl, ?_⟩) (by assumption) ?_; rotate_left; focus (intro w hSw; (try dsimp only at hSw); go_simp; (try with_reducible rfl); done))
      | (refine wpAnyH_take (i := 16) (oi := _) (v := undef) (getop rfl) (by kernel_rfl) (by kernel_rfl) (by kernel_rfl) (fun _ _ _ h => h) (Or.inr ⟨by rfl, rfl⟩) (by assumption) ?_)
      (try simp only [Act.put, List.setIfInBounds_toArray, List.set_cons_zero, List.set_cons_succ])
      first
      | (refine wpAnyH_take (i := 17) (oi := _) (v := ?_) (getop rfl) (by kernel_rfl) (by kernel_rfl) (by kernel_rfl) (fun _ _ _ h => h) (Or.inl ⟨by rfl, ?_⟩) (by assumption) ?_; rotate_left; focus (intro w hSw; (try dsimp only at hSw); go_simp; (try with_reducible rfl); done))
      | (refine wpAnyH_take (i := 17) (oi := _) (v := undef) (getop rfl) (by kernel_rfl) (by kernel_rfl) (by kernel_rfl) (fun _ _ _ h => h) (Or.inr ⟨by rfl, rfl⟩) (by assumption) ?_)
      (try simp only [Act.put, List.setIfInBounds_toArray, List.set_cons_zero, List.set_cons_succ])
      first
      | (refine wpAnyH_take (i := 18) (oi := _) (v := ?_) (getop rfl) (by kernel_rfl) (by kernel_rfl) (by kernel_rfl) (fun _ _ _ h => h) (Or.inl ⟨by rfl, ?_⟩) (by assumption) ?_; rotate_left; focus (intro w hSw; (try dsimp only at hSw); go_simp; (try with_reducible rfl); done))
      | (refine wpAnyH_take (i := 18) (oi := _) (v := undef) (getop rfl) (by kernel_rfl) (by kernel_rfl) (by kernel_rfl) (fun _ _ _ h => h) (Or.inr ⟨by rfl, rfl⟩) (by assumption) ?_)
      (try simp only [Act.put, List.setIfInBounds_toArray, List.set_cons_zero, List.set_cons_succ])
      first
      | (refine wpAnyH_take (i := 19) (oi := _) (v := ?_) (getop rfl) (by kernel_rfl) (by kernel_rfl) (by kernel_rfl) (fun _ _ _ h => h) (Or.inl ⟨by rfl, ?_⟩) (by assumption) ?_; rotate_left; focus (intro w hSw; (try dsimp only at hSw); go_simp; (try with_reducible rfl); done))
      | (refine wpAnyH_take (i := 19) (oi := _) (v := undef) (getop rfl) (by kernel_rfl) (by kernel_rfl) (by kernel_rfl) (fun _ _ _ h => h) (Or.inr ⟨by rfl, rfl⟩) (by assumption) ?_)
      (try simp only [Act.put, List.setIfInBounds_toArray, List.set_cons_zero, List.set_cons_succ])
      first
      | (refine wpAnyH_take (i := 22) (oi := _) (v := ?_) (getop rfl) (by kernel_rfl) (by kernel_rfl) (by kernel_rfl) (fun _ _ _ h => h) (Or.inl ⟨by rfl, ?_⟩) (by assumption) ?_; rotate_left; focus (intro w hSw; (try dsimp only at hSw); go_simp; (try with_reducible rfl); done))
      | (refine wpAnyH_take (i := 22) (oi := _) (v := undef) (getop rfl) (by kernel_rfl) (by kernel_rfl) (by kernel_rfl) (fun _ _ _ h => h) (Or.inr ⟨by rfl, rfl⟩) (by assumption) ?_)
      (try simp only [Act.put, List.setIfInBounds_toArray, List.set_cons_zero, List.set_cons_succ])
      first
      | (refine wpAnyH_take (i := 23) (oi := _) (v := ?_) (getop rfl) (by kernel_rfl) (by kernel_rfl) (by kernel_rfl) (fun _ _ _ h => h) (Or.inl ⟨by rfl, ?_⟩) (by assumption) ?_; rotate_left; focus (intro w hSw; (try dsimp only at hSw); go_simp; (try with_reducible rfl); done))
      | (refine wpAnyH_take (i := 23) (oi := _) (v := undef) (getop rfl) (by kernel_rfl) (by kernel_rfl) (by kernel_rfl) (fun _ _ _ h => h) (Or.inr ⟨by rfl, rfl⟩) (by assumption) ?_)
      (try simp only [Act.put, List.setIfInBounds_toArray, List.set_cons_zero, List.set_cons_succ])
      first
      | (refine wpAnyH_take (i := 24) (oi := _) (v := ?_) (getop rfl) (by kernel_rfl) (by kernel_rfl) (by kernel_rfl) (fun _ _ _ h => h) (Or.inl ⟨by rfl, ?_⟩) (by assumption) ?_; rotate_left; focus (intro w hSw; (try dsimp only at hSw); go_simp; (try with_reducible rfl); done))
      | (refine wpAnyH_take (i := 24) (oi := _) (v := undef) (getop rfl) (by kernel_rfl) (by kernel_rfl) (by kernel_rfl) (fun _ _ _ h => h) (Or.inr ⟨by rfl, rfl⟩) (by assumption) ?_)
      (try simp only [Act.put, List.setIfInBounds_toArray, List.set_cons_zero, List.set_cons_succ])
      refine wpAnyH_ready (rs := [20]) (by kernel_rfl) (by simp) ?_
      refine AllReadyH.cons (o := _) (getop rfl) (fun K hK => ?_) AllReadyH.nil
      go_simp
      (refine (HA2.out _).mono ?_; rintro e wx ⟨rfl, hb1⟩)
      refine hK.out _ _ ?_ (fun hHeld20 => ?_)
      focus ((try dsimp only); (first | assumption | exact keep12 hb1 (by assumption) | exact keep12 hb2 (by assumption) | exact keep12 hb3 (by assumption) | exact keep12 hb4 (by assumption) | (have q := hX.facts.1; have r := hB.facts.1; have s := hC.facts.1; exact ⟨q 7, q 8, r 0, r 1, r 2, r 3, r 4, s 0, s 1, s 2, s 3, s 4, hX.lt, hB.lt, hC.lt⟩)))
      clear hK K hHeld
      have hHeld := hHeld20
      clear hHeld20
      (try simp only [Act.put, List.setIfInBounds_toArray, List.set_cons_zero, List.set_cons_succ])
      refine wpAnyH_ready (rs := [21]) (by kernel_rfl) (by simp) ?_
      refine AllReadyH.cons (o := _) (getop rfl) (fun K hK => ?_) AllReadyH.nil
      go_simp
      (refine (HH2.out _).mono ?_; rintro e wx ⟨rfl, hb2⟩)
      refine hK.out _ _ ?_ (fun hHeld21 => ?_)
      focus ((try dsimp only); (first | assumption | exact keep12 hb1 (by assumption) | exact keep12 hb2 (by assumption) | exact keep12 hb3 (by assumption) | exact keep12 hb4 (by assumption) | (have q := hX.facts.1; have r := hB.facts.1; have s := hC.facts.1; exact ⟨q 7, q 8, r 0, r 1, r 2, r 3, r 4, s 0, s 1, s 2, s 3, s 4, hX.lt, hB.lt, hC.lt⟩)))
      clear hK K hHeld
      have hHeld := hHeld21
      clear hHeld21
      (try simp only [Act.put, List.setIfInBounds_toArray, List.set_cons_zero, List.set_cons_succ])
      refine wpAnyH_ready (rs := [25]) (by kernel_rfl) (by simp) ?_
      refine AllReadyH.cons (o := _) (getop rfl) (fun K hK => ?_) AllReadyH.nil
      go_simp
      (refine (HA.out _).mono ?_; rintro e wx ⟨rfl, hb3⟩)
      refine hK.out _ _ ?_ (fun hHeld25 => ?_)
      focus ((try dsimp only); (first | assumption | exact keep12 hb1 (by assumption) | exact keep12 hb2 (by assumption) | exact keep12 hb3 (by assumption) | exact keep12 hb4 (by assumption) | (have q := hX.facts.1; have r := hB.facts.1; have s := hC.facts.1; exact ⟨q 7, q 8, r 0, r 1, r 2, r 3, r 4, s 0, s 1, s 2, s 3, s 4, hX.lt, hB.lt, hC.lt⟩)))
      clear hK K hHeld
      have hHeld := hHeld25
      clear hHeld25
      (try simp only [Act.put, List.setIfInBounds_toArray, List.set_cons_zero, List.set_cons_succ])
      refine wpAnyH_ready (rs := [26]) (by kernel_rfl) (by simp) ?_
      refine AllReadyH.cons (o := _) (getop rfl) (fun K hK => ?_) AllReadyH.nil
      go_simp
      (refine (HH.out _).mono ?_; rintro e wx ⟨rfl, hb4⟩)
      refine hK.out _ _ ?_ (fun hHeld26 => ?_)
      focus ((try dsimp only); (first | assumption | exact keep12 hb1 (by assumption) | exact keep12 hb2 (by assumption) | exact keep12 hb3 (by assumption) | exact keep12 hb4 (by assumption) | (have q := hX.facts.1; have r := hB.facts.1; have s := hC.facts.1; exact ⟨q 7, q 8, r 0, r 1, r 2, r 3, r 4, s 0, s 1, s 2, s 3, s 4, hX.lt, hB.lt, hC.lt⟩)))
      clear hK K hHeld
      have hHeld := hHeld26
      clear hHeld26
      (try simp only [Act.put, List.setIfInBounds_toArray, List.set_cons_zero, List.set_cons_succ])
      first
      | (refine wpAnyH_take (i := 27) (oi := _) (v := ?_) (getop rfl) (by kernel_rfl) (by kernel_rfl) (by kernel_rfl) (fun _ _ _ h => h) (Or.inl ⟨by rfl, ?_⟩) (by assumption) ?_; rotate_left; focus (intro w hSw; (try dsimp only at hSw); go_simp; (try with_reducible rfl); done))
      | (refine wpAnyH_take (i := 27) (oi := _) (v := undef) (getop rfl) (by kernel_rfl) (by kernel_rfl) (by kernel_rfl) (fun _ _ _ h => h) (Or.inr ⟨by rfl, rfl⟩) (by assumption) ?_)
      (try simp only [Act.put, List.setIfInBounds_toArray, List.set_cons_zero, List.set_cons_succ])
      first
      | (refine wpAnyH_take (i := 28) (oi := _) (v := ?_) (getop rfl) (by kernel_rfl) (by kernel_rfl) (by kernel_rfl) (fun _ _ _ h => h) (Or.inl ⟨by rfl, ?_⟩) (by assumption) ?_; rotate_left; focus (intro w hSw; (try dsimp only at hSw); go_simp; (try with_reducible rfl); done))
      | (refine wpAnyH_take (i := 28) (oi := _) (v := undef) (getop rfl) (by kernel_rfl) (by kernel_rfl) (by kernel_rfl) (fun _ _ _ h => h) (Or.inr ⟨by rfl, rfl⟩) (by assumption) ?_)
      (try simp only [Act.put, List.setIfInBounds_toArray, List.set_cons_zero, List.set_cons_succ])
      first
      | (refine wpAnyH_take (i := 29) (oi := _) (v := ?_) (getop rfl) (by kernel_rfl) (by kernel_rfl) (by kernel_rfl) (fun _ _ _ h => h) (Or.inl ⟨by rfl, ?_⟩) (by assumption) ?_; rotate_left; focus (intro w hSw; (try dsimp only at hSw); go_simp; (try with_reducible rfl); done))
      | (refine wpAnyH_take (i := 29) (oi := _) (v := undef) (getop rfl) (by kernel_rfl) (by kernel_rfl) (by kernel_rfl) (fun _ _ _ h => h) (Or.inr ⟨by rfl, rfl⟩) (by assumption) ?_)
      (try simp only [Act.put, List.setIfInBounds_toArray, List.set_cons_zero, List.set_cons_succ])
      refine wpAnyH_done (by kernel_rfl) ?_ _
      have hL := lo_trans (lo_trans (lo_trans (lo_trans (lo_drew hL) hb1) hb2) hb3) hb4
      clear hb1 hb2 hb3 hb4
      have s1 : statusB 1 = 0 := rfl
      have s2 : codeB 1 = 7 := rfl
      go_wp2_with (first
        | (go_at_call 11; refine (status_any _ _).mono ?_; rintro e w' ⟨rfl, rfl⟩)
        | (go_at_call 13; refine (code_any _ _).mono ?_; rintro e w' ⟨rfl, rfl⟩))
      refine (awake_any _).mono ?_
      rintro e wf ⟨rfl, hb⟩
      have hM := Lib.hid (lo_trans hL hb)
      clear hb
      go_wp2_with fail
      go_ret
      exact ⟨rfl, hM.out⟩
  · as_aux_lemma =>
      have h6 := HP6.out (by decide)
      subst h6
      clear HP5 HP6 HHc
      have hwt : 0 < wt := by omega
      clear hp4
      go_upto_region 7 with fail
      refine wp_region_held_drew (S := (fun W => W.cell? ⟨gx, 7, none⟩ = some (.int .i64 x.tick) ∧ W.cell? ⟨gx, 8, none⟩ = some (.int .i64 x.second) ∧ W.cell? ⟨gb, 0, none⟩ = some (.int .i64 b.burst) ∧ W.cell? ⟨gb, 1, none⟩ = some (.int .i64 b.rate) ∧ W.cell? ⟨gb, 2, none⟩ = some (.int .i64 b.per) ∧ W.cell? ⟨gb, 3, none⟩ = some (.int .i64 b.level) ∧ W.cell? ⟨gb, 4, none⟩ = some (.int .i64 b.now) ∧ W.cell? ⟨gc, 0, none⟩ = some (.int .i64 c.burst) ∧ W.cell? ⟨gc, 1, none⟩ = some (.int .i64 c.rate) ∧ W.cell? ⟨gc, 2, none⟩ = some (.int .i64 c.per) ∧ W.cell? ⟨gc, 3, none⟩ = some (.int .i64 c.level) ∧ W.cell? ⟨gc, 4, none⟩ = some (.int .i64 c.now) ∧ gx < W.heap.size ∧ gb < W.heap.size ∧ gc < W.heap.size)) (by kernel_rfl) ?_ (fun hHeld => ?_)
      focus ((try dsimp only); (first | assumption | exact keep12 hb1 (by assumption) | exact keep12 hb2 (by assumption) | exact keep12 hb3 (by assumption) | exact keep12 hb4 (by assumption) | (have q := hX.facts.1; have r := hB.facts.1; have s := hC.facts.1; exact ⟨q 7, q 8, r 0, r 1, r 2, r 3, r 4, s 0, s 1, s 2, s 3, s 4, hX.lt, hB.lt, hC.lt⟩)))
      first
      | (refine wpAnyH_take (i := 0) (oi := _) (v := ?_) (getop rfl) (by kernel_rfl) (by kernel_rfl) (by kernel_rfl) (fun _ _ _ h => h) (Or.inl ⟨by rfl, ?_⟩) (by assumption) ?_; rotate_left; focus (intro w hSw; (try dsimp only at hSw); go_simp; (try with_reducible rfl); done))
      | (refine wpAnyH_take (i := 0) (oi := _) (v := undef) (getop rfl) (by kernel_rfl) (by kernel_rfl) (by kernel_rfl) (fun _ _ _ h => h) (Or.inr ⟨by rfl, rfl⟩) (by assumption) ?_)
      (try simp only [Act.put, List.setIfInBounds_toArray, List.set_cons_zero, List.set_cons_succ])
      first
      | (refine wpAnyH_take (i := 1) (oi := _) (v := ?_) (getop rfl) (by kernel_rfl) (by kernel_rfl) (by kernel_rfl) (fun _ _ _ h => h) (Or.inl ⟨by rfl, ?_⟩) (by assumption) ?_; rotate_left; focus (intro w hSw; (try dsimp only at hSw); go_simp; (try with_reducible rfl); done))
      | (refine wpAnyH_take (i := 1) (oi := _) (v := undef) (getop rfl) (by kernel_rfl) (by kernel_rfl) (by kernel_rfl) (fun _ _ _ h => h) (Or.inr ⟨by rfl, rfl⟩) (by assumption) ?_)
      (try simp only [Act.put, List.setIfInBounds_toArray, List.set_cons_zero, List.set_cons_succ])
      first
      | (refine wpAnyH_take (i := 2) (oi := _) (v := ?_) (getop rfl) (by kernel_rfl) (by kernel_rfl) (by kernel_rfl) (fun _ _ _ h => h) (Or.inl ⟨by rfl, ?_⟩) (by assumption) ?_; rotate_left; focus (intro w hSw; (try dsimp only at hSw); go_simp; (try with_reducible rfl); done))
      | (refine wpAnyH_take (i := 2) (oi := _) (v := undef) (getop rfl) (by kernel_rfl) (by kernel_rfl) (by kernel_rfl) (fun _ _ _ h => h) (Or.inr ⟨by rfl, rfl⟩) (by assumption) ?_)
      (try simp only [Act.put, List.setIfInBounds_toArray, List.set_cons_zero, List.set_cons_succ])
      first
      | (refine wpAnyH_take (i := 3) (oi := _) (v := ?_) (getop rfl) (by kernel_rfl) (by kernel_rfl) (by kernel_rfl) (fun _ _ _ h => h) (Or.inl ⟨by rfl, ?_⟩) (by assumption) ?_; rotate_left; focus (intro w hSw; (try dsimp only at hSw); go_simp; (try with_reducible rfl); done))
      | (refine wpAnyH_take (i := 3) (oi := _) (v := undef) (getop rfl) (by kernel_rfl) (by kernel_rfl) (by kernel_rfl) (fun _ _ _ h => h) (Or.inr ⟨by rfl, rfl⟩) (by assumption) ?_)
      (try simp only [Act.put, List.setIfInBounds_toArray, List.set_cons_zero, List.set_cons_succ])
      first
      | (refine wpAnyH_take (i := 5) (oi := _) (v := ?_) (getop rfl) (by kernel_rfl) (by kernel_rfl) (by kernel_rfl) (fun _ _ _ h => h) (Or.inl ⟨by rfl, ?_⟩) (by assumption) ?_; rotate_left; focus (intro w hSw; (try dsimp only at hSw); go_simp; (try with_reducible rfl); done))
      | (refine wpAnyH_take (i := 5) (oi := _) (v := undef) (getop rfl) (by kernel_rfl) (by kernel_rfl) (by kernel_rfl) (fun _ _ _ h => h) (Or.inr ⟨by rfl, rfl⟩) (by assumption) ?_)
      (try simp only [Act.put, List.setIfInBounds_toArray, List.set_cons_zero, List.set_cons_succ])
      first
      | (refine wpAnyH_take (i := 6) (oi := _) (v := ?_) (getop rfl) (by kernel_rfl) (by kernel_rfl) (by kernel_rfl) (fun _ _ _ h => h) (Or.inl ⟨by rfl, ?_⟩) (by assumption) ?_; rotate_left; focus (intro w hSw; (try dsimp only at hSw); go_simp; (try with_reducible rfl); done))
      | (refine wpAnyH_take (i := 6) (oi := _) (v := undef) (getop rfl) (by kernel_rfl) (by kernel_rfl) (by kernel_rfl) (fun _ _ _ h => h) (Or.inr ⟨by rfl, rfl⟩) (by assumption) ?_)
      (try simp only [Act.put, List.setIfInBounds_toArray, List.set_cons_zero, List.set_cons_succ])
      first
      | (refine wpAnyH_take (i := 7) (oi := _) (v := ?_) (getop rfl) (by kernel_rfl) (by kernel_rfl) (by kernel_rfl) (fun _ _ _ h => h) (Or.inl ⟨by rfl, ?_⟩) (by assumption) ?_; rotate_left; focus (intro w hSw; (try dsimp only at hSw); go_simp; (try with_reducible rfl); done))
      | (refine wpAnyH_take (i := 7) (oi := _) (v := undef) (getop rfl) (by kernel_rfl) (by kernel_rfl) (by kernel_rfl) (fun _ _ _ h => h) (Or.inr ⟨by rfl, rfl⟩) (by assumption) ?_)
      (try simp only [Act.put, List.setIfInBounds_toArray, List.set_cons_zero, List.set_cons_succ])
      refine wpAnyH_ready (rs := [4]) (by kernel_rfl) (by simp) ?_
      refine AllReadyH.cons (o := _) (getop rfl) (fun K hK => ?_) AllReadyH.nil
      go_simp
      skip
      refine hK.out _ _ ?_ (fun hHeld4 => ?_)
      focus ((try dsimp only); (first | assumption | exact keep12 hb1 (by assumption) | exact keep12 hb2 (by assumption) | exact keep12 hb3 (by assumption) | exact keep12 hb4 (by assumption) | (have q := hX.facts.1; have r := hB.facts.1; have s := hC.facts.1; exact ⟨q 7, q 8, r 0, r 1, r 2, r 3, r 4, s 0, s 1, s 2, s 3, s 4, hX.lt, hB.lt, hC.lt⟩)))
      clear hK K hHeld
      have hHeld := hHeld4
      clear hHeld4
      (try simp only [Act.put, List.setIfInBounds_toArray, List.set_cons_zero, List.set_cons_succ])
      refine wpAnyH_ready (rs := [8]) (by kernel_rfl) (by simp) ?_
      refine AllReadyH.cons (o := _) (getop rfl) (fun K hK => ?_) AllReadyH.nil
      go_simp
      skip
      refine hK.out _ _ ?_ (fun hHeld8 => ?_)
      focus ((try dsimp only); (first | assumption | exact keep12 hb1 (by assumption) | exact keep12 hb2 (by assumption) | exact keep12 hb3 (by assumption) | exact keep12 hb4 (by assumption) | (have q := hX.facts.1; have r := hB.facts.1; have s := hC.facts.1; exact ⟨q 7, q 8, r 0, r 1, r 2, r 3, r 4, s 0, s 1, s 2, s 3, s 4, hX.lt, hB.lt, hC.lt⟩)))
      clear hK K hHeld
      have hHeld := hHeld8
      clear hHeld8
      (try simp only [Act.put, List.setIfInBounds_toArray, List.set_cons_zero, List.set_cons_succ])
      refine wpAnyH_ready (rs := [9]) (by kernel_rfl) (by simp) ?_
      refine AllReadyH.cons (o := _) (getop rfl) (fun K hK => ?_) AllReadyH.nil
      go_simp
      skip
      refine hK.out _ _ ?_ (fun hHeld9 => ?_)
      focus ((try dsimp only); (first | assumption | exact keep12 hb1 (by assumption) | exact keep12 hb2 (by assumption) | exact keep12 hb3 (by assumption) | exact keep12 hb4 (by assumption) | (have q := hX.facts.1; have r := hB.facts.1; have s := hC.facts.1; exact ⟨q 7, q 8, r 0, r 1, r 2, r 3, r 4, s 0, s 1, s 2, s 3, s 4, hX.lt, hB.lt, hC.lt⟩)))
      clear hK K hHeld
      have hHeld := hHeld9
      clear hHeld9
      (try simp only [Act.put, List.setIfInBounds_toArray, List.set_cons_zero, List.set_cons_succ])
      first
      | (refine wpAnyH_take (i := 10) (oi := _) (v := ?_) (getop rfl) (by kernel_rfl) (by kernel_rfl) (by kernel_rfl) (fun _ _ _ h => h) (Or.inl ⟨by rfl, ?_⟩) (by assumption) ?_; rotate_left; focus (intro w hSw; (try dsimp only at hSw); go_simp; (try with_reducible rfl); done))
      | (refine wpAnyH_take (i := 10) (oi := _) (v := undef) (getop rfl) (by kernel_rfl) (by kernel_rfl) (by kernel_rfl) (fun _ _ _ h => h) (Or.inr ⟨by rfl, rfl⟩) (by assumption) ?_)
      (try simp only [Act.put, List.setIfInBounds_toArray, List.set_cons_zero, List.set_cons_succ])
      first
      | (refine wpAnyH_take (i := 11) (oi := _) (v := ?_) (getop rfl) (by kernel_rfl) (by kernel_rfl) (by kernel_rfl) (fun _ _ _ h => h) (Or.inl ⟨by rfl, ?_⟩) (by assumption) ?_; rotate_left; focus (intro w hSw; (try dsimp only at hSw); go_simp; (try with_reducible rfl); done))
      | (refine wpAnyH_take (i := 11) (oi := _) (v := undef) (getop rfl) (by kernel_rfl) (by kernel_rfl) (by kernel_rfl) (fun _ _ _ h => h) (Or.inr ⟨by rfl, rfl⟩) (by assumption) ?_)
      (try simp only [Act.put, List.setIfInBounds_toArray, List.set_cons_zero, List.set_cons_succ])
      first
      | (refine wpAnyH_take (i := 12) (oi := _) (v := ?_) (getop rfl) (by kernel_rfl) (by kernel_rfl) (by kernel_rfl) (fun _ _ _ h => h) (Or.inl ⟨by rfl, ?_⟩) (by assumption) ?_; rotate_left; focus (intro w hSw; (try dsimp only at hSw); go_simp; (try with_reducible rfl); done))
      | (refine wpAnyH_take (i := 12) (oi := _) (v := undef) (getop rfl) (by kernel_rfl) (by kernel_rfl) (by kernel_rfl) (fun _ _ _ h => h) (Or.inr ⟨by rfl, rfl⟩) (by assumption) ?_)
      (try simp only [Act.put, List.setIfInBounds_toArray, List.set_cons_zero, List.set_cons_succ])
      first
      | (refine wpAnyH_take (i := 13) (oi := _) (v := ?_) (getop rfl) (by kernel_rfl) (by kernel_rfl) (by kernel_rfl) (fun _ _ _ h => h) (Or.inl ⟨by rfl, ?_⟩) (by assumption) ?_; rotate_left; focus (intro w hSw; (try dsimp only at hSw); go_simp; (try with_reducible rfl); done))
      | (refine wpAnyH_take (i := 13) (oi := _) (v := undef) (getop rfl) (by kernel_rfl) (by kernel_rfl) (by kernel_rfl) (fun _ _ _ h => h) (Or.inr ⟨by rfl, rfl⟩) (by assumption) ?_)
      (try simp only [Act.put, List.setIfInBounds_toArray, List.set_cons_zero, List.set_cons_succ])
      first
      | (refine wpAnyH_take (i := 14) (oi := _) (v := ?_) (getop rfl) (by kernel_rfl) (by kernel_rfl) (by kernel_rfl) (fun _ _ _ h => h) (Or.inl ⟨by rfl, ?_⟩) (by assumption) ?_; rotate_left; focus (intro w hSw; (try dsimp only at hSw); go_simp; (try with_reducible rfl); done))
      | (refine wpAnyH_take (i := 14) (oi := _) (v := undef) (getop rfl) (by kernel_rfl) (by kernel_rfl) (by kernel_rfl) (fun _ _ _ h => h) (Or.inr ⟨by rfl, rfl⟩) (by assumption) ?_)
      (try simp only [Act.put, List.setIfInBounds_toArray, List.set_cons_zero, List.set_cons_succ])
      first
      | (refine wpAnyH_take (i := 15) (oi := _) (v := ?_) (getop rfl) (by kernel_rfl) (by kernel_rfl) (by kernel_rfl) (fun _ _ _ h => h) (Or.inl ⟨by rfl, ?_⟩) (by assumption) ?_; rotate_left; focus (intro w hSw; (try dsimp only at hSw); go_simp; (try with_reducible rfl); done))
      | (refine wpAnyH_take (i := 15) (oi := _) (v := undef) (getop rfl) (by kernel_rfl) (by kernel_rfl) (by kernel_rfl) (fun _ _ _ h => h) (Or.inr ⟨by rfl, rfl⟩) (by assumption) ?_)
      (try simp only [Act.put, List.setIfInBounds_toArray, List.set_cons_zero, List.set_cons_succ])
      first
      | (refine wpAnyH_take (i := 16) (oi := _) (v := ?_) (getop rfl) (by kernel_rfl) (by kernel_rfl) (by kernel_rfl) (fun _ _ _ h => h) (Or.inl ⟨by rfl, ?_⟩) (by assumption) ?_; rotate_left; focus (intro w hSw; (try dsimp only at hSw); go_simp; (try with_reducible rfl); done))
      | (refine wpAnyH_take (i := 16) (oi := _) (v := undef) (getop rfl) (by kernel_rfl) (by kernel_rfl) (by kernel_rfl) (fun _ _ _ h => h) (Or.inr ⟨by rfl, rfl⟩) (by assumption) ?_)
      (try simp only [Act.put, List.setIfInBounds_toArray, List.set_cons_zero, List.set_cons_succ])
      first
      | (refine wpAnyH_take (i := 17) (oi := _) (v := ?_) (getop rfl) (by kernel_rfl) (by kernel_rfl) (by kernel_rfl) (fun _ _ _ h => h) (Or.inl ⟨by rfl, ?_⟩) (by assumption) ?_; rotate_left; focus (intro w hSw; (try dsimp only at hSw); go_simp; (try with_reducible rfl); done))
      | (refine wpAnyH_take (i := 17) (oi := _) (v := undef) (getop rfl) (by kernel_rfl) (by kernel_rfl) (by kernel_rfl) (fun _ _ _ h => h) (Or.inr ⟨by rfl, rfl⟩) (by assumption) ?_)
      (try simp only [Act.put, List.setIfInBounds_toArray, List.set_cons_zero, List.set_cons_succ])
      first
      | (refine wpAnyH_take (i := 18) (oi := _) (v := ?_) (getop rfl) (by kernel_rfl) (by kernel_rfl) (by kernel_rfl) (fun _ _ _ h => h) (Or.inl ⟨by rfl, ?_⟩) (by assumption) ?_; rotate_left; focus (intro w hSw; (try dsimp only at hSw); go_simp; (try with_reducible rfl); done))
      | (refine wpAnyH_take (i := 18) (oi := _) (v := undef) (getop rfl) (by kernel_rfl) (by kernel_rfl) (by kernel_rfl) (fun _ _ _ h => h) (Or.inr ⟨by rfl, rfl⟩) (by assumption) ?_)
      (try simp only [Act.put, List.setIfInBounds_toArray, List.set_cons_zero, List.set_cons_succ])
      first
      | (refine wpAnyH_take (i := 19) (oi := _) (v := ?_) (getop rfl) (by kernel_rfl) (by kernel_rfl) (by kernel_rfl) (fun _ _ _ h => h) (Or.inl ⟨by rfl, ?_⟩) (by assumption) ?_; rotate_left; focus (intro w hSw; (try dsimp only at hSw); go_simp; (try with_reducible rfl); done))
      | (refine wpAnyH_take (i := 19) (oi := _) (v := undef) (getop rfl) (by kernel_rfl) (by kernel_rfl) (by kernel_rfl) (fun _ _ _ h => h) (Or.inr ⟨by rfl, rfl⟩) (by assumption) ?_)
      (try simp only [Act.put, List.setIfInBounds_toArray, List.set_cons_zero, List.set_cons_succ])
      first
      | (refine wpAnyH_take (i := 22) (oi := _) (v := ?_) (getop rfl) (by kernel_rfl) (by kernel_rfl) (by kernel_rfl) (fun _ _ _ h => h) (Or.inl ⟨by rfl, ?_⟩) (by assumption) ?_; rotate_left; focus (intro w hSw; (try dsimp only at hSw); go_simp; (try with_reducible rfl); done))
      | (refine wpAnyH_take (i := 22) (oi := _) (v := undef) (getop rfl) (by kernel_rfl) (by kernel_rfl) (by kernel_rfl) (fun _ _ _ h => h) (Or.inr ⟨by rfl, rfl⟩) (by assumption) ?_)
      (try simp only [Act.put, List.setIfInBounds_toArray, List.set_cons_zero, List.set_cons_succ])
      first
      | (refine wpAnyH_take (i := 23) (oi := _) (v := ?_) (getop rfl) (by kernel_rfl) (by kernel_rfl) (by kernel_rfl) (fun _ _ _ h => h) (Or.inl ⟨by rfl, ?_⟩) (by assumption) ?_; rotate_left; focus (intro w hSw; (try dsimp only at hSw); go_simp; (try with_reducible rfl); done))
      | (refine wpAnyH_take (i := 23) (oi := _) (v := undef) (getop rfl) (by kernel_rfl) (by kernel_rfl) (by kernel_rfl) (fun _ _ _ h => h) (Or.inr ⟨by rfl, rfl⟩) (by assumption) ?_)
      (try simp only [Act.put, List.setIfInBounds_toArray, List.set_cons_zero, List.set_cons_succ])
      first
      | (refine wpAnyH_take (i := 24) (oi := _) (v := ?_) (getop rfl) (by kernel_rfl) (by kernel_rfl) (by kernel_rfl) (fun _ _ _ h => h) (Or.inl ⟨by rfl, ?_⟩) (by assumption) ?_; rotate_left; focus (intro w hSw; (try dsimp only at hSw); go_simp; (try with_reducible rfl); done))
      | (refine wpAnyH_take (i := 24) (oi := _) (v := undef) (getop rfl) (by kernel_rfl) (by kernel_rfl) (by kernel_rfl) (fun _ _ _ h => h) (Or.inr ⟨by rfl, rfl⟩) (by assumption) ?_)
      (try simp only [Act.put, List.setIfInBounds_toArray, List.set_cons_zero, List.set_cons_succ])
      refine wpAnyH_ready (rs := [20]) (by kernel_rfl) (by simp) ?_
      refine AllReadyH.cons (o := _) (getop rfl) (fun K hK => ?_) AllReadyH.nil
      go_simp
      (refine (HA2.out _).mono ?_; rintro e wx ⟨rfl, hb1⟩)
      refine hK.out _ _ ?_ (fun hHeld20 => ?_)
      focus ((try dsimp only); (first | assumption | exact keep12 hb1 (by assumption) | exact keep12 hb2 (by assumption) | exact keep12 hb3 (by assumption) | exact keep12 hb4 (by assumption) | (have q := hX.facts.1; have r := hB.facts.1; have s := hC.facts.1; exact ⟨q 7, q 8, r 0, r 1, r 2, r 3, r 4, s 0, s 1, s 2, s 3, s 4, hX.lt, hB.lt, hC.lt⟩)))
      clear hK K hHeld
      have hHeld := hHeld20
      clear hHeld20
      (try simp only [Act.put, List.setIfInBounds_toArray, List.set_cons_zero, List.set_cons_succ])
      refine wpAnyH_ready (rs := [21]) (by kernel_rfl) (by simp) ?_
      refine AllReadyH.cons (o := _) (getop rfl) (fun K hK => ?_) AllReadyH.nil
      go_simp
      (refine (HH2.out _).mono ?_; rintro e wx ⟨rfl, hb2⟩)
      refine hK.out _ _ ?_ (fun hHeld21 => ?_)
      focus ((try dsimp only); (first | assumption | exact keep12 hb1 (by assumption) | exact keep12 hb2 (by assumption) | exact keep12 hb3 (by assumption) | exact keep12 hb4 (by assumption) | (have q := hX.facts.1; have r := hB.facts.1; have s := hC.facts.1; exact ⟨q 7, q 8, r 0, r 1, r 2, r 3, r 4, s 0, s 1, s 2, s 3, s 4, hX.lt, hB.lt, hC.lt⟩)))
      clear hK K hHeld
      have hHeld := hHeld21
      clear hHeld21
      (try simp only [Act.put, List.setIfInBounds_toArray, List.set_cons_zero, List.set_cons_succ])
      refine wpAnyH_ready (rs := [25]) (by kernel_rfl) (by simp) ?_
      refine AllReadyH.cons (o := _) (getop rfl) (fun K hK => ?_) AllReadyH.nil
      go_simp
      (refine (HA.out _).mono ?_; rintro e wx ⟨rfl, hb3⟩)
      refine hK.out _ _ ?_ (fun hHeld25 => ?_)
      focus ((try dsimp only); (first | assumption | exact keep12 hb1 (by assumption) | exact keep12 hb2 (by assumption) | exact keep12 hb3 (by assumption) | exact keep12 hb4 (by assumption) | (have q := hX.facts.1; have r := hB.facts.1; have s := hC.facts.1; exact ⟨q 7, q 8, r 0, r 1, r 2, r 3, r 4, s 0, s 1, s 2, s 3, s 4, hX.lt, hB.lt, hC.lt⟩)))
      clear hK K hHeld
      have hHeld := hHeld25
      clear hHeld25
      (try simp only [Act.put, List.setIfInBounds_toArray, List.set_cons_zero, List.set_cons_succ])
      refine wpAnyH_ready (rs := [26]) (by kernel_rfl) (by simp) ?_
      refine AllReadyH.cons (o := _) (getop rfl) (fun K hK => ?_) AllReadyH.nil
      go_simp
      (refine (HH.out _).mono ?_; rintro e wx ⟨rfl, hb4⟩)
      refine hK.out _ _ ?_ (fun hHeld26 => ?_)
      focus ((try dsimp only); (first | assumption | exact keep12 hb1 (by assumption) | exact keep12 hb2 (by assumption) | exact keep12 hb3 (by assumption) | exact keep12 hb4 (by assumption) | (have q := hX.facts.1; have r := hB.facts.1; have s := hC.facts.1; exact ⟨q 7, q 8, r 0, r 1, r 2, r 3, r 4, s 0, s 1, s 2, s 3, s 4, hX.lt, hB.lt, hC.lt⟩)))
      clear hK K hHeld
      have hHeld := hHeld26
      clear hHeld26
      (try simp only [Act.put, List.setIfInBounds_toArray, List.set_cons_zero, List.set_cons_succ])
      first
      | (refine wpAnyH_take (i := 27) (oi := _) (v := ?_) (getop rfl) (by kernel_rfl) (by kernel_rfl) (by kernel_rfl) (fun _ _ _ h => h) (Or.inl ⟨by rfl, ?_⟩) (by assumption) ?_; rotate_left; focus (intro w hSw; (try dsimp only at hSw); go_simp; (try with_reducible rfl); done))
      | (refine wpAnyH_take (i := 27) (oi := _) (v := undef) (getop rfl) (by kernel_rfl) (by kernel_rfl) (by kernel_rfl) (fun _ _ _ h => h) (Or.inr ⟨by rfl, rfl⟩) (by assumption) ?_)
      (try simp only [Act.put, List.setIfInBounds_toArray, List.set_cons_zero, List.set_cons_succ])
      first
      | (refine wpAnyH_take (i := 28) (oi := _) (v := ?_) (getop rfl) (by kernel_rfl) (by kernel_rfl) (by kernel_rfl) (fun _ _ _ h => h) (Or.inl ⟨by rfl, ?_⟩) (by assumption) ?_; rotate_left; focus (intro w hSw; (try dsimp only at hSw); go_simp; (try with_reducible rfl); done))
      | (refine wpAnyH_take (i := 28) (oi := _) (v := undef) (getop rfl) (by kernel_rfl) (by kernel_rfl) (by kernel_rfl) (fun _ _ _ h => h) (Or.inr ⟨by rfl, rfl⟩) (by assumption) ?_)
      (try simp only [Act.put, List.setIfInBounds_toArray, List.set_cons_zero, List.set_cons_succ])
      first
      | (refine wpAnyH_take (i := 29) (oi := _) (v := ?_) (getop rfl) (by kernel_rfl) (by kernel_rfl) (by kernel_rfl) (fun _ _ _ h => h) (Or.inl ⟨by rfl, ?_⟩) (by assumption) ?_; rotate_left; focus (intro w hSw; (try dsimp only at hSw); go_simp; (try with_reducible rfl); done))
      | (refine wpAnyH_take (i := 29) (oi := _) (v := undef) (getop rfl) (by kernel_rfl) (by kernel_rfl) (by kernel_rfl) (fun _ _ _ h => h) (Or.inr ⟨by rfl, rfl⟩) (by assumption) ?_)
      (try simp only [Act.put, List.setIfInBounds_toArray, List.set_cons_zero, List.set_cons_succ])
      refine wpAnyH_done (by kernel_rfl) ?_ _
      have hL := lo_trans (lo_trans (lo_trans (lo_trans (lo_drew hL) hb1) hb2) hb3) hb4
      clear hb1 hb2 hb3 hb4
      have s1 : statusB 2 = 429 := rfl
      have s2 : codeB 2 = 0 := rfl
      go_wp2_with (first
        | (go_at_call 11; refine (status_any _ _).mono ?_; rintro e w' ⟨rfl, rfl⟩)
        | (go_at_call 13; refine (code_any _ _).mono ?_; rintro e w' ⟨rfl, rfl⟩))
      refine (awake_any _).mono ?_
      rintro e wf ⟨rfl, hb⟩
      have hM := Lib.hid (lo_trans hL hb)
      clear hb
      go_wp2_with fail
      go_ret
      exact ⟨rfl, hM.out⟩
  · as_aux_lemma =>
      have h6 := HP6.out (by decide)
      subst h6
      clear HP5 HP6 HHc
      have hwt : 0 < wt := by omega
      clear hp4
      go_upto_region 7 with fail
      refine wp_region_held_drew (S := (fun W => W.cell? ⟨gx, 7, none⟩ = some (.int .i64 x.tick) ∧ W.cell? ⟨gx, 8, none⟩ = some (.int .i64 x.second) ∧ W.cell? ⟨gb, 0, none⟩ = some (.int .i64 b.burst) ∧ W.cell? ⟨gb, 1, none⟩ = some (.int .i64 b.rate) ∧ W.cell? ⟨gb, 2, none⟩ = some (.int .i64 b.per) ∧ W.cell? ⟨gb, 3, none⟩ = some (.int .i64 b.level) ∧ W.cell? ⟨gb, 4, none⟩ = some (.int .i64 b.now) ∧ W.cell? ⟨gc, 0, none⟩ = some (.int .i64 c.burst) ∧ W.cell? ⟨gc, 1, none⟩ = some (.int .i64 c.rate) ∧ W.cell? ⟨gc, 2, none⟩ = some (.int .i64 c.per) ∧ W.cell? ⟨gc, 3, none⟩ = some (.int .i64 c.level) ∧ W.cell? ⟨gc, 4, none⟩ = some (.int .i64 c.now) ∧ gx < W.heap.size ∧ gb < W.heap.size ∧ gc < W.heap.size)) (by kernel_rfl) ?_ (fun hHeld => ?_)
      focus ((try dsimp only); (first | assumption | exact keep12 hb1 (by assumption) | exact keep12 hb2 (by assumption) | exact keep12 hb3 (by assumption) | exact keep12 hb4 (by assumption) | (have q := hX.facts.1; have r := hB.facts.1; have s := hC.facts.1; exact ⟨q 7, q 8, r 0, r 1, r 2, r 3, r 4, s 0, s 1, s 2, s 3, s 4, hX.lt, hB.lt, hC.lt⟩)))
      first
      | (refine wpAnyH_take (i := 0) (oi := _) (v := ?_) (getop rfl) (by kernel_rfl) (by kernel_rfl) (by kernel_rfl) (fun _ _ _ h => h) (Or.inl ⟨by rfl, ?_⟩) (by assumption) ?_; rotate_left; focus (intro w hSw; (try dsimp only at hSw); go_simp; (try with_reducible rfl); done))
      | (refine wpAnyH_take (i := 0) (oi := _) (v := undef) (getop rfl) (by kernel_rfl) (by kernel_rfl) (by kernel_rfl) (fun _ _ _ h => h) (Or.inr ⟨by rfl, rfl⟩) (by assumption) ?_)
      (try simp only [Act.put, List.setIfInBounds_toArray, List.set_cons_zero, List.set_cons_succ])
      first
      | (refine wpAnyH_take (i := 1) (oi := _) (v := ?_) (getop rfl) (by kernel_rfl) (by kernel_rfl) (by kernel_rfl) (fun _ _ _ h => h) (Or.inl ⟨by rfl, ?_⟩) (by assumption) ?_; rotate_left; focus (intro w hSw; (try dsimp only at hSw); go_simp; (try with_reducible rfl); done))
      | (refine wpAnyH_take (i := 1) (oi := _) (v := undef) (getop rfl) (by kernel_rfl) (by kernel_rfl) (by kernel_rfl) (fun _ _ _ h => h) (Or.inr ⟨by rfl, rfl⟩) (by assumption) ?_)
      (try simp only [Act.put, List.setIfInBounds_toArray, List.set_cons_zero, List.set_cons_succ])
      first
      | (refine wpAnyH_take (i := 2) (oi := _) (v := ?_) (getop rfl) (by kernel_rfl) (by kernel_rfl) (by kernel_rfl) (fun _ _ _ h => h) (Or.inl ⟨by rfl, ?_⟩) (by assumption) ?_; rotate_left; focus (intro w hSw; (try dsimp only at hSw); go_simp; (try with_reducible rfl); done))
      | (refine wpAnyH_take (i := 2) (oi := _) (v := undef) (getop rfl) (by kernel_rfl) (by kernel_rfl) (by kernel_rfl) (fun _ _ _ h => h) (Or.inr ⟨by rfl, rfl⟩) (by assumption) ?_)
      (try simp only [Act.put, List.setIfInBounds_toArray, List.set_cons_zero, List.set_cons_succ])
      first
      | (refine wpAnyH_take (i := 3) (oi := _) (v := ?_) (getop rfl) (by kernel_rfl) (by kernel_rfl) (by kernel_rfl) (fun _ _ _ h => h) (Or.inl ⟨by rfl, ?_⟩) (by assumption) ?_; rotate_left; focus (intro w hSw; (try dsimp only at hSw); go_simp; (try with_reducible rfl); done))
      | (refine wpAnyH_take (i := 3) (oi := _) (v := undef) (getop rfl) (by kernel_rfl) (by kernel_rfl) (by kernel_rfl) (fun _ _ _ h => h) (Or.inr ⟨by rfl, rfl⟩) (by assumption) ?_)
      (try simp only [Act.put, List.setIfInBounds_toArray, List.set_cons_zero, List.set_cons_succ])
      first
      | (refine wpAnyH_take (i := 5) (oi := _) (v := ?_) (getop rfl) (by kernel_rfl) (by kernel_rfl) (by kernel_rfl) (fun _ _ _ h => h) (Or.inl ⟨by rfl, ?_⟩) (by assumption) ?_; rotate_left; focus (intro w hSw; (try dsimp only at hSw); go_simp; (try with_reducible rfl); done))
      | (refine wpAnyH_take (i := 5) (oi := _) (v := undef) (getop rfl) (by kernel_rfl) (by kernel_rfl) (by kernel_rfl) (fun _ _ _ h => h) (Or.inr ⟨by rfl, rfl⟩) (by assumption) ?_)
      (try simp only [Act.put, List.setIfInBounds_toArray, List.set_cons_zero, List.set_cons_succ])
      first
      | (refine wpAnyH_take (i := 6) (oi := _) (v := ?_) (getop rfl) (by kernel_rfl) (by kernel_rfl) (by kernel_rfl) (fun _ _ _ h => h) (Or.inl ⟨by rfl, ?_⟩) (by assumption) ?_; rotate_left; focus (intro w hSw; (try dsimp only at hSw); go_simp; (try with_reducible rfl); done))
      | (refine wpAnyH_take (i := 6) (oi := _) (v := undef) (getop rfl) (by kernel_rfl) (by kernel_rfl) (by kernel_rfl) (fun _ _ _ h => h) (Or.inr ⟨by rfl, rfl⟩) (by assumption) ?_)
      (try simp only [Act.put, List.setIfInBounds_toArray, List.set_cons_zero, List.set_cons_succ])
      first
      | (refine wpAnyH_take (i := 7) (oi := _) (v := ?_) (getop rfl) (by kernel_rfl) (by kernel_rfl) (by kernel_rfl) (fun _ _ _ h => h) (Or.inl ⟨by rfl, ?_⟩) (by assumption) ?_; rotate_left; focus (intro w hSw; (try dsimp only at hSw); go_simp; (try with_reducible rfl); done))
      | (refine wpAnyH_take (i := 7) (oi := _) (v := undef) (getop rfl) (by kernel_rfl) (by kernel_rfl) (by kernel_rfl) (fun _ _ _ h => h) (Or.inr ⟨by rfl, rfl⟩) (by assumption) ?_)
      (try simp only [Act.put, List.setIfInBounds_toArray, List.set_cons_zero, List.set_cons_succ])
      refine wpAnyH_ready (rs := [4]) (by kernel_rfl) (by simp) ?_
      refine AllReadyH.cons (o := _) (getop rfl) (fun K hK => ?_) AllReadyH.nil
      go_simp
      skip
      refine hK.out _ _ ?_ (fun hHeld4 => ?_)
      focus ((try dsimp only); (first | assumption | exact keep12 hb1 (by assumption) | exact keep12 hb2 (by assumption) | exact keep12 hb3 (by assumption) | exact keep12 hb4 (by assumption) | (have q := hX.facts.1; have r := hB.facts.1; have s := hC.facts.1; exact ⟨q 7, q 8, r 0, r 1, r 2, r 3, r 4, s 0, s 1, s 2, s 3, s 4, hX.lt, hB.lt, hC.lt⟩)))
      clear hK K hHeld
      have hHeld := hHeld4
      clear hHeld4
      (try simp only [Act.put, List.setIfInBounds_toArray, List.set_cons_zero, List.set_cons_succ])
      refine wpAnyH_ready (rs := [8]) (by kernel_rfl) (by simp) ?_
      refine AllReadyH.cons (o := _) (getop rfl) (fun K hK => ?_) AllReadyH.nil
      go_simp
      skip
      refine hK.out _ _ ?_ (fun hHeld8 => ?_)
      focus ((try dsimp only); (first | assumption | exact keep12 hb1 (by assumption) | exact keep12 hb2 (by assumption) | exact keep12 hb3 (by assumption) | exact keep12 hb4 (by assumption) | (have q := hX.facts.1; have r := hB.facts.1; have s := hC.facts.1; exact ⟨q 7, q 8, r 0, r 1, r 2, r 3, r 4, s 0, s 1, s 2, s 3, s 4, hX.lt, hB.lt, hC.lt⟩)))
      clear hK K hHeld
      have hHeld := hHeld8
      clear hHeld8
      (try simp only [Act.put, List.setIfInBounds_toArray, List.set_cons_zero, List.set_cons_succ])
      refine wpAnyH_ready (rs := [9]) (by kernel_rfl) (by simp) ?_
      refine AllReadyH.cons (o := _) (getop rfl) (fun K hK => ?_) AllReadyH.nil
      go_simp
      skip
      refine hK.out _ _ ?_ (fun hHeld9 => ?_)
      focus ((try dsimp only); (first | assumption | exact keep12 hb1 (by assumption) | exact keep12 hb2 (by assumption) | exact keep12 hb3 (by assumption) | exact keep12 hb4 (by assumption) | (have q := hX.facts.1; have r := hB.facts.1; have s := hC.facts.1; exact ⟨q 7, q 8, r 0, r 1, r 2, r 3, r 4, s 0, s 1, s 2, s 3, s 4, hX.lt, hB.lt, hC.lt⟩)))
      clear hK K hHeld
      have hHeld := hHeld9
      clear hHeld9
      (try simp only [Act.put, List.setIfInBounds_toArray, List.set_cons_zero, List.set_cons_succ])
      first
      | (refine wpAnyH_take (i := 10) (oi := _) (v := ?_) (getop rfl) (by kernel_rfl) (by kernel_rfl) (by kernel_rfl) (fun _ _ _ h => h) (Or.inl ⟨by rfl, ?_⟩) (by assumption) ?_; rotate_left; focus (intro w hSw; (try dsimp only at hSw); go_simp; (try with_reducible rfl); done))
      | (refine wpAnyH_take (i := 10) (oi := _) (v := undef) (getop rfl) (by kernel_rfl) (by kernel_rfl) (by kernel_rfl) (fun _ _ _ h => h) (Or.inr ⟨by rfl, rfl⟩) (by assumption) ?_)
      (try simp only [Act.put, List.setIfInBounds_toArray, List.set_cons_zero, List.set_cons_succ])
      first
      | (refine wpAnyH_take (i := 11) (oi := _) (v := ?_) (getop rfl) (by kernel_rfl) (by kernel_rfl) (by kernel_rfl) (fun _ _ _ h => h) (Or.inl ⟨by rfl, ?_⟩) (by assumption) ?_; rotate_left; focus (intro w hSw; (try dsimp only at hSw); go_simp; (try with_reducible rfl); done))
      | (refine wpAnyH_take (i := 11) (oi := _) (v := undef) (getop rfl) (by kernel_rfl) (by kernel_rfl) (by kernel_rfl) (fun _ _ _ h => h) (Or.inr ⟨by rfl, rfl⟩) (by assumption) ?_)
      (try simp only [Act.put, List.setIfInBounds_toArray, List.set_cons_zero, List.set_cons_succ])
      first
      | (refine wpAnyH_take (i := 12) (oi := _) (v := ?_) (getop rfl) (by kernel_rfl) (by kernel_rfl) (by kernel_rfl) (fun _ _ _ h => h) (Or.inl ⟨by rfl, ?_⟩) (by assumption) ?_; rotate_left; focus (intro w hSw; (try dsimp only at hSw); go_simp; (try with_reducible rfl); done))
      | (refine wpAnyH_take (i := 12) (oi := _) (v := undef) (getop rfl) (by kernel_rfl) (by kernel_rfl) (by kernel_rfl) (fun _ _ _ h => h) (Or.inr ⟨by rfl, rfl⟩) (by assumption) ?_)
      (try simp only [Act.put, List.setIfInBounds_toArray, List.set_cons_zero, List.set_cons_succ])
      first
      | (refine wpAnyH_take (i := 13) (oi := _) (v := ?_) (getop rfl) (by kernel_rfl) (by kernel_rfl) (by kernel_rfl) (fun _ _ _ h => h) (Or.inl ⟨by rfl, ?_⟩) (by assumption) ?_; rotate_left; focus (intro w hSw; (try dsimp only at hSw); go_simp; (try with_reducible rfl); done))
      | (refine wpAnyH_take (i := 13) (oi := _) (v := undef) (getop rfl) (by kernel_rfl) (by kernel_rfl) (by kernel_rfl) (fun _ _ _ h => h) (Or.inr ⟨by rfl, rfl⟩) (by assumption) ?_)
      (try simp only [Act.put, List.setIfInBounds_toArray, List.set_cons_zero, List.set_cons_succ])
      first
      | (refine wpAnyH_take (i := 14) (oi := _) (v := ?_) (getop rfl) (by kernel_rfl) (by kernel_rfl) (by kernel_rfl) (fun _ _ _ h => h) (Or.inl ⟨by rfl, ?_⟩) (by assumption) ?_; rotate_left; focus (intro w hSw; (try dsimp only at hSw); go_simp; (try with_reducible rfl); done))
      | (refine wpAnyH_take (i := 14) (oi := _) (v := undef) (getop rfl) (by kernel_rfl) (by kernel_rfl) (by kernel_rfl) (fun _ _ _ h => h) (Or.inr ⟨by rfl, rfl⟩) (by assumption) ?_)
      (try simp only [Act.put, List.setIfInBounds_toArray, List.set_cons_zero, List.set_cons_succ])
      first
      | (refine wpAnyH_take (i := 15) (oi := _) (v := ?_) (getop rfl) (by kernel_rfl) (by kernel_rfl) (by kernel_rfl) (fun _ _ _ h => h) (Or.inl ⟨by rfl, ?_⟩) (by assumption) ?_; rotate_left; focus (intro w hSw; (try dsimp only at hSw); go_simp; (try with_reducible rfl); done))
      | (refine wpAnyH_take (i := 15) (oi := _) (v := undef) (getop rfl) (by kernel_rfl) (by kernel_rfl) (by kernel_rfl) (fun _ _ _ h => h) (Or.inr ⟨by rfl, rfl⟩) (by assumption) ?_)
      (try simp only [Act.put, List.setIfInBounds_toArray, List.set_cons_zero, List.set_cons_succ])
      first
      | (refine wpAnyH_take (i := 16) (oi := _) (v := ?_) (getop rfl) (by kernel_rfl) (by kernel_rfl) (by kernel_rfl) (fun _ _ _ h => h) (Or.inl ⟨by rfl, ?_⟩) (by assumption) ?_; rotate_left; focus (intro w hSw; (try dsimp only at hSw); go_simp; (try with_reducible rfl); done))
      | (refine wpAnyH_take (i := 16) (oi := _) (v := undef) (getop rfl) (by kernel_rfl) (by kernel_rfl) (by kernel_rfl) (fun _ _ _ h => h) (Or.inr ⟨by rfl, rfl⟩) (by assumption) ?_)
      (try simp only [Act.put, List.setIfInBounds_toArray, List.set_cons_zero, List.set_cons_succ])
      first
      | (refine wpAnyH_take (i := 17) (oi := _) (v := ?_) (getop rfl) (by kernel_rfl) (by kernel_rfl) (by kernel_rfl) (fun _ _ _ h => h) (Or.inl ⟨by rfl, ?_⟩) (by assumption) ?_; rotate_left; focus (intro w hSw; (try dsimp only at hSw); go_simp; (try with_reducible rfl); done))
      | (refine wpAnyH_take (i := 17) (oi := _) (v := undef) (getop rfl) (by kernel_rfl) (by kernel_rfl) (by kernel_rfl) (fun _ _ _ h => h) (Or.inr ⟨by rfl, rfl⟩) (by assumption) ?_)
      (try simp only [Act.put, List.setIfInBounds_toArray, List.set_cons_zero, List.set_cons_succ])
      first
      | (refine wpAnyH_take (i := 18) (oi := _) (v := ?_) (getop rfl) (by kernel_rfl) (by kernel_rfl) (by kernel_rfl) (fun _ _ _ h => h) (Or.inl ⟨by rfl, ?_⟩) (by assumption) ?_; rotate_left; focus (intro w hSw; (try dsimp only at hSw); go_simp; (try with_reducible rfl); done))
      | (refine wpAnyH_take (i := 18) (oi := _) (v := undef) (getop rfl) (by kernel_rfl) (by kernel_rfl) (by kernel_rfl) (fun _ _ _ h => h) (Or.inr ⟨by rfl, rfl⟩) (by assumption) ?_)
      (try simp only [Act.put, List.setIfInBounds_toArray, List.set_cons_zero, List.set_cons_succ])
      first
      | (refine wpAnyH_take (i := 19) (oi := _) (v := ?_) (getop rfl) (by kernel_rfl) (by kernel_rfl) (by kernel_rfl) (fun _ _ _ h => h) (Or.inl ⟨by rfl, ?_⟩) (by assumption) ?_; rotate_left; focus (intro w hSw; (try dsimp only at hSw); go_simp; (try with_reducible rfl); done))
      | (refine wpAnyH_take (i := 19) (oi := _) (v := undef) (getop rfl) (by kernel_rfl) (by kernel_rfl) (by kernel_rfl) (fun _ _ _ h => h) (Or.inr ⟨by rfl, rfl⟩) (by assumption) ?_)
      (try simp only [Act.put, List.setIfInBounds_toArray, List.set_cons_zero, List.set_cons_succ])
      first
      | (refine wpAnyH_take (i := 22) (oi := _) (v := ?_) (getop rfl) (by kernel_rfl) (by kernel_rfl) (by kernel_rfl) (fun _ _ _ h => h) (Or.inl ⟨by rfl, ?_⟩) (by assumption) ?_; rotate_left; focus (intro w hSw; (try dsimp only at hSw); go_simp; (try with_reducible rfl); done))
      | (refine wpAnyH_take (i := 22) (oi := _) (v := undef) (getop rfl) (by kernel_rfl) (by kernel_rfl) (by kernel_rfl) (fun _ _ _ h => h) (Or.inr ⟨by rfl, rfl⟩) (by assumption) ?_)
      (try simp only [Act.put, List.setIfInBounds_toArray, List.set_cons_zero, List.set_cons_succ])
      first
      | (refine wpAnyH_take (i := 23) (oi := _) (v := ?_) (getop rfl) (by kernel_rfl) (by kernel_rfl) (by kernel_rfl) (fun _ _ _ h => h) (Or.inl ⟨by rfl, ?_⟩) (by assumption) ?_; rotate_left; focus (intro w hSw; (try dsimp only at hSw); go_simp; (try with_reducible rfl); done))
      | (refine wpAnyH_take (i := 23) (oi := _) (v := undef) (getop rfl) (by kernel_rfl) (by kernel_rfl) (by kernel_rfl) (fun _ _ _ h => h) (Or.inr ⟨by rfl, rfl⟩) (by assumption) ?_)
      (try simp only [Act.put, List.setIfInBounds_toArray, List.set_cons_zero, List.set_cons_succ])
      first
      | (refine wpAnyH_take (i := 24) (oi := _) (v := ?_) (getop rfl) (by kernel_rfl) (by kernel_rfl) (by kernel_rfl) (fun _ _ _ h => h) (Or.inl ⟨by rfl, ?_⟩) (by assumption) ?_; rotate_left; focus (intro w hSw; (try dsimp only at hSw); go_simp; (try with_reducible rfl); done))
      | (refine wpAnyH_take (i := 24) (oi := _) (v := undef) (getop rfl) (by kernel_rfl) (by kernel_rfl) (by kernel_rfl) (fun _ _ _ h => h) (Or.inr ⟨by rfl, rfl⟩) (by assumption) ?_)
      (try simp only [Act.put, List.setIfInBounds_toArray, List.set_cons_zero, List.set_cons_succ])
      refine wpAnyH_ready (rs := [20]) (by kernel_rfl) (by simp) ?_
      refine AllReadyH.cons (o := _) (getop rfl) (fun K hK => ?_) AllReadyH.nil
      go_simp
      (refine (HA2.out _).mono ?_; rintro e wx ⟨rfl, hb1⟩)
      refine hK.out _ _ ?_ (fun hHeld20 => ?_)
      focus ((try dsimp only); (first | assumption | exact keep12 hb1 (by assumption) | exact keep12 hb2 (by assumption) | exact keep12 hb3 (by assumption) | exact keep12 hb4 (by assumption) | (have q := hX.facts.1; have r := hB.facts.1; have s := hC.facts.1; exact ⟨q 7, q 8, r 0, r 1, r 2, r 3, r 4, s 0, s 1, s 2, s 3, s 4, hX.lt, hB.lt, hC.lt⟩)))
      clear hK K hHeld
      have hHeld := hHeld20
      clear hHeld20
      (try simp only [Act.put, List.setIfInBounds_toArray, List.set_cons_zero, List.set_cons_succ])
      refine wpAnyH_ready (rs := [21]) (by kernel_rfl) (by simp) ?_
      refine AllReadyH.cons (o := _) (getop rfl) (fun K hK => ?_) AllReadyH.nil
      go_simp
      (refine (HH2.out _).mono ?_; rintro e wx ⟨rfl, hb2⟩)
      refine hK.out _ _ ?_ (fun hHeld21 => ?_)
      focus ((try dsimp only); (first | assumption | exact keep12 hb1 (by assumption) | exact keep12 hb2 (by assumption) | exact keep12 hb3 (by assumption) | exact keep12 hb4 (by assumption) | (have q := hX.facts.1; have r := hB.facts.1; have s := hC.facts.1; exact ⟨q 7, q 8, r 0, r 1, r 2, r 3, r 4, s 0, s 1, s 2, s 3, s 4, hX.lt, hB.lt, hC.lt⟩)))
      clear hK K hHeld
      have hHeld := hHeld21
      clear hHeld21
      (try simp only [Act.put, List.setIfInBounds_toArray, List.set_cons_zero, List.set_cons_succ])
      refine wpAnyH_ready (rs := [25]) (by kernel_rfl) (by simp) ?_
      refine AllReadyH.cons (o := _) (getop rfl) (fun K hK => ?_) AllReadyH.nil
      go_simp
      (refine (HA.out _).mono ?_; rintro e wx ⟨rfl, hb3⟩)
      refine hK.out _ _ ?_ (fun hHeld25 => ?_)
      focus ((try dsimp only); (first | assumption | exact keep12 hb1 (by assumption) | exact keep12 hb2 (by assumption) | exact keep12 hb3 (by assumption) | exact keep12 hb4 (by assumption) | (have q := hX.facts.1; have r := hB.facts.1; have s := hC.facts.1; exact ⟨q 7, q 8, r 0, r 1, r 2, r 3, r 4, s 0, s 1, s 2, s 3, s 4, hX.lt, hB.lt, hC.lt⟩)))
      clear hK K hHeld
      have hHeld := hHeld25
      clear hHeld25
      (try simp only [Act.put, List.setIfInBounds_toArray, List.set_cons_zero, List.set_cons_succ])
      refine wpAnyH_ready (rs := [26]) (by kernel_rfl) (by simp) ?_
      refine AllReadyH.cons (o := _) (getop rfl) (fun K hK => ?_) AllReadyH.nil
      go_simp
      (refine (HH.out _).mono ?_; rintro e wx ⟨rfl, hb4⟩)
      refine hK.out _ _ ?_ (fun hHeld26 => ?_)
      focus ((try dsimp only); (first | assumption | exact keep12 hb1 (by assumption) | exact keep12 hb2 (by assumption) | exact keep12 hb3 (by assumption) | exact keep12 hb4 (by assumption) | (have q := hX.facts.1; have r := hB.facts.1; have s := hC.facts.1; exact ⟨q 7, q 8, r 0, r 1, r 2, r 3, r 4, s 0, s 1, s 2, s 3, s 4, hX.lt, hB.lt, hC.lt⟩)))
      clear hK K hHeld
      have hHeld := hHeld26
      clear hHeld26
      (try simp only [Act.put, List.setIfInBounds_toArray, List.set_cons_zero, List.set_cons_succ])
      first
      | (refine wpAnyH_take (i := 27) (oi := _) (v := ?_) (getop rfl) (by kernel_rfl) (by kernel_rfl) (by kernel_rfl) (fun _ _ _ h => h) (Or.inl ⟨by rfl, ?_⟩) (by assumption) ?_; rotate_left; focus (intro w hSw; (try dsimp only at hSw); go_simp; (try with_reducible rfl); done))
      | (refine wpAnyH_take (i := 27) (oi := _) (v := undef) (getop rfl) (by kernel_rfl) (by kernel_rfl) (by kernel_rfl) (fun _ _ _ h => h) (Or.inr ⟨by rfl, rfl⟩) (by assumption) ?_)
      (try simp only [Act.put, List.setIfInBounds_toArray, List.set_cons_zero, List.set_cons_succ])
      first
      | (refine wpAnyH_take (i := 28) (oi := _) (v := ?_) (getop rfl) (by kernel_rfl) (by kernel_rfl) (by kernel_rfl) (fun _ _ _ h => h) (Or.inl ⟨by rfl, ?_⟩) (by assumption) ?_; rotate_left; focus (intro w hSw; (try dsimp only at hSw); go_simp; (try with_reducible rfl); done))
      | (refine wpAnyH_take (i := 28) (oi := _) (v := undef) (getop rfl) (by kernel_rfl) (by kernel_rfl) (by kernel_rfl) (fun _ _ _ h => h) (Or.inr ⟨by rfl, rfl⟩) (by assumption) ?_)
      (try simp only [Act.put, List.setIfInBounds_toArray, List.set_cons_zero, List.set_cons_succ])
      first
      | (refine wpAnyH_take (i := 29) (oi := _) (v := ?_) (getop rfl) (by kernel_rfl) (by kernel_rfl) (by kernel_rfl) (fun _ _ _ h => h) (Or.inl ⟨by rfl, ?_⟩) (by assumption) ?_; rotate_left; focus (intro w hSw; (try dsimp only at hSw); go_simp; (try with_reducible rfl); done))
      | (refine wpAnyH_take (i := 29) (oi := _) (v := undef) (getop rfl) (by kernel_rfl) (by kernel_rfl) (by kernel_rfl) (fun _ _ _ h => h) (Or.inr ⟨by rfl, rfl⟩) (by assumption) ?_)
      (try simp only [Act.put, List.setIfInBounds_toArray, List.set_cons_zero, List.set_cons_succ])
      refine wpAnyH_done (by kernel_rfl) ?_ _
      have hL := lo_trans (lo_trans (lo_trans (lo_trans (lo_drew hL) hb1) hb2) hb3) hb4
      clear hb1 hb2 hb3 hb4
      have s1 : statusB 3 = 503 := rfl
      have s2 : codeB 3 = 0 := rfl
      go_wp2_with (first
        | (go_at_call 11; refine (status_any _ _).mono ?_; rintro e w' ⟨rfl, rfl⟩)
        | (go_at_call 13; refine (code_any _ _).mono ?_; rintro e w' ⟨rfl, rfl⟩))
      refine (awake_any _).mono ?_
      rintro e wf ⟨rfl, hb⟩
      have hM := Lib.hid (lo_trans hL hb)
      clear hb
      go_wp2_with fail
      go_ret
      exact ⟨rfl, hM.out⟩
  · as_aux_lemma =>
      have h6 := HP6.out (by decide)
      subst h6
      clear HP5 HP6 HHc
      have hwt : ¬ 0 < wt := by omega
      clear hp4
      go_upto_region 7 with fail
      refine wp_region_held_drew (S := (fun W => W.cell? ⟨gx, 7, none⟩ = some (.int .i64 x.tick) ∧ W.cell? ⟨gx, 8, none⟩ = some (.int .i64 x.second) ∧ W.cell? ⟨gb, 0, none⟩ = some (.int .i64 b.burst) ∧ W.cell? ⟨gb, 1, none⟩ = some (.int .i64 b.rate) ∧ W.cell? ⟨gb, 2, none⟩ = some (.int .i64 b.per) ∧ W.cell? ⟨gb, 3, none⟩ = some (.int .i64 b.level) ∧ W.cell? ⟨gb, 4, none⟩ = some (.int .i64 b.now) ∧ W.cell? ⟨gc, 0, none⟩ = some (.int .i64 c.burst) ∧ W.cell? ⟨gc, 1, none⟩ = some (.int .i64 c.rate) ∧ W.cell? ⟨gc, 2, none⟩ = some (.int .i64 c.per) ∧ W.cell? ⟨gc, 3, none⟩ = some (.int .i64 c.level) ∧ W.cell? ⟨gc, 4, none⟩ = some (.int .i64 c.now) ∧ gx < W.heap.size ∧ gb < W.heap.size ∧ gc < W.heap.size)) (by kernel_rfl) ?_ (fun hHeld => ?_)
      focus ((try dsimp only); (first | assumption | exact keep12 hb1 (by assumption) | exact keep12 hb2 (by assumption) | exact keep12 hb3 (by assumption) | exact keep12 hb4 (by assumption) | (have q := hX.facts.1; have r := hB.facts.1; have s := hC.facts.1; exact ⟨q 7, q 8, r 0, r 1, r 2, r 3, r 4, s 0, s 1, s 2, s 3, s 4, hX.lt, hB.lt, hC.lt⟩)))
      first
      | (refine wpAnyH_take (i := 0) (oi := _) (v := ?_) (getop rfl) (by kernel_rfl) (by kernel_rfl) (by kernel_rfl) (fun _ _ _ h => h) (Or.inl ⟨by rfl, ?_⟩) (by assumption) ?_; rotate_left; focus (intro w hSw; (try dsimp only at hSw); go_simp; (try with_reducible rfl); done))
      | (refine wpAnyH_take (i := 0) (oi := _) (v := undef) (getop rfl) (by kernel_rfl) (by kernel_rfl) (by kernel_rfl) (fun _ _ _ h => h) (Or.inr ⟨by rfl, rfl⟩) (by assumption) ?_)
      (try simp only [Act.put, List.setIfInBounds_toArray, List.set_cons_zero, List.set_cons_succ])
      first
      | (refine wpAnyH_take (i := 1) (oi := _) (v := ?_) (getop rfl) (by kernel_rfl) (by kernel_rfl) (by kernel_rfl) (fun _ _ _ h => h) (Or.inl ⟨by rfl, ?_⟩) (by assumption) ?_; rotate_left; focus (intro w hSw; (try dsimp only at hSw); go_simp; (try with_reducible rfl); done))
      | (refine wpAnyH_take (i := 1) (oi := _) (v := undef) (getop rfl) (by kernel_rfl) (by kernel_rfl) (by kernel_rfl) (fun _ _ _ h => h) (Or.inr ⟨by rfl, rfl⟩) (by assumption) ?_)
      (try simp only [Act.put, List.setIfInBounds_toArray, List.set_cons_zero, List.set_cons_succ])
      first
      | (refine wpAnyH_take (i := 2) (oi := _) (v := ?_) (getop rfl) (by kernel_rfl) (by kernel_rfl) (by kernel_rfl) (fun _ _ _ h => h) (Or.inl ⟨by rfl, ?_⟩) (by assumption) ?_; rotate_left; focus (intro w hSw; (try dsimp only at hSw); go_simp; (try with_reducible rfl); done))
      | (refine wpAnyH_take (i := 2) (oi := _) (v := undef) (getop rfl) (by kernel_rfl) (by kernel_rfl) (by kernel_rfl) (fun _ _ _ h => h) (Or.inr ⟨by rfl, rfl⟩) (by assumption) ?_)
      (try simp only [Act.put, List.setIfInBounds_toArray, List.set_cons_zero, List.set_cons_succ])
      first
      | (refine wpAnyH_take (i := 3) (oi := _) (v := ?_) (getop rfl) (by kernel_rfl) (by kernel_rfl) (by kernel_rfl) (fun _ _ _ h => h) (Or.inl ⟨by rfl, ?_⟩) (by assumption) ?_; rotate_left; focus (intro w hSw; (try dsimp only at hSw); go_simp; (try with_reducible rfl); done))
      | (refine wpAnyH_take (i := 3) (oi := _) (v := undef) (getop rfl) (by kernel_rfl) (by kernel_rfl) (by kernel_rfl) (fun _ _ _ h => h) (Or.inr ⟨by rfl, rfl⟩) (by assumption) ?_)
      (try simp only [Act.put, List.setIfInBounds_toArray, List.set_cons_zero, List.set_cons_succ])
      first
      | (refine wpAnyH_take (i := 5) (oi := _) (v := ?_) (getop rfl) (by kernel_rfl) (by kernel_rfl) (by kernel_rfl) (fun _ _ _ h => h) (Or.inl ⟨by rfl, ?_⟩) (by assumption) ?_; rotate_left; focus (intro w hSw; (try dsimp only at hSw); go_simp; (try with_reducible rfl); done))
      | (refine wpAnyH_take (i := 5) (oi := _) (v := undef) (getop rfl) (by kernel_rfl) (by kernel_rfl) (by kernel_rfl) (fun _ _ _ h => h) (Or.inr ⟨by rfl, rfl⟩) (by assumption) ?_)
      (try simp only [Act.put, List.setIfInBounds_toArray, List.set_cons_zero, List.set_cons_succ])
      first
      | (refine wpAnyH_take (i := 6) (oi := _) (v := ?_) (getop rfl) (by kernel_rfl) (by kernel_rfl) (by kernel_rfl) (fun _ _ _ h => h) (Or.inl ⟨by rfl, ?_⟩) (by assumption) ?_; rotate_left; focus (intro w hSw; (try dsimp only at hSw); go_simp; (try with_reducible rfl); done))
      | (refine wpAnyH_take (i := 6) (oi := _) (v := undef) (getop rfl) (by kernel_rfl) (by kernel_rfl) (by kernel_rfl) (fun _ _ _ h => h) (Or.inr ⟨by rfl, rfl⟩) (by assumption) ?_)
      (try simp only [Act.put, List.setIfInBounds_toArray, List.set_cons_zero, List.set_cons_succ])
      first
      | (refine wpAnyH_take (i := 7) (oi := _) (v := ?_) (getop rfl) (by kernel_rfl) (by kernel_rfl) (by kernel_rfl) (fun _ _ _ h => h) (Or.inl ⟨by rfl, ?_⟩) (by assumption) ?_; rotate_left; focus (intro w hSw; (try dsimp only at hSw); go_simp; (try with_reducible rfl); done))
      | (refine wpAnyH_take (i := 7) (oi := _) (v := undef) (getop rfl) (by kernel_rfl) (by kernel_rfl) (by kernel_rfl) (fun _ _ _ h => h) (Or.inr ⟨by rfl, rfl⟩) (by assumption) ?_)
      (try simp only [Act.put, List.setIfInBounds_toArray, List.set_cons_zero, List.set_cons_succ])
      refine wpAnyH_ready (rs := [4]) (by kernel_rfl) (by simp) ?_
      refine AllReadyH.cons (o := _) (getop rfl) (fun K hK => ?_) AllReadyH.nil
      go_simp
      skip
      refine hK.out _ _ ?_ (fun hHeld4 => ?_)
      focus ((try dsimp only); (first | assumption | exact keep12 hb1 (by assumption) | exact keep12 hb2 (by assumption) | exact keep12 hb3 (by assumption) | exact keep12 hb4 (by assumption) | (have q := hX.facts.1; have r := hB.facts.1; have s := hC.facts.1; exact ⟨q 7, q 8, r 0, r 1, r 2, r 3, r 4, s 0, s 1, s 2, s 3, s 4, hX.lt, hB.lt, hC.lt⟩)))
      clear hK K hHeld
      have hHeld := hHeld4
      clear hHeld4
      (try simp only [Act.put, List.setIfInBounds_toArray, List.set_cons_zero, List.set_cons_succ])
      refine wpAnyH_ready (rs := [8]) (by kernel_rfl) (by simp) ?_
      refine AllReadyH.cons (o := _) (getop rfl) (fun K hK => ?_) AllReadyH.nil
      go_simp
      skip
      refine hK.out _ _ ?_ (fun hHeld8 => ?_)
      focus ((try dsimp only); (first | assumption | exact keep12 hb1 (by assumption) | exact keep12 hb2 (by assumption) | exact keep12 hb3 (by assumption) | exact keep12 hb4 (by assumption) | (have q := hX.facts.1; have r := hB.facts.1; have s := hC.facts.1; exact ⟨q 7, q 8, r 0, r 1, r 2, r 3, r 4, s 0, s 1, s 2, s 3, s 4, hX.lt, hB.lt, hC.lt⟩)))
      clear hK K hHeld
      have hHeld := hHeld8
      clear hHeld8
      (try simp only [Act.put, List.setIfInBounds_toArray, List.set_cons_zero, List.set_cons_succ])
      refine wpAnyH_ready (rs := [9]) (by kernel_rfl) (by simp) ?_
      refine AllReadyH.cons (o := _) (getop rfl) (fun K hK => ?_) AllReadyH.nil
      go_simp
      skip
      refine hK.out _ _ ?_ (fun hHeld9 => ?_)
      focus ((try dsimp only); (first | assumption | exact keep12 hb1 (by assumption) | exact keep12 hb2 (by assumption) | exact keep12 hb3 (by assumption) | exact keep12 hb4 (by assumption) | (have q := hX.facts.1; have r := hB.facts.1; have s := hC.facts.1; exact ⟨q 7, q 8, r 0, r 1, r 2, r 3, r 4, s 0, s 1, s 2, s 3, s 4, hX.lt, hB.lt, hC.lt⟩)))
      clear hK K hHeld
      have hHeld := hHeld9
      clear hHeld9
      (try simp only [Act.put, List.setIfInBounds_toArray, List.set_cons_zero, List.set_cons_succ])
      first
      | (refine wpAnyH_take (i := 10) (oi := _) (v := ?_) (getop rfl) (by kernel_rfl) (by kernel_rfl) (by kernel_rfl) (fun _ _ _ h => h) (Or.inl ⟨by rfl, ?_⟩) (by assumption) ?_; rotate_left; focus (intro w hSw; (try dsimp only at hSw); go_simp; (try with_reducible rfl); done))
      | (refine wpAnyH_take (i := 10) (oi := _) (v := undef) (getop rfl) (by kernel_rfl) (by kernel_rfl) (by kernel_rfl) (fun _ _ _ h => h) (Or.inr ⟨by rfl, rfl⟩) (by assumption) ?_)
      (try simp only [Act.put, List.setIfInBounds_toArray, List.set_cons_zero, List.set_cons_succ])
      first
      | (refine wpAnyH_take (i := 11) (oi := _) (v := ?_) (getop rfl) (by kernel_rfl) (by kernel_rfl) (by kernel_rfl) (fun _ _ _ h => h) (Or.inl ⟨by rfl, ?_⟩) (by assumption) ?_; rotate_left; focus (intro w hSw; (try dsimp only at hSw); go_simp; (try with_reducible rfl); done))
      | (refine wpAnyH_take (i := 11) (oi := _) (v := undef) (getop rfl) (by kernel_rfl) (by kernel_rfl) (by kernel_rfl) (fun _ _ _ h => h) (Or.inr ⟨by rfl, rfl⟩) (by assumption) ?_)
      (try simp only [Act.put, List.setIfInBounds_toArray, List.set_cons_zero, List.set_cons_succ])
      first
      | (refine wpAnyH_take (i := 12) (oi := _) (v := ?_) (getop rfl) (by kernel_rfl) (by kernel_rfl) (by kernel_rfl) (fun _ _ _ h => h) (Or.inl ⟨by rfl, ?_⟩) (by assumption) ?_; rotate_left; focus (intro w hSw; (try dsimp only at hSw); go_simp; (try with_reducible rfl); done))
      | (refine wpAnyH_take (i := 12) (oi := _) (v := undef) (getop rfl) (by kernel_rfl) (by kernel_rfl) (by kernel_rfl) (fun _ _ _ h => h) (Or.inr ⟨by rfl, rfl⟩) (by assumption) ?_)
      (try simp only [Act.put, List.setIfInBounds_toArray, List.set_cons_zero, List.set_cons_succ])
      first
      | (refine wpAnyH_take (i := 13) (oi := _) (v := ?_) (getop rfl) (by kernel_rfl) (by kernel_rfl) (by kernel_rfl) (fun _ _ _ h => h) (Or.inl ⟨by rfl, ?_⟩) (by assumption) ?_; rotate_left; focus (intro w hSw; (try dsimp only at hSw); go_simp; (try with_reducible rfl); done))
      | (refine wpAnyH_take (i := 13) (oi := _) (v := undef) (getop rfl) (by kernel_rfl) (by kernel_rfl) (by kernel_rfl) (fun _ _ _ h => h) (Or.inr ⟨by rfl, rfl⟩) (by assumption) ?_)
      (try simp only [Act.put, List.setIfInBounds_toArray, List.set_cons_zero, List.set_cons_succ])
      first
      | (refine wpAnyH_take (i := 14) (oi := _) (v := ?_) (getop rfl) (by kernel_rfl) (by kernel_rfl) (by kernel_rfl) (fun _ _ _ h => h) (Or.inl ⟨by rfl, ?_⟩) (by assumption) ?_; rotate_left; focus (intro w hSw; (try dsimp only at hSw); go_simp; (try with_reducible rfl); done))
      | (refine wpAnyH_take (i := 14) (oi := _) (v := undef) (getop rfl) (by kernel_rfl) (by kernel_rfl) (by kernel_rfl) (fun _ _ _ h => h) (Or.inr ⟨by rfl, rfl⟩) (by assumption) ?_)
      (try simp only [Act.put, List.setIfInBounds_toArray, List.set_cons_zero, List.set_cons_succ])
      first
      | (refine wpAnyH_take (i := 15) (oi := _) (v := ?_) (getop rfl) (by kernel_rfl) (by kernel_rfl) (by kernel_rfl) (fun _ _ _ h => h) (Or.inl ⟨by rfl, ?_⟩) (by assumption) ?_; rotate_left; focus (intro w hSw; (try dsimp only at hSw); go_simp; (try with_reducible rfl); done))
      | (refine wpAnyH_take (i := 15) (oi := _) (v := undef) (getop rfl) (by kernel_rfl) (by kernel_rfl) (by kernel_rfl) (fun _ _ _ h => h) (Or.inr ⟨by rfl, rfl⟩) (by assumption) ?_)
      (try simp only [Act.put, List.setIfInBounds_toArray, List.set_cons_zero, List.set_cons_succ])
      first
      | (refine wpAnyH_take (i := 16) (oi := _) (v := ?_) (getop rfl) (by kernel_rfl) (by kernel_rfl) (by kernel_rfl) (fun _ _ _ h => h) (Or.inl ⟨by rfl, ?_⟩) (by assumption) ?_; rotate_left; focus (intro w hSw; (try dsimp only at hSw); go_simp; (try with_reducible rfl); done))
      | (refine wpAnyH_take (i := 16) (oi := _) (v := undef) (getop rfl) (by kernel_rfl) (by kernel_rfl) (by kernel_rfl) (fun _ _ _ h => h) (Or.inr ⟨by rfl, rfl⟩) (by assumption) ?_)
      (try simp only [Act.put, List.setIfInBounds_toArray, List.set_cons_zero, List.set_cons_succ])
      first
      | (refine wpAnyH_take (i := 17) (oi := _) (v := ?_) (getop rfl) (by kernel_rfl) (by kernel_rfl) (by kernel_rfl) (fun _ _ _ h => h) (Or.inl ⟨by rfl, ?_⟩) (by assumption) ?_; rotate_left; focus (intro w hSw; (try dsimp only at hSw); go_simp; (try with_reducible rfl); done))
      | (refine wpAnyH_take (i := 17) (oi := _) (v := undef) (getop rfl) (by kernel_rfl) (by kernel_rfl) (by kernel_rfl) (fun _ _ _ h => h) (Or.inr ⟨by rfl, rfl⟩) (by assumption) ?_)
      (try simp only [Act.put, List.setIfInBounds_toArray, List.set_cons_zero, List.set_cons_succ])
      first
      | (refine wpAnyH_take (i := 18) (oi := _) (v := ?_) (getop rfl) (by kernel_rfl) (by kernel_rfl) (by kernel_rfl) (fun _ _ _ h => h) (Or.inl ⟨by rfl, ?_⟩) (by assumption) ?_; rotate_left; focus (intro w hSw; (try dsimp only at hSw); go_simp; (try with_reducible rfl); done))
      | (refine wpAnyH_take (i := 18) (oi := _) (v := undef) (getop rfl) (by kernel_rfl) (by kernel_rfl) (by kernel_rfl) (fun _ _ _ h => h) (Or.inr ⟨by rfl, rfl⟩) (by assumption) ?_)
      (try simp only [Act.put, List.setIfInBounds_toArray, List.set_cons_zero, List.set_cons_succ])
      first
      | (refine wpAnyH_take (i := 19) (oi := _) (v := ?_) (getop rfl) (by kernel_rfl) (by kernel_rfl) (by kernel_rfl) (fun _ _ _ h => h) (Or.inl ⟨by rfl, ?_⟩) (by assumption) ?_; rotate_left; focus (intro w hSw; (try dsimp only at hSw); go_simp; (try with_reducible rfl); done))
      | (refine wpAnyH_take (i := 19) (oi := _) (v := undef) (getop rfl) (by kernel_rfl) (by kernel_rfl) (by kernel_rfl) (fun _ _ _ h => h) (Or.inr ⟨by rfl, rfl⟩) (by assumption) ?_)
      (try simp only [Act.put, List.setIfInBounds_toArray, List.set_cons_zero, List.set_cons_succ])
      first
      | (refine wpAnyH_take (i := 22) (oi := _) (v := ?_) (getop rfl) (by kernel_rfl) (by kernel_rfl) (by kernel_rfl) (fun _ _ _ h => h) (Or.inl ⟨by rfl, ?_⟩) (by assumption) ?_; rotate_left; focus (intro w hSw; (try dsimp only at hSw); go_simp; (try with_reducible rfl); done))
      | (refine wpAnyH_take (i := 22) (oi := _) (v := undef) (getop rfl) (by kernel_rfl) (by kernel_rfl) (by kernel_rfl) (fun _ _ _ h => h) (Or.inr ⟨by rfl, rfl⟩) (by assumption) ?_)
      (try simp only [Act.put, List.setIfInBounds_toArray, List.set_cons_zero, List.set_cons_succ])
      first
      | (refine wpAnyH_take (i := 23) (oi := _) (v := ?_) (getop rfl) (by kernel_rfl) (by kernel_rfl) (by kernel_rfl) (fun _ _ _ h => h) (Or.inl ⟨by rfl, ?_⟩) (by assumption) ?_; rotate_left; focus (intro w hSw; (try dsimp only at hSw); go_simp; (try with_reducible rfl); done))
      | (refine wpAnyH_take (i := 23) (oi := _) (v := undef) (getop rfl) (by kernel_rfl) (by kernel_rfl) (by kernel_rfl) (fun _ _ _ h => h) (Or.inr ⟨by rfl, rfl⟩) (by assumption) ?_)
      (try simp only [Act.put, List.setIfInBounds_toArray, List.set_cons_zero, List.set_cons_succ])
      first
      | (refine wpAnyH_take (i := 24) (oi := _) (v := ?_) (getop rfl) (by kernel_rfl) (by kernel_rfl) (by kernel_rfl) (fun _ _ _ h => h) (Or.inl ⟨by rfl, ?_⟩) (by assumption) ?_; rotate_left; focus (intro w hSw; (try dsimp only at hSw); go_simp; (try with_reducible rfl); done))
      | (refine wpAnyH_take (i := 24) (oi := _) (v := undef) (getop rfl) (by kernel_rfl) (by kernel_rfl) (by kernel_rfl) (fun _ _ _ h => h) (Or.inr ⟨by rfl, rfl⟩) (by assumption) ?_)
      (try simp only [Act.put, List.setIfInBounds_toArray, List.set_cons_zero, List.set_cons_succ])
      refine wpAnyH_ready (rs := [20]) (by kernel_rfl) (by simp) ?_
      refine AllReadyH.cons (o := _) (getop rfl) (fun K hK => ?_) AllReadyH.nil
      go_simp
      (refine (HA2.out _).mono ?_; rintro e wx ⟨rfl, hb1⟩)
      refine hK.out _ _ ?_ (fun hHeld20 => ?_)
      focus ((try dsimp only); (first | assumption | exact keep12 hb1 (by assumption) | exact keep12 hb2 (by assumption) | exact keep12 hb3 (by assumption) | exact keep12 hb4 (by assumption) | (have q := hX.facts.1; have r := hB.facts.1; have s := hC.facts.1; exact ⟨q 7, q 8, r 0, r 1, r 2, r 3, r 4, s 0, s 1, s 2, s 3, s 4, hX.lt, hB.lt, hC.lt⟩)))
      clear hK K hHeld
      have hHeld := hHeld20
      clear hHeld20
      (try simp only [Act.put, List.setIfInBounds_toArray, List.set_cons_zero, List.set_cons_succ])
      refine wpAnyH_ready (rs := [21]) (by kernel_rfl) (by simp) ?_
      refine AllReadyH.cons (o := _) (getop rfl) (fun K hK => ?_) AllReadyH.nil
      go_simp
      (refine (HH2.out _).mono ?_; rintro e wx ⟨rfl, hb2⟩)
      refine hK.out _ _ ?_ (fun hHeld21 => ?_)
      focus ((try dsimp only); (first | assumption | exact keep12 hb1 (by assumption) | exact keep12 hb2 (by assumption) | exact keep12 hb3 (by assumption) | exact keep12 hb4 (by assumption) | (have q := hX.facts.1; have r := hB.facts.1; have s := hC.facts.1; exact ⟨q 7, q 8, r 0, r 1, r 2, r 3, r 4, s 0, s 1, s 2, s 3, s 4, hX.lt, hB.lt, hC.lt⟩)))
      clear hK K hHeld
      have hHeld := hHeld21
      clear hHeld21
      (try simp only [Act.put, List.setIfInBounds_toArray, List.set_cons_zero, List.set_cons_succ])
      refine wpAnyH_ready (rs := [25]) (by kernel_rfl) (by simp) ?_
      refine AllReadyH.cons (o := _) (getop rfl) (fun K hK => ?_) AllReadyH.nil
      go_simp
      (refine (HA.out _).mono ?_; rintro e wx ⟨rfl, hb3⟩)
      refine hK.out _ _ ?_ (fun hHeld25 => ?_)
      focus ((try dsimp only); (first | assumption | exact keep12 hb1 (by assumption) | exact keep12 hb2 (by assumption) | exact keep12 hb3 (by assumption) | exact keep12 hb4 (by assumption) | (have q := hX.facts.1; have r := hB.facts.1; have s := hC.facts.1; exact ⟨q 7, q 8, r 0, r 1, r 2, r 3, r 4, s 0, s 1, s 2, s 3, s 4, hX.lt, hB.lt, hC.lt⟩)))
      clear hK K hHeld
      have hHeld := hHeld25
      clear hHeld25
      (try simp only [Act.put, List.setIfInBounds_toArray, List.set_cons_zero, List.set_cons_succ])
      refine wpAnyH_ready (rs := [26]) (by kernel_rfl) (by simp) ?_
      refine AllReadyH.cons (o := _) (getop rfl) (fun K hK => ?_) AllReadyH.nil
      go_simp
      (refine (HH.out _).mono ?_; rintro e wx ⟨rfl, hb4⟩)
      refine hK.out _ _ ?_ (fun hHeld26 => ?_)
      focus ((try dsimp only); (first | assumption | exact keep12 hb1 (by assumption) | exact keep12 hb2 (by assumption) | exact keep12 hb3 (by assumption) | exact keep12 hb4 (by assumption) | (have q := hX.facts.1; have r := hB.facts.1; have s := hC.facts.1; exact ⟨q 7, q 8, r 0, r 1, r 2, r 3, r 4, s 0, s 1, s 2, s 3, s 4, hX.lt, hB.lt, hC.lt⟩)))
      clear hK K hHeld
      have hHeld := hHeld26
      clear hHeld26
      (try simp only [Act.put, List.setIfInBounds_toArray, List.set_cons_zero, List.set_cons_succ])
      first
      | (refine wpAnyH_take (i := 27) (oi := _) (v := ?_) (getop rfl) (by kernel_rfl) (by kernel_rfl) (by kernel_rfl) (fun _ _ _ h => h) (Or.inl ⟨by rfl, ?_⟩) (by assumption) ?_; rotate_left; focus (intro w hSw; (try dsimp only at hSw); go_simp; (try with_reducible rfl); done))
      | (refine wpAnyH_take (i := 27) (oi := _) (v := undef) (getop rfl) (by kernel_rfl) (by kernel_rfl) (by kernel_rfl) (fun _ _ _ h => h) (Or.inr ⟨by rfl, rfl⟩) (by assumption) ?_)
      (try simp only [Act.put, List.setIfInBounds_toArray, List.set_cons_zero, List.set_cons_succ])
      first
      | (refine wpAnyH_take (i := 28) (oi := _) (v := ?_) (getop rfl) (by kernel_rfl) (by kernel_rfl) (by kernel_rfl) (fun _ _ _ h => h) (Or.inl ⟨by rfl, ?_⟩) (by assumption) ?_; rotate_left; focus (intro w hSw; (try dsimp only at hSw); go_simp; (try with_reducible rfl); done))
      | (refine wpAnyH_take (i := 28) (oi := _) (v := undef) (getop rfl) (by kernel_rfl) (by kernel_rfl) (by kernel_rfl) (fun _ _ _ h => h) (Or.inr ⟨by rfl, rfl⟩) (by assumption) ?_)
      (try simp only [Act.put, List.setIfInBounds_toArray, List.set_cons_zero, List.set_cons_succ])
      first
      | (refine wpAnyH_take (i := 29) (oi := _) (v := ?_) (getop rfl) (by kernel_rfl) (by kernel_rfl) (by kernel_rfl) (fun _ _ _ h => h) (Or.inl ⟨by rfl, ?_⟩) (by assumption) ?_; rotate_left; focus (intro w hSw; (try dsimp only at hSw); go_simp; (try with_reducible rfl); done))
      | (refine wpAnyH_take (i := 29) (oi := _) (v := undef) (getop rfl) (by kernel_rfl) (by kernel_rfl) (by kernel_rfl) (fun _ _ _ h => h) (Or.inr ⟨by rfl, rfl⟩) (by assumption) ?_)
      (try simp only [Act.put, List.setIfInBounds_toArray, List.set_cons_zero, List.set_cons_succ])
      refine wpAnyH_done (by kernel_rfl) ?_ _
      have hL := lo_trans (lo_trans (lo_trans (lo_trans (lo_drew hL) hb1) hb2) hb3) hb4
      clear hb1 hb2 hb3 hb4
      have s1 : statusB 4 = 0 := rfl
      have s2 : codeB 4 = 1 := rfl
      go_wp2_with (first
        | (go_at_call 11; refine (status_any _ _).mono ?_; rintro e w' ⟨rfl, rfl⟩)
        | (go_at_call 13; refine (code_any _ _).mono ?_; rintro e w' ⟨rfl, rfl⟩))
      refine (awake_any _).mono ?_
      rintro e wf ⟨rfl, hb⟩
      have hM := Lib.hid (lo_trans hL hb)
      clear hb
      go_wp2_with fail
      go_ret
      exact ⟨rfl, hM.out⟩

theorem walk_ShedFates (s0_0 : Int) (s0_1 : Int) (s0_2 : Int) (s0_3 : Bool) (s0_4 : Int) (s0_5 : Int) (s0_6 : Int) (s0_7 : Int) (s0_8 : Int) (s1_0 : Int) (s1_1 : Int) (s1_2 : Int) (s1_3 : Int) (s1_4 : Int) (w : World) (w0_0 : (Lit.int .i64 s0_0).wf = true) (w0_1 : (Lit.int .i64 s0_1).wf = true) (w0_2 : (Lit.int .i64 s0_2).wf = true) (w0_4 : (Lit.int .i64 s0_4).wf = true) (w0_5 : (Lit.int .i64 s0_5).wf = true) (w0_6 : (Lit.int .i64 s0_6).wf = true) (w0_7 : (Lit.int .i64 s0_7).wf = true) (w0_8 : (Lit.int .i64 s0_8).wf = true) (w1_0 : (Lit.int .i64 s1_0).wf = true) (w1_1 : (Lit.int .i64 s1_1).wf = true) (w1_2 : (Lit.int .i64 s1_2).wf = true) (w1_3 : (Lit.int .i64 s1_3).wf = true) (w1_4 : (Lit.int .i64 s1_4).wf = true) :
    Calls Try.prog 4 #[.agg #[.int .i64 s0_0, .int .i64 s0_1, .int .i64 s0_2, .bool s0_3, .int .i64 s0_4, .int .i64 s0_5, .int .i64 s0_6, .int .i64 s0_7, .int .i64 s0_8], .agg #[.int .i64 s1_0, .int .i64 s1_1, .int .i64 s1_2, .int .i64 s1_3, .int .i64 s1_4]] w fun e w' => e = .returned (.bool true) ∧ Below w.heap.size w w' := by
  have b6 := bounds_i64 w0_6
  exact fates_walk ⟨s0_0, s0_1, s0_2, s0_3, s0_4, s0_5, s0_6, s0_7, s0_8⟩ ⟨s1_0, s1_1, s1_2, s1_3, s1_4⟩ b6.2 w
end Go.Proofs.Ytcgnoaaejaofiaa
