import Derived.Test.YtcgnoaaejaofiaaRefWait
import Derived.Deep.RegionHeld
namespace Go.Proofs.Ytcgnoaaejaofiaa
open Go.RowKit
attribute [local go_sem ↓] Go.wp_at_zero Go.wp_at_succ

set_option maxHeartbeats 1600000 in
theorem fits_ref (x : Lk) (hcap : x.cap ≤ 9223372036854775807) (w : World) :
    Calls Try.prog 10 #[.agg #[.int .i64 x.opn, .int .i64 x.told, .int .i64 x.agreed, .bool x.away, .int .i64 x.cost, .int .i64 x.backlog, .int .i64 x.cap, .int .i64 x.tick, .int .i64 x.second]] w (BoolPost w x.fits) := by
  unfold BoolPost
  by_cases c1 : 0 < x.cost
  · by_cases c2 : 0 ≤ x.backlog
    · by_cases c3 : x.backlog ≤ x.cap
      · unfold Lk.fits
        by_cases c4 : x.cost ≤ x.cap - x.backlog
        all_goals
          go_enter Try.func10, Try.ntmps10
          go_wp2_with fail
          go_ret
          exact ⟨by simp [c1, c2, c3, c4], lo_alloc (lo_refl w) _⟩
      · have e : x.fits = false := decide_eq_false (by omega)
        rw [e]
        go_enter Try.func10, Try.ntmps10
        go_wp2_with fail
        go_ret
        exact ⟨rfl, lo_alloc (lo_refl w) _⟩
    · have e : x.fits = false := decide_eq_false (by omega)
      rw [e]
      go_enter Try.func10, Try.ntmps10
      go_wp2_with fail
      go_ret
      exact ⟨rfl, lo_alloc (lo_refl w) _⟩
  · have e : x.fits = false := decide_eq_false (by omega)
    rw [e]
    go_enter Try.func10, Try.ntmps10
    go_wp2_with fail
    go_ret
    exact ⟨rfl, lo_alloc (lo_refl w) _⟩
theorem status_ref (f : Int) (w : World) : Calls Try.prog 12 #[.int .i64 f] w fun e w' => e = .returned (.int .i64 (statusB f)) ∧ w = w' := by
  have h : f = 2 ∨ f = 3 ∨ (¬ f = 2 ∧ ¬ f = 3) := by omega
  rcases h with rfl | rfl | ⟨h1, h2⟩
  · go_enter Try.func12, Try.ntmps12
    go_wp2_with fail
    go_ret
    exact ⟨rfl, rfl⟩
  · go_enter Try.func12, Try.ntmps12
    go_wp2_with fail
    go_ret
    exact ⟨rfl, rfl⟩
  · have e : statusB f = 0 := by unfold statusB; rw [if_neg h1, if_neg h2]
    rw [e]
    go_enter Try.func12, Try.ntmps12
    go_wp2_with fail
    go_ret
    exact ⟨rfl, rfl⟩
theorem code_ref (f : Int) (w : World) : Calls Try.prog 14 #[.int .i64 f] w fun e w' => e = .returned (.int .i64 (codeB f)) ∧ w = w' := by
  have h : f = 1 ∨ f = 4 ∨ (¬ f = 1 ∧ ¬ f = 4) := by omega
  rcases h with rfl | rfl | ⟨h1, h2⟩
  · go_enter Try.func14, Try.ntmps14
    go_wp2_with fail
    go_ret
    exact ⟨rfl, rfl⟩
  · go_enter Try.func14, Try.ntmps14
    go_wp2_with fail
    go_ret
    exact ⟨rfl, rfl⟩
  · have e : codeB f = 0 := by unfold codeB; rw [if_neg h1, if_neg h2]
    rw [e]
    go_enter Try.func14, Try.ntmps14
    go_wp2_with fail
    go_ret
    exact ⟨rfl, rfl⟩
theorem keep7 {W w' : World} {p q : Nat} {p7 p8 q0 q1 q2 q3 q4 : Value} (hb : Below W.heap.size W w')
    (h : W.cell? ⟨p, 7, none⟩ = some p7 ∧ W.cell? ⟨p, 8, none⟩ = some p8 ∧ W.cell? ⟨q, 0, none⟩ = some q0 ∧ W.cell? ⟨q, 1, none⟩ = some q1 ∧ W.cell? ⟨q, 2, none⟩ = some q2 ∧ W.cell? ⟨q, 3, none⟩ = some q3 ∧ W.cell? ⟨q, 4, none⟩ = some q4 ∧ p < W.heap.size ∧ q < W.heap.size) :
    w'.cell? ⟨p, 7, none⟩ = some p7 ∧ w'.cell? ⟨p, 8, none⟩ = some p8 ∧ w'.cell? ⟨q, 0, none⟩ = some q0 ∧ w'.cell? ⟨q, 1, none⟩ = some q1 ∧ w'.cell? ⟨q, 2, none⟩ = some q2 ∧ w'.cell? ⟨q, 3, none⟩ = some q3 ∧ w'.cell? ⟨q, 4, none⟩ = some q4 ∧ p < w'.heap.size ∧ q < w'.heap.size := by
  obtain ⟨h1, h2, h3, h4, h5, h6, h7, hp, hq⟩ := h
  exact ⟨(hb.cell (p := ⟨p, 7, none⟩) hp).trans h1, (hb.cell (p := ⟨p, 8, none⟩) hp).trans h2, (hb.cell (p := ⟨q, 0, none⟩) hq).trans h3, (hb.cell (p := ⟨q, 1, none⟩) hq).trans h4, (hb.cell (p := ⟨q, 2, none⟩) hq).trans h5, (hb.cell (p := ⟨q, 3, none⟩) hq).trans h6, (hb.cell (p := ⟨q, 4, none⟩) hq).trans h7, Nat.lt_of_lt_of_le hp hb.size, Nat.lt_of_lt_of_le hq hb.size⟩
def w18 (n p : Int) : Int := if n < 1 ∨ p < 1 then 0 else if n % p = 0 then n / p else n / p + 1
theorem w18_secs (n s : Int) : max 1 (w18 n (max 1 s)) = secs n s := by
  unfold w18 secs
  rw [show max s 1 = max 1 s by omega]
  obtain ⟨p, hp⟩ : ∃ p, max 1 s = p := ⟨_, rfl⟩
  have hp1 : 1 ≤ p := by omega
  rw [hp]
  by_cases c : n < 1
  · rw [if_pos (.inl c), if_pos c]
    decide
  · rw [if_neg (by omega), if_neg c]
    have d1 := Int.mul_ediv_add_emod n p
    have d2 := Int.mul_ediv_add_emod (n - 1) p
    have m1 := Int.emod_nonneg n (show p ≠ 0 by omega)
    have m2 := Int.emod_lt_of_pos n (show 0 < p by omega)
    have m3 := Int.emod_nonneg (n - 1) (show p ≠ 0 by omega)
    have m4 := Int.emod_lt_of_pos (n - 1) (show 0 < p by omega)
    have e0 : 0 ≤ n / p := Int.ediv_nonneg (by omega) (by omega)
    have e1 : 0 ≤ (n - 1) / p := Int.ediv_nonneg (by omega) (by omega)
    generalize n / p = q at *
    generalize n % p = r at *
    generalize (n - 1) / p = q1 at *
    generalize (n - 1) % p = r1 at *
    have key : ∀ a b : Int, a < b → p * a + p ≤ p * b := fun a b h => by
      have := Int.mul_le_mul_of_nonneg_left (a := a + 1) (b := b) (c := p) (by omega) (by omega)
      rw [Int.mul_add, Int.mul_one] at this
      exact this
    by_cases hr : r = 0
    · rw [if_pos hr]
      have a1 : q1 + 1 = q := by
        rcases Int.lt_trichotomy (q1 + 1) q with h | h | h
        · have := key _ _ h
          rw [Int.mul_add, Int.mul_one] at this
          omega
        · exact h
        · have := key q (q1 + 1) h
          rw [Int.mul_add, Int.mul_one] at this
          omega
      omega
    · rw [if_neg hr]
      have a1 : q1 = q := by
        rcases Int.lt_trichotomy q1 q with h | h | h
        · have := key _ _ h; omega
        · exact h
        · have := key _ _ h; omega
      omega
theorem w18_any (n p : Int) (h : n ≤ 1099511627776) (w : World) : Calls Try.prog 30 #[.int .i64 n, .int .i64 p] w fun e w' => e = .returned (.int .i64 (w18 n p)) ∧ w = w' := by
  unfold w18
  by_cases c : n < 1
  · rw [if_pos (.inl c)]
    go_enter Try.func30, Try.ntmps30
    go_wp2_with fail
    go_ret
    exact ⟨rfl, rfl⟩
  · by_cases c2 : p < 1
    · rw [if_pos (.inr c2)]
      go_enter Try.func30, Try.ntmps30
      go_wp2_with fail
      go_ret
      exact ⟨rfl, rfl⟩
    · rw [if_neg (by omega)]
      have e0 : 0 ≤ n / p := Int.ediv_nonneg (by omega) (by omega)
      have e1 : n / p ≤ n := Int.ediv_le_self _ (by omega)
      by_cases hr : n % p = 0
      · rw [if_pos hr]
        have hr' : (n % p == 0) = true := by simpa using hr
        go_enter Try.func30, Try.ntmps30
        go_wp2_with fail
        go_ret
        exact ⟨by go_num, rfl⟩
      · rw [if_neg hr]
        have hr' : (n % p == 0) = false := beq_eq_false_iff_ne.2 hr
        go_enter Try.func30, Try.ntmps30
        go_wp2_with fail
        go_ret
        exact ⟨by go_num, rfl⟩
set_option maxHeartbeats 3200000 in
theorem secs_ref (x : Lk) (b : Bk) (w : World) : Calls Try.prog 24 #[.agg #[.int .i64 b.burst, .int .i64 b.rate, .int .i64 b.per, .int .i64 b.level, .int .i64 b.now], .agg #[.int .i64 x.opn, .int .i64 x.told, .int .i64 x.agreed, .bool x.away, .int .i64 x.cost, .int .i64 x.backlog, .int .i64 x.cap, .int .i64 x.tick, .int .i64 x.second]] w (IntPost w (secs (waitB b x.tick) x.second)) := by
  rw [← w18_secs]
  have HW := Lib.hid (wait_ref b x.tick)
  have hwi := wait_in b x.tick
  generalize waitB b x.tick = n at HW hwi ⊢
  rw [show max 1 x.second = (if 1 < x.second then x.second else 1) by split <;> omega]
  have H8 := Lib.hid (w18_any n (if 1 < x.second then x.second else 1) (by omega))
  generalize w18 n (if 1 < x.second then x.second else 1) = m at H8 ⊢
  have hB := (Blk.new w 25 #[.int .i64 b.burst, .int .i64 b.rate, .int .i64 b.per, .int .i64 b.level, .int .i64 b.now]).alloc (.cells #[.int .i64 x.opn, .int .i64 x.told, .int .i64 x.agreed, .bool x.away, .int .i64 x.cost, .int .i64 x.backlog, .int .i64 x.cap, .int .i64 x.tick, .int .i64 x.second] 23)
  have hX := Blk.new (w.alloc (.cells #[.int .i64 b.burst, .int .i64 b.rate, .int .i64 b.per, .int .i64 b.level, .int .i64 b.now] 25)) 23 #[.int .i64 x.opn, .int .i64 x.told, .int .i64 x.agreed, .bool x.away, .int .i64 x.cost, .int .i64 x.backlog, .int .i64 x.cap, .int .i64 x.tick, .int .i64 x.second]
  simp only [World.size_alloc] at hX
  have hL := Lib.hid (lo_alloc (lo_alloc (lo_refl w) (.cells #[.int .i64 b.burst, .int .i64 b.rate, .int .i64 b.per, .int .i64 b.level, .int .i64 b.now] 25)) (.cells #[.int .i64 x.opn, .int .i64 x.told, .int .i64 x.agreed, .bool x.away, .int .i64 x.cost, .int .i64 x.backlog, .int .i64 x.cap, .int .i64 x.tick, .int .i64 x.second] 23))
  clear hwi
  rcases (show (m ≤ 1 ∧ ¬ 1 < m ∧ max 1 m = 1) ∨ (¬ m ≤ 1 ∧ 1 < m ∧ max 1 m = m) by omega) with ⟨hm, hm1, hm2⟩ | ⟨hm, hm1, hm2⟩
  all_goals
      rw [hm2]
      clear hm2
      go_enter Try.func24, Try.ntmps24
      go_upto_region 1 with fail
      generalize w.heap.size + 1 = gX at hX ⊢
      generalize hgb : w.heap.size = gB at hB ⊢
      generalize (w.alloc (.cells #[.int .i64 b.burst, .int .i64 b.rate, .int .i64 b.per, .int .i64 b.level, .int .i64 b.now] 25)).alloc (.cells #[.int .i64 x.opn, .int .i64 x.told, .int .i64 x.agreed, .bool x.away, .int .i64 x.cost, .int .i64 x.backlog, .int .i64 x.cap, .int .i64 x.tick, .int .i64 x.second] 23) = w1 at hX hB hL ⊢
      obtain ⟨cX, fX⟩ := hX.facts
      obtain ⟨cB, fB⟩ := hB.facts
      have lX := hX.lt
      have lB := hB.lt
      clear cX fX cB fB lX lB
      refine wp_region_held_drew (S := (fun W => W.cell? ⟨gX, 7, none⟩ = some (.int .i64 x.tick) ∧ W.cell? ⟨gX, 8, none⟩ = some (.int .i64 x.second) ∧ W.cell? ⟨gB, 0, none⟩ = some (.int .i64 b.burst) ∧ W.cell? ⟨gB, 1, none⟩ = some (.int .i64 b.rate) ∧ W.cell? ⟨gB, 2, none⟩ = some (.int .i64 b.per) ∧ W.cell? ⟨gB, 3, none⟩ = some (.int .i64 b.level) ∧ W.cell? ⟨gB, 4, none⟩ = some (.int .i64 b.now) ∧ gX < W.heap.size ∧ gB < W.heap.size)) (by kernel_rfl) ?_ (fun hHeld => ?_)
      focus (have q := hX.facts.1; have r := hB.facts.1; exact ⟨q 7, q 8, r 0, r 1, r 2, r 3, r 4, hX.lt, hB.lt⟩)
      first
      | (refine wpAnyH_take (i := 0) (oi := _) (v := ?_) (getop rfl) (by kernel_rfl) (by kernel_rfl) (by kernel_rfl) (fun _ _ _ h => h) (Or.inl ⟨by rfl, ?_⟩) (by assumption) ?_; rotate_left; focus (intro w hSw; (try dsimp only at hSw); go_simp; (try with_reducible rfl); done))
      | (refine wpAnyH_take (i := 0) (oi := _) (v := undef) (getop rfl) (by kernel_rfl) (by kernel_rfl) (by kernel_rfl) (fun _ _ _ h => h) (Or.inr ⟨by rfl, rfl⟩) (by assumption) ?_)
      (try simp only [Act.put, List.setIfInBounds_toArray, List.set_cons_zero, List.set_cons_succ])
      first
      | (refine wpAnyH_take (i := 1) (oi := _) (v := ?_) (getop rfl) (by kernel_rfl) (by kernel_rfl) (by kernel_rfl) (fun _ _ _ h => h) (Or.inl ⟨by rfl, ?_⟩) (by assumption) ?_; rotate_left; focus (intro w hSw; (try dsimp only at hSw); go_simp; (try with_reducible rfl); done))
      | (refine wpAnyH_take (i := 1) (oi := _) (v := undef) (getop rfl) (by kernel_rfl) (by kernel_rfl) (by kernel_rfl) (fun _ _ _ h => h) (Or.inr ⟨by rfl, rfl⟩) (by assumption) ?_)
      (try simp only [Act.put, List.setIfInBounds_toArray, List.set_cons_zero, List.set_cons_succ])
      first
      | (refine wpAnyH_take (i := 2) (oi := _) (v := ?_) (getop rfl) (by kernel_rfl) (by kernel_rfl) (by kernel_rfl) (fun _ _ _ h => h) (Or.inl ⟨by rfl, ?_⟩) (by assumption) ?_; rotate_left; focus (intro w hSw; (try dsimp only at hSw); go_simp; (try with_reducible rfl); done))
      | (refine wpAnyH_take (i := 2) (oi := _) (v := undef) (getop rfl) (by kernel_rfl) (by kernel_rfl) (by kernel_rfl) (fun _ _ _ h => h) (Or.inr ⟨by rfl, rfl⟩) (by assumption) ?_)
      (try simp only [Act.put, List.setIfInBounds_toArray, List.set_cons_zero, List.set_cons_succ])
      first
      | (refine wpAnyH_take (i := 4) (oi := _) (v := ?_) (getop rfl) (by kernel_rfl) (by kernel_rfl) (by kernel_rfl) (fun _ _ _ h => h) (Or.inl ⟨by rfl, ?_⟩) (by assumption) ?_; rotate_left; focus (intro w hSw; (try dsimp only at hSw); go_simp; (try with_reducible rfl); done))
      | (refine wpAnyH_take (i := 4) (oi := _) (v := undef) (getop rfl) (by kernel_rfl) (by kernel_rfl) (by kernel_rfl) (fun _ _ _ h => h) (Or.inr ⟨by rfl, rfl⟩) (by assumption) ?_)
      (try simp only [Act.put, List.setIfInBounds_toArray, List.set_cons_zero, List.set_cons_succ])
      first
      | (refine wpAnyH_take (i := 5) (oi := _) (v := ?_) (getop rfl) (by kernel_rfl) (by kernel_rfl) (by kernel_rfl) (fun _ _ _ h => h) (Or.inl ⟨by rfl, ?_⟩) (by assumption) ?_; rotate_left; focus (intro w hSw; (try dsimp only at hSw); go_simp; (try with_reducible rfl); done))
      | (refine wpAnyH_take (i := 5) (oi := _) (v := undef) (getop rfl) (by kernel_rfl) (by kernel_rfl) (by kernel_rfl) (fun _ _ _ h => h) (Or.inr ⟨by rfl, rfl⟩) (by assumption) ?_)
      (try simp only [Act.put, List.setIfInBounds_toArray, List.set_cons_zero, List.set_cons_succ])
      have hX : Blk w1.drew _ _ _ := hX
      have hB : Blk w1.drew _ _ _ := hB
      have hL := lo_drew hL.out
      generalize w1.drew = wd at *
      refine wpAnyH_ready (rs := [3, 6]) (by kernel_rfl) (by simp) ?_
      refine AllReadyH.cons (o := _) (getop rfl) (fun K hK => ?_) (AllReadyH.cons (o := _) (getop rfl) (fun K hK => ?_) AllReadyH.nil)
      · go_simp
        refine (HW.out _).mono ?_
        rintro e w4 ⟨rfl, hb4⟩
        have hX := hX.lo hb4
        have hB := hB.lo hb4
        have hL := lo_trans hL hb4
        clear hb4
        refine hK.out _ _ ?_ (fun hHeld3 => ?_)
        focus (have q := hX.facts.1; have r := hB.facts.1; exact ⟨q 7, q 8, r 0, r 1, r 2, r 3, r 4, hX.lt, hB.lt⟩)
        clear hK K hHeld
        have hHeld := hHeld3
        clear hHeld3
        (try simp only [Act.put, List.setIfInBounds_toArray, List.set_cons_zero, List.set_cons_succ])
        refine wpAnyH_ready (rs := [6]) (by kernel_rfl) (by simp) ?_
        refine AllReadyH.cons (o := _) (getop rfl) (fun K hK => ?_) AllReadyH.nil
        go_simp
        refine hK.out _ _ ?_ (fun hHeld6 => ?_)
        focus (have q := hX.facts.1; have r := hB.facts.1; exact ⟨q 7, q 8, r 0, r 1, r 2, r 3, r 4, hX.lt, hB.lt⟩)
        clear hK K hHeld
        have hHeld := hHeld6
        clear hHeld6
        (try simp only [Act.put, List.setIfInBounds_toArray, List.set_cons_zero, List.set_cons_succ])
        refine wpAnyH_ready (rs := [7]) (by kernel_rfl) (by simp) ?_
        refine AllReadyH.cons (o := _) (getop rfl) (fun K hK => ?_) AllReadyH.nil
        go_simp
        refine (H8.out _).mono ?_
        rintro e w5 ⟨rfl, rfl⟩
        refine hK.out _ _ ?_ (fun hHeld7 => ?_)
        focus (have q := hX.facts.1; have r := hB.facts.1; exact ⟨q 7, q 8, r 0, r 1, r 2, r 3, r 4, hX.lt, hB.lt⟩)
        clear hK K hHeld
        have hHeld := hHeld7
        clear hHeld7
        (try simp only [Act.put, List.setIfInBounds_toArray, List.set_cons_zero, List.set_cons_succ])
        first
        | (refine wpAnyH_take (i := 8) (oi := _) (v := ?_) (getop rfl) (by kernel_rfl) (by kernel_rfl) (by kernel_rfl) (fun _ _ _ h => h) (Or.inl ⟨by rfl, ?_⟩) (by assumption) ?_; rotate_left; focus (intro w hSw; (try dsimp only at hSw); go_simp; (try with_reducible rfl); done))
        | (refine wpAnyH_take (i := 8) (oi := _) (v := undef) (getop rfl) (by kernel_rfl) (by kernel_rfl) (by kernel_rfl) (fun _ _ _ h => h) (Or.inr ⟨by rfl, rfl⟩) (by assumption) ?_)
        (try simp only [Act.put, List.setIfInBounds_toArray, List.set_cons_zero, List.set_cons_succ])
        refine wpAnyH_done (by kernel_rfl) ?_ _
        go_wp2_with fail
        all_goals (go_ret; first | exact ⟨rfl, hL⟩ | exact ⟨by rw [show m = 1 by omega], hL⟩)
      · go_simp
        refine hK.out _ _ ?_ (fun hHeld6 => ?_)
        focus (have q := hX.facts.1; have r := hB.facts.1; exact ⟨q 7, q 8, r 0, r 1, r 2, r 3, r 4, hX.lt, hB.lt⟩)
        clear hK K hHeld
        have hHeld := hHeld6
        clear hHeld6
        (try simp only [Act.put, List.setIfInBounds_toArray, List.set_cons_zero, List.set_cons_succ])
        refine wpAnyH_ready (rs := [3]) (by kernel_rfl) (by simp) ?_
        refine AllReadyH.cons (o := _) (getop rfl) (fun K hK => ?_) AllReadyH.nil
        go_simp
        refine (HW.out _).mono ?_
        rintro e w4 ⟨rfl, hb4⟩
        have hX := hX.lo hb4
        have hB := hB.lo hb4
        have hL := lo_trans hL hb4
        clear hb4
        refine hK.out _ _ ?_ (fun hHeld3 => ?_)
        focus (have q := hX.facts.1; have r := hB.facts.1; exact ⟨q 7, q 8, r 0, r 1, r 2, r 3, r 4, hX.lt, hB.lt⟩)
        clear hK K hHeld
        have hHeld := hHeld3
        clear hHeld3
        (try simp only [Act.put, List.setIfInBounds_toArray, List.set_cons_zero, List.set_cons_succ])
        refine wpAnyH_ready (rs := [7]) (by kernel_rfl) (by simp) ?_
        refine AllReadyH.cons (o := _) (getop rfl) (fun K hK => ?_) AllReadyH.nil
        go_simp
        refine (H8.out _).mono ?_
        rintro e w5 ⟨rfl, rfl⟩
        refine hK.out _ _ ?_ (fun hHeld7 => ?_)
        focus (have q := hX.facts.1; have r := hB.facts.1; exact ⟨q 7, q 8, r 0, r 1, r 2, r 3, r 4, hX.lt, hB.lt⟩)
        clear hK K hHeld
        have hHeld := hHeld7
        clear hHeld7
        (try simp only [Act.put, List.setIfInBounds_toArray, List.set_cons_zero, List.set_cons_succ])
        first
        | (refine wpAnyH_take (i := 8) (oi := _) (v := ?_) (getop rfl) (by kernel_rfl) (by kernel_rfl) (by kernel_rfl) (fun _ _ _ h => h) (Or.inl ⟨by rfl, ?_⟩) (by assumption) ?_; rotate_left; focus (intro w hSw; (try dsimp only at hSw); go_simp; (try with_reducible rfl); done))
        | (refine wpAnyH_take (i := 8) (oi := _) (v := undef) (getop rfl) (by kernel_rfl) (by kernel_rfl) (by kernel_rfl) (fun _ _ _ h => h) (Or.inr ⟨by rfl, rfl⟩) (by assumption) ?_)
        (try simp only [Act.put, List.setIfInBounds_toArray, List.set_cons_zero, List.set_cons_succ])
        refine wpAnyH_done (by kernel_rfl) ?_ _
        go_wp2_with fail
        all_goals (go_ret; first | exact ⟨rfl, hL⟩ | exact ⟨by rw [show m = 1 by omega], hL⟩)
theorem three_ref (w : World) (x : Lk) (b : Bk) :
    Blk (((w.alloc (.cells #[.int .i64 x.opn, .int .i64 x.told, .int .i64 x.agreed, .bool x.away, .int .i64 x.cost, .int .i64 x.backlog, .int .i64 x.cap, .int .i64 x.tick, .int .i64 x.second] 23)).alloc (.cells #[.int .i64 b.burst, .int .i64 b.rate, .int .i64 b.per, .int .i64 b.level, .int .i64 b.now] 25)).alloc (.cells #[.int .i64 0, .int .i64 0, .int .i64 0, .int .i64 0, .int .i64 0] 25)) w.heap.size 23 #[.int .i64 x.opn, .int .i64 x.told, .int .i64 x.agreed, .bool x.away, .int .i64 x.cost, .int .i64 x.backlog, .int .i64 x.cap, .int .i64 x.tick, .int .i64 x.second] ∧
    Blk (((w.alloc (.cells #[.int .i64 x.opn, .int .i64 x.told, .int .i64 x.agreed, .bool x.away, .int .i64 x.cost, .int .i64 x.backlog, .int .i64 x.cap, .int .i64 x.tick, .int .i64 x.second] 23)).alloc (.cells #[.int .i64 b.burst, .int .i64 b.rate, .int .i64 b.per, .int .i64 b.level, .int .i64 b.now] 25)).alloc (.cells #[.int .i64 0, .int .i64 0, .int .i64 0, .int .i64 0, .int .i64 0] 25)) (w.heap.size + 1) 25 #[.int .i64 b.burst, .int .i64 b.rate, .int .i64 b.per, .int .i64 b.level, .int .i64 b.now] ∧
    Blk (((w.alloc (.cells #[.int .i64 x.opn, .int .i64 x.told, .int .i64 x.agreed, .bool x.away, .int .i64 x.cost, .int .i64 x.backlog, .int .i64 x.cap, .int .i64 x.tick, .int .i64 x.second] 23)).alloc (.cells #[.int .i64 b.burst, .int .i64 b.rate, .int .i64 b.per, .int .i64 b.level, .int .i64 b.now] 25)).alloc (.cells #[.int .i64 0, .int .i64 0, .int .i64 0, .int .i64 0, .int .i64 0] 25)) (w.heap.size + 1 + 1) 25 #[.int .i64 0, .int .i64 0, .int .i64 0, .int .i64 0, .int .i64 0] ∧
    Below w.heap.size w (((w.alloc (.cells #[.int .i64 x.opn, .int .i64 x.told, .int .i64 x.agreed, .bool x.away, .int .i64 x.cost, .int .i64 x.backlog, .int .i64 x.cap, .int .i64 x.tick, .int .i64 x.second] 23)).alloc (.cells #[.int .i64 b.burst, .int .i64 b.rate, .int .i64 b.per, .int .i64 b.level, .int .i64 b.now] 25)).alloc (.cells #[.int .i64 0, .int .i64 0, .int .i64 0, .int .i64 0, .int .i64 0] 25)) := by
  have hB := (Blk.new (w.alloc (.cells #[.int .i64 x.opn, .int .i64 x.told, .int .i64 x.agreed, .bool x.away, .int .i64 x.cost, .int .i64 x.backlog, .int .i64 x.cap, .int .i64 x.tick, .int .i64 x.second] 23)) 25 #[.int .i64 b.burst, .int .i64 b.rate, .int .i64 b.per, .int .i64 b.level, .int .i64 b.now]).alloc (.cells #[.int .i64 0, .int .i64 0, .int .i64 0, .int .i64 0, .int .i64 0] 25)
  have hC := Blk.new ((w.alloc (.cells #[.int .i64 x.opn, .int .i64 x.told, .int .i64 x.agreed, .bool x.away, .int .i64 x.cost, .int .i64 x.backlog, .int .i64 x.cap, .int .i64 x.tick, .int .i64 x.second] 23)).alloc (.cells #[.int .i64 b.burst, .int .i64 b.rate, .int .i64 b.per, .int .i64 b.level, .int .i64 b.now] 25)) 25 #[.int .i64 0, .int .i64 0, .int .i64 0, .int .i64 0, .int .i64 0]
  simp only [World.size_alloc] at hB hC
  exact ⟨((Blk.new w 23 #[.int .i64 x.opn, .int .i64 x.told, .int .i64 x.agreed, .bool x.away, .int .i64 x.cost, .int .i64 x.backlog, .int .i64 x.cap, .int .i64 x.tick, .int .i64 x.second]).alloc _).alloc _, hB, hC, lo_alloc (lo_alloc (lo_alloc (lo_refl w) _) _) _⟩
set_option maxRecDepth 100000 in
set_option maxHeartbeats 3200000 in
theorem rdec_4 (opn told agreed : Int) (aw : Bool) (cost backlog cap tick second : Int) (b : Bk) (hcap : cap ≤ 9223372036854775807) (w : World) (h : agreed ≤ opn) :
    Calls Try.prog 8 #[.agg #[.int .i64 opn, .int .i64 told, .int .i64 agreed, .bool aw, .int .i64 cost, .int .i64 backlog, .int .i64 cap, .int .i64 tick, .int .i64 second], .agg #[.int .i64 b.burst, .int .i64 b.rate, .int .i64 b.per, .int .i64 b.level, .int .i64 b.now]] w (DecPost w (4, b, 0)) := by
  obtain ⟨hX, hB, hR, hL0⟩ : Blk (((w.alloc (.cells #[.int .i64 opn, .int .i64 told, .int .i64 agreed, .bool aw, .int .i64 cost, .int .i64 backlog, .int .i64 cap, .int .i64 tick, .int .i64 second] 23)).alloc (.cells #[.int .i64 b.burst, .int .i64 b.rate, .int .i64 b.per, .int .i64 b.level, .int .i64 b.now] 25)).alloc (.cells #[.int .i64 0, .int .i64 0, .int .i64 0, .int .i64 0, .int .i64 0] 25)) w.heap.size 23 #[.int .i64 opn, .int .i64 told, .int .i64 agreed, .bool aw, .int .i64 cost, .int .i64 backlog, .int .i64 cap, .int .i64 tick, .int .i64 second] ∧
    Blk (((w.alloc (.cells #[.int .i64 opn, .int .i64 told, .int .i64 agreed, .bool aw, .int .i64 cost, .int .i64 backlog, .int .i64 cap, .int .i64 tick, .int .i64 second] 23)).alloc (.cells #[.int .i64 b.burst, .int .i64 b.rate, .int .i64 b.per, .int .i64 b.level, .int .i64 b.now] 25)).alloc (.cells #[.int .i64 0, .int .i64 0, .int .i64 0, .int .i64 0, .int .i64 0] 25)) (w.heap.size + 1) 25 #[.int .i64 b.burst, .int .i64 b.rate, .int .i64 b.per, .int .i64 b.level, .int .i64 b.now] ∧
    Blk (((w.alloc (.cells #[.int .i64 opn, .int .i64 told, .int .i64 agreed, .bool aw, .int .i64 cost, .int .i64 backlog, .int .i64 cap, .int .i64 tick, .int .i64 second] 23)).alloc (.cells #[.int .i64 b.burst, .int .i64 b.rate, .int .i64 b.per, .int .i64 b.level, .int .i64 b.now] 25)).alloc (.cells #[.int .i64 0, .int .i64 0, .int .i64 0, .int .i64 0, .int .i64 0] 25)) (w.heap.size + 1 + 1) 25 #[.int .i64 0, .int .i64 0, .int .i64 0, .int .i64 0, .int .i64 0] ∧
    Below w.heap.size w (((w.alloc (.cells #[.int .i64 opn, .int .i64 told, .int .i64 agreed, .bool aw, .int .i64 cost, .int .i64 backlog, .int .i64 cap, .int .i64 tick, .int .i64 second] 23)).alloc (.cells #[.int .i64 b.burst, .int .i64 b.rate, .int .i64 b.per, .int .i64 b.level, .int .i64 b.now] 25)).alloc (.cells #[.int .i64 0, .int .i64 0, .int .i64 0, .int .i64 0, .int .i64 0] 25)) := three_ref w ⟨opn, told, agreed, aw, cost, backlog, cap, tick, second⟩ b
  have hL := Lib.hid hL0
  obtain ⟨cX, fX⟩ := hX.facts
  obtain ⟨cB, fB⟩ := hB.facts
  obtain ⟨cR, fR⟩ := hR.facts
  go_enter Try.func8, Try.ntmps8
  go_upto_region 2 with fail
  go_region
  go_wp2_with fail
  refine bodyPost_ret (v := .tuple #[.int .i64 4, .agg #[.int .i64 b.burst, .int .i64 b.rate, .int .i64 b.per, .int .i64 b.level, .int .i64 b.now], .int .i64 0]) (by simp [results, Try.results8, go_sem, cR]) rfl ⟨rfl, ?_⟩
  have hl := hL.out
  repeat' (first | with_reducible exact hl | with_reducible apply lo_set | with_reducible apply lo_drew | with_reducible apply lo_alloc | with_reducible exact lo_refl _ | (show w.heap.size ≤ w.heap.size + 1 + 1; omega))
set_option maxRecDepth 100000 in
set_option maxHeartbeats 3200000 in
theorem rdec_1 (opn told agreed : Int) (aw : Bool) (cost backlog cap tick second : Int) (b : Bk) (hcap : cap ≤ 9223372036854775807) (w : World) (h : opn < agreed) (h1 : told ≤ opn) :
    Calls Try.prog 8 #[.agg #[.int .i64 opn, .int .i64 told, .int .i64 agreed, .bool aw, .int .i64 cost, .int .i64 backlog, .int .i64 cap, .int .i64 tick, .int .i64 second], .agg #[.int .i64 b.burst, .int .i64 b.rate, .int .i64 b.per, .int .i64 b.level, .int .i64 b.now]] w (DecPost w (1, b, 0)) := by
  obtain ⟨hX, hB, hR, hL0⟩ : Blk (((w.alloc (.cells #[.int .i64 opn, .int .i64 told, .int .i64 agreed, .bool aw, .int .i64 cost, .int .i64 backlog, .int .i64 cap, .int .i64 tick, .int .i64 second] 23)).alloc (.cells #[.int .i64 b.burst, .int .i64 b.rate, .int .i64 b.per, .int .i64 b.level, .int .i64 b.now] 25)).alloc (.cells #[.int .i64 0, .int .i64 0, .int .i64 0, .int .i64 0, .int .i64 0] 25)) w.heap.size 23 #[.int .i64 opn, .int .i64 told, .int .i64 agreed, .bool aw, .int .i64 cost, .int .i64 backlog, .int .i64 cap, .int .i64 tick, .int .i64 second] ∧
    Blk (((w.alloc (.cells #[.int .i64 opn, .int .i64 told, .int .i64 agreed, .bool aw, .int .i64 cost, .int .i64 backlog, .int .i64 cap, .int .i64 tick, .int .i64 second] 23)).alloc (.cells #[.int .i64 b.burst, .int .i64 b.rate, .int .i64 b.per, .int .i64 b.level, .int .i64 b.now] 25)).alloc (.cells #[.int .i64 0, .int .i64 0, .int .i64 0, .int .i64 0, .int .i64 0] 25)) (w.heap.size + 1) 25 #[.int .i64 b.burst, .int .i64 b.rate, .int .i64 b.per, .int .i64 b.level, .int .i64 b.now] ∧
    Blk (((w.alloc (.cells #[.int .i64 opn, .int .i64 told, .int .i64 agreed, .bool aw, .int .i64 cost, .int .i64 backlog, .int .i64 cap, .int .i64 tick, .int .i64 second] 23)).alloc (.cells #[.int .i64 b.burst, .int .i64 b.rate, .int .i64 b.per, .int .i64 b.level, .int .i64 b.now] 25)).alloc (.cells #[.int .i64 0, .int .i64 0, .int .i64 0, .int .i64 0, .int .i64 0] 25)) (w.heap.size + 1 + 1) 25 #[.int .i64 0, .int .i64 0, .int .i64 0, .int .i64 0, .int .i64 0] ∧
    Below w.heap.size w (((w.alloc (.cells #[.int .i64 opn, .int .i64 told, .int .i64 agreed, .bool aw, .int .i64 cost, .int .i64 backlog, .int .i64 cap, .int .i64 tick, .int .i64 second] 23)).alloc (.cells #[.int .i64 b.burst, .int .i64 b.rate, .int .i64 b.per, .int .i64 b.level, .int .i64 b.now] 25)).alloc (.cells #[.int .i64 0, .int .i64 0, .int .i64 0, .int .i64 0, .int .i64 0] 25)) := three_ref w ⟨opn, told, agreed, aw, cost, backlog, cap, tick, second⟩ b
  have hL := Lib.hid hL0
  obtain ⟨cX, fX⟩ := hX.facts
  obtain ⟨cB, fB⟩ := hB.facts
  obtain ⟨cR, fR⟩ := hR.facts
  go_enter Try.func8, Try.ntmps8
  go_upto_region 4 with fail
  go_region
  go_wp2_with fail
  refine bodyPost_ret (v := .tuple #[.int .i64 1, .agg #[.int .i64 b.burst, .int .i64 b.rate, .int .i64 b.per, .int .i64 b.level, .int .i64 b.now], .int .i64 0]) (by simp [results, Try.results8, go_sem, cR]) rfl ⟨rfl, ?_⟩
  have hl := hL.out
  repeat' (first | with_reducible exact hl | with_reducible apply lo_set | with_reducible apply lo_drew | with_reducible apply lo_alloc | with_reducible exact lo_refl _ | (show w.heap.size ≤ w.heap.size + 1 + 1; omega))
set_option maxRecDepth 100000 in
set_option maxHeartbeats 3200000 in
theorem rdec_1b (opn told agreed : Int) (cost backlog cap tick second : Int) (b : Bk) (hcap : cap ≤ 9223372036854775807) (w : World) (h : opn < agreed) (h1 : opn < told) :
    Calls Try.prog 8 #[.agg #[.int .i64 opn, .int .i64 told, .int .i64 agreed, .bool true, .int .i64 cost, .int .i64 backlog, .int .i64 cap, .int .i64 tick, .int .i64 second], .agg #[.int .i64 b.burst, .int .i64 b.rate, .int .i64 b.per, .int .i64 b.level, .int .i64 b.now]] w (DecPost w (1, b, 0)) := by
  obtain ⟨hX, hB, hR, hL0⟩ : Blk (((w.alloc (.cells #[.int .i64 opn, .int .i64 told, .int .i64 agreed, .bool true, .int .i64 cost, .int .i64 backlog, .int .i64 cap, .int .i64 tick, .int .i64 second] 23)).alloc (.cells #[.int .i64 b.burst, .int .i64 b.rate, .int .i64 b.per, .int .i64 b.level, .int .i64 b.now] 25)).alloc (.cells #[.int .i64 0, .int .i64 0, .int .i64 0, .int .i64 0, .int .i64 0] 25)) w.heap.size 23 #[.int .i64 opn, .int .i64 told, .int .i64 agreed, .bool true, .int .i64 cost, .int .i64 backlog, .int .i64 cap, .int .i64 tick, .int .i64 second] ∧
    Blk (((w.alloc (.cells #[.int .i64 opn, .int .i64 told, .int .i64 agreed, .bool true, .int .i64 cost, .int .i64 backlog, .int .i64 cap, .int .i64 tick, .int .i64 second] 23)).alloc (.cells #[.int .i64 b.burst, .int .i64 b.rate, .int .i64 b.per, .int .i64 b.level, .int .i64 b.now] 25)).alloc (.cells #[.int .i64 0, .int .i64 0, .int .i64 0, .int .i64 0, .int .i64 0] 25)) (w.heap.size + 1) 25 #[.int .i64 b.burst, .int .i64 b.rate, .int .i64 b.per, .int .i64 b.level, .int .i64 b.now] ∧
    Blk (((w.alloc (.cells #[.int .i64 opn, .int .i64 told, .int .i64 agreed, .bool true, .int .i64 cost, .int .i64 backlog, .int .i64 cap, .int .i64 tick, .int .i64 second] 23)).alloc (.cells #[.int .i64 b.burst, .int .i64 b.rate, .int .i64 b.per, .int .i64 b.level, .int .i64 b.now] 25)).alloc (.cells #[.int .i64 0, .int .i64 0, .int .i64 0, .int .i64 0, .int .i64 0] 25)) (w.heap.size + 1 + 1) 25 #[.int .i64 0, .int .i64 0, .int .i64 0, .int .i64 0, .int .i64 0] ∧
    Below w.heap.size w (((w.alloc (.cells #[.int .i64 opn, .int .i64 told, .int .i64 agreed, .bool true, .int .i64 cost, .int .i64 backlog, .int .i64 cap, .int .i64 tick, .int .i64 second] 23)).alloc (.cells #[.int .i64 b.burst, .int .i64 b.rate, .int .i64 b.per, .int .i64 b.level, .int .i64 b.now] 25)).alloc (.cells #[.int .i64 0, .int .i64 0, .int .i64 0, .int .i64 0, .int .i64 0] 25)) := three_ref w ⟨opn, told, agreed, true, cost, backlog, cap, tick, second⟩ b
  have hL := Lib.hid hL0
  obtain ⟨cX, fX⟩ := hX.facts
  obtain ⟨cB, fB⟩ := hB.facts
  obtain ⟨cR, fR⟩ := hR.facts
  go_enter Try.func8, Try.ntmps8
  go_upto_region 4 with fail
  go_region
  go_wp2_with fail
  refine bodyPost_ret (v := .tuple #[.int .i64 1, .agg #[.int .i64 b.burst, .int .i64 b.rate, .int .i64 b.per, .int .i64 b.level, .int .i64 b.now], .int .i64 0]) (by simp [results, Try.results8, go_sem, cR]) rfl ⟨rfl, ?_⟩
  have hl := hL.out
  repeat' (first | with_reducible exact hl | with_reducible apply lo_set | with_reducible apply lo_drew | with_reducible apply lo_alloc | with_reducible exact lo_refl _ | (show w.heap.size ≤ w.heap.size + 1 + 1; omega))
set_option maxRecDepth 100000 in
set_option maxHeartbeats 3200000 in
theorem rdec_3 (opn told agreed : Int) (cost backlog cap tick second : Int) (b : Bk) (hcap : cap ≤ 9223372036854775807) (w : World) (h : opn < agreed) (h1 : opn < told) (hf : Lk.fits ⟨opn, told, agreed, false, cost, backlog, cap, tick, second⟩ = false) :
    Calls Try.prog 8 #[.agg #[.int .i64 opn, .int .i64 told, .int .i64 agreed, .bool false, .int .i64 cost, .int .i64 backlog, .int .i64 cap, .int .i64 tick, .int .i64 second], .agg #[.int .i64 b.burst, .int .i64 b.rate, .int .i64 b.per, .int .i64 b.level, .int .i64 b.now]] w (DecPost w (3, b, 1)) := by
  obtain ⟨hX, hB, hR, hL0⟩ : Blk (((w.alloc (.cells #[.int .i64 opn, .int .i64 told, .int .i64 agreed, .bool false, .int .i64 cost, .int .i64 backlog, .int .i64 cap, .int .i64 tick, .int .i64 second] 23)).alloc (.cells #[.int .i64 b.burst, .int .i64 b.rate, .int .i64 b.per, .int .i64 b.level, .int .i64 b.now] 25)).alloc (.cells #[.int .i64 0, .int .i64 0, .int .i64 0, .int .i64 0, .int .i64 0] 25)) w.heap.size 23 #[.int .i64 opn, .int .i64 told, .int .i64 agreed, .bool false, .int .i64 cost, .int .i64 backlog, .int .i64 cap, .int .i64 tick, .int .i64 second] ∧
    Blk (((w.alloc (.cells #[.int .i64 opn, .int .i64 told, .int .i64 agreed, .bool false, .int .i64 cost, .int .i64 backlog, .int .i64 cap, .int .i64 tick, .int .i64 second] 23)).alloc (.cells #[.int .i64 b.burst, .int .i64 b.rate, .int .i64 b.per, .int .i64 b.level, .int .i64 b.now] 25)).alloc (.cells #[.int .i64 0, .int .i64 0, .int .i64 0, .int .i64 0, .int .i64 0] 25)) (w.heap.size + 1) 25 #[.int .i64 b.burst, .int .i64 b.rate, .int .i64 b.per, .int .i64 b.level, .int .i64 b.now] ∧
    Blk (((w.alloc (.cells #[.int .i64 opn, .int .i64 told, .int .i64 agreed, .bool false, .int .i64 cost, .int .i64 backlog, .int .i64 cap, .int .i64 tick, .int .i64 second] 23)).alloc (.cells #[.int .i64 b.burst, .int .i64 b.rate, .int .i64 b.per, .int .i64 b.level, .int .i64 b.now] 25)).alloc (.cells #[.int .i64 0, .int .i64 0, .int .i64 0, .int .i64 0, .int .i64 0] 25)) (w.heap.size + 1 + 1) 25 #[.int .i64 0, .int .i64 0, .int .i64 0, .int .i64 0, .int .i64 0] ∧
    Below w.heap.size w (((w.alloc (.cells #[.int .i64 opn, .int .i64 told, .int .i64 agreed, .bool false, .int .i64 cost, .int .i64 backlog, .int .i64 cap, .int .i64 tick, .int .i64 second] 23)).alloc (.cells #[.int .i64 b.burst, .int .i64 b.rate, .int .i64 b.per, .int .i64 b.level, .int .i64 b.now] 25)).alloc (.cells #[.int .i64 0, .int .i64 0, .int .i64 0, .int .i64 0, .int .i64 0] 25)) := three_ref w ⟨opn, told, agreed, false, cost, backlog, cap, tick, second⟩ b
  have hL := Lib.hid hL0
  obtain ⟨cX, fX⟩ := hX.facts
  obtain ⟨cB, fB⟩ := hB.facts
  obtain ⟨cR, fR⟩ := hR.facts
  have HF2 : ∀ w, Calls Try.prog 10 #[.agg #[.int .i64 opn, .int .i64 told, .int .i64 agreed, .bool false, .int .i64 cost, .int .i64 backlog, .int .i64 cap, .int .i64 tick, .int .i64 second]] w (BoolPost w false) := by
    have := fits_ref ⟨opn, told, agreed, false, cost, backlog, cap, tick, second⟩ hcap
    rw [hf] at this
    exact this
  have HF2 := Lib.hid HF2
  go_enter Try.func8, Try.ntmps8
  go_wp2_with fail
  refine (HF2.out _).mono ?_
  rintro e w1 ⟨rfl, hb⟩
  have hX := hX.lo hb
  have hB := hB.lo hb
  have hR := hR.lo hb
  have hL := Lib.hid (lo_trans hL.out hb)
  clear hb cX fX cB fB cR fR
  obtain ⟨cX, fX⟩ := hX.facts
  obtain ⟨cB, fB⟩ := hB.facts
  obtain ⟨cR, fR⟩ := hR.facts
  go_upto_region 6 with fail
  go_region
  go_wp2_with fail
  refine bodyPost_ret (v := .tuple #[.int .i64 3, .agg #[.int .i64 b.burst, .int .i64 b.rate, .int .i64 b.per, .int .i64 b.level, .int .i64 b.now], .int .i64 1]) (by simp [results, Try.results8, go_sem, cR]) rfl ⟨rfl, ?_⟩
  have hl := hL.out
  repeat' (first | with_reducible exact hl | with_reducible apply lo_set | with_reducible apply lo_drew | with_reducible apply lo_alloc | with_reducible exact lo_refl _ | (show w.heap.size ≤ w.heap.size + 1 + 1; omega))
set_option maxRecDepth 100000 in
set_option maxHeartbeats 3200000 in
theorem rdec_yes (opn told agreed : Int) (cost backlog cap tick second : Int) (b : Bk) (hcap : cap ≤ 9223372036854775807) (w : World) (h : opn < agreed) (h1 : opn < told) (hf : Lk.fits ⟨opn, told, agreed, false, cost, backlog, cap, tick, second⟩ = true) (c : Bk) (hr : takeB b tick = (c, true)) :
    Calls Try.prog 8 #[.agg #[.int .i64 opn, .int .i64 told, .int .i64 agreed, .bool false, .int .i64 cost, .int .i64 backlog, .int .i64 cap, .int .i64 tick, .int .i64 second], .agg #[.int .i64 b.burst, .int .i64 b.rate, .int .i64 b.per, .int .i64 b.level, .int .i64 b.now]] w (DecPost w (0, c, 0)) := by
  obtain ⟨hX, hB, hR, hL0⟩ : Blk (((w.alloc (.cells #[.int .i64 opn, .int .i64 told, .int .i64 agreed, .bool false, .int .i64 cost, .int .i64 backlog, .int .i64 cap, .int .i64 tick, .int .i64 second] 23)).alloc (.cells #[.int .i64 b.burst, .int .i64 b.rate, .int .i64 b.per, .int .i64 b.level, .int .i64 b.now] 25)).alloc (.cells #[.int .i64 0, .int .i64 0, .int .i64 0, .int .i64 0, .int .i64 0] 25)) w.heap.size 23 #[.int .i64 opn, .int .i64 told, .int .i64 agreed, .bool false, .int .i64 cost, .int .i64 backlog, .int .i64 cap, .int .i64 tick, .int .i64 second] ∧
    Blk (((w.alloc (.cells #[.int .i64 opn, .int .i64 told, .int .i64 agreed, .bool false, .int .i64 cost, .int .i64 backlog, .int .i64 cap, .int .i64 tick, .int .i64 second] 23)).alloc (.cells #[.int .i64 b.burst, .int .i64 b.rate, .int .i64 b.per, .int .i64 b.level, .int .i64 b.now] 25)).alloc (.cells #[.int .i64 0, .int .i64 0, .int .i64 0, .int .i64 0, .int .i64 0] 25)) (w.heap.size + 1) 25 #[.int .i64 b.burst, .int .i64 b.rate, .int .i64 b.per, .int .i64 b.level, .int .i64 b.now] ∧
    Blk (((w.alloc (.cells #[.int .i64 opn, .int .i64 told, .int .i64 agreed, .bool false, .int .i64 cost, .int .i64 backlog, .int .i64 cap, .int .i64 tick, .int .i64 second] 23)).alloc (.cells #[.int .i64 b.burst, .int .i64 b.rate, .int .i64 b.per, .int .i64 b.level, .int .i64 b.now] 25)).alloc (.cells #[.int .i64 0, .int .i64 0, .int .i64 0, .int .i64 0, .int .i64 0] 25)) (w.heap.size + 1 + 1) 25 #[.int .i64 0, .int .i64 0, .int .i64 0, .int .i64 0, .int .i64 0] ∧
    Below w.heap.size w (((w.alloc (.cells #[.int .i64 opn, .int .i64 told, .int .i64 agreed, .bool false, .int .i64 cost, .int .i64 backlog, .int .i64 cap, .int .i64 tick, .int .i64 second] 23)).alloc (.cells #[.int .i64 b.burst, .int .i64 b.rate, .int .i64 b.per, .int .i64 b.level, .int .i64 b.now] 25)).alloc (.cells #[.int .i64 0, .int .i64 0, .int .i64 0, .int .i64 0, .int .i64 0] 25)) := three_ref w ⟨opn, told, agreed, false, cost, backlog, cap, tick, second⟩ b
  have hL := Lib.hid hL0
  obtain ⟨cX, fX⟩ := hX.facts
  obtain ⟨cB, fB⟩ := hB.facts
  obtain ⟨cR, fR⟩ := hR.facts
  have HT := take_ref b tick
  rw [hr] at HT
  have HT := Lib.hid HT
  clear hr
  have HF2 : ∀ w, Calls Try.prog 10 #[.agg #[.int .i64 opn, .int .i64 told, .int .i64 agreed, .bool false, .int .i64 cost, .int .i64 backlog, .int .i64 cap, .int .i64 tick, .int .i64 second]] w (BoolPost w true) := by
    have := fits_ref ⟨opn, told, agreed, false, cost, backlog, cap, tick, second⟩ hcap
    rw [hf] at this
    exact this
  have HF2 := Lib.hid HF2
  go_enter Try.func8, Try.ntmps8
  go_wp2_with fail
  refine (HF2.out _).mono ?_
  rintro e w1 ⟨rfl, hb⟩
  have hX := hX.lo hb
  have hB := hB.lo hb
  have hR := hR.lo hb
  have hL := Lib.hid (lo_trans hL.out hb)
  clear hb cX fX cB fB cR fR
  obtain ⟨cX, fX⟩ := hX.facts
  obtain ⟨cB, fB⟩ := hB.facts
  obtain ⟨cR, fR⟩ := hR.facts
  go_wp2_with fail
  refine (HT.out _).mono ?_
  rintro e w2 ⟨rfl, hb2⟩
  have hR0lt := (hR.lo hb2).lt
  have hX := (hX.lo hb2).alloc (.cells #[.int .i64 c.burst, .int .i64 c.rate, .int .i64 c.per, .int .i64 c.level, .int .i64 c.now] 25)
  have hB := (hB.lo hb2).alloc (.cells #[.int .i64 c.burst, .int .i64 c.rate, .int .i64 c.per, .int .i64 c.level, .int .i64 c.now] 25)
  have hR := (hR.lo hb2).alloc (.cells #[.int .i64 c.burst, .int .i64 c.rate, .int .i64 c.per, .int .i64 c.level, .int .i64 c.now] 25)
  have hC := Blk.new w2 25 #[.int .i64 c.burst, .int .i64 c.rate, .int .i64 c.per, .int .i64 c.level, .int .i64 c.now]
  have hL := Lib.hid (lo_alloc (lo_trans hL.out hb2) (.cells #[.int .i64 c.burst, .int .i64 c.rate, .int .i64 c.per, .int .i64 c.level, .int .i64 c.now] 25))
  clear hb2 cX fX cB fB cR fR
  go_upto_region 10 with fail
  generalize hgc : w2.heap.size = gc at *
  generalize w2.alloc (.cells #[.int .i64 c.burst, .int .i64 c.rate, .int .i64 c.per, .int .i64 c.level, .int .i64 c.now] 25) = w3 at *
  clear hgc
  obtain ⟨cC, fC⟩ := hC.facts
  obtain ⟨cR, fR⟩ := hR.facts
  go_region
  go_wp2_with fail
  refine bodyPost_ret (v := .tuple #[.int .i64 0, .agg #[.int .i64 c.burst, .int .i64 c.rate, .int .i64 c.per, .int .i64 c.level, .int .i64 c.now], .int .i64 0]) (by simp [results, Try.results8, go_sem, cR]) rfl ⟨rfl, ?_⟩
  have hl := hL.out
  repeat' (first | with_reducible exact hl | with_reducible apply lo_set | with_reducible apply lo_drew | with_reducible apply lo_alloc | with_reducible exact lo_refl _ | (show w.heap.size ≤ w.heap.size + 1 + 1; omega))
set_option maxRecDepth 100000 in
set_option maxHeartbeats 3200000 in
theorem rdec_no (opn told agreed : Int) (cost backlog cap tick second : Int) (b : Bk) (hcap : cap ≤ 9223372036854775807) (w : World) (h : opn < agreed) (h1 : opn < told) (hf : Lk.fits ⟨opn, told, agreed, false, cost, backlog, cap, tick, second⟩ = true) (c : Bk) (hr : takeB b tick = (c, false)) (m : Int) (hm : secs (waitB b tick) second = m) :
    Calls Try.prog 8 #[.agg #[.int .i64 opn, .int .i64 told, .int .i64 agreed, .bool false, .int .i64 cost, .int .i64 backlog, .int .i64 cap, .int .i64 tick, .int .i64 second], .agg #[.int .i64 b.burst, .int .i64 b.rate, .int .i64 b.per, .int .i64 b.level, .int .i64 b.now]] w (DecPost w (2, c, m)) := by
  obtain ⟨hX, hB, hR, hL0⟩ : Blk (((w.alloc (.cells #[.int .i64 opn, .int .i64 told, .int .i64 agreed, .bool false, .int .i64 cost, .int .i64 backlog, .int .i64 cap, .int .i64 tick, .int .i64 second] 23)).alloc (.cells #[.int .i64 b.burst, .int .i64 b.rate, .int .i64 b.per, .int .i64 b.level, .int .i64 b.now] 25)).alloc (.cells #[.int .i64 0, .int .i64 0, .int .i64 0, .int .i64 0, .int .i64 0] 25)) w.heap.size 23 #[.int .i64 opn, .int .i64 told, .int .i64 agreed, .bool false, .int .i64 cost, .int .i64 backlog, .int .i64 cap, .int .i64 tick, .int .i64 second] ∧
    Blk (((w.alloc (.cells #[.int .i64 opn, .int .i64 told, .int .i64 agreed, .bool false, .int .i64 cost, .int .i64 backlog, .int .i64 cap, .int .i64 tick, .int .i64 second] 23)).alloc (.cells #[.int .i64 b.burst, .int .i64 b.rate, .int .i64 b.per, .int .i64 b.level, .int .i64 b.now] 25)).alloc (.cells #[.int .i64 0, .int .i64 0, .int .i64 0, .int .i64 0, .int .i64 0] 25)) (w.heap.size + 1) 25 #[.int .i64 b.burst, .int .i64 b.rate, .int .i64 b.per, .int .i64 b.level, .int .i64 b.now] ∧
    Blk (((w.alloc (.cells #[.int .i64 opn, .int .i64 told, .int .i64 agreed, .bool false, .int .i64 cost, .int .i64 backlog, .int .i64 cap, .int .i64 tick, .int .i64 second] 23)).alloc (.cells #[.int .i64 b.burst, .int .i64 b.rate, .int .i64 b.per, .int .i64 b.level, .int .i64 b.now] 25)).alloc (.cells #[.int .i64 0, .int .i64 0, .int .i64 0, .int .i64 0, .int .i64 0] 25)) (w.heap.size + 1 + 1) 25 #[.int .i64 0, .int .i64 0, .int .i64 0, .int .i64 0, .int .i64 0] ∧
    Below w.heap.size w (((w.alloc (.cells #[.int .i64 opn, .int .i64 told, .int .i64 agreed, .bool false, .int .i64 cost, .int .i64 backlog, .int .i64 cap, .int .i64 tick, .int .i64 second] 23)).alloc (.cells #[.int .i64 b.burst, .int .i64 b.rate, .int .i64 b.per, .int .i64 b.level, .int .i64 b.now] 25)).alloc (.cells #[.int .i64 0, .int .i64 0, .int .i64 0, .int .i64 0, .int .i64 0] 25)) := three_ref w ⟨opn, told, agreed, false, cost, backlog, cap, tick, second⟩ b
  have hL := Lib.hid hL0
  obtain ⟨cX, fX⟩ := hX.facts
  obtain ⟨cB, fB⟩ := hB.facts
  obtain ⟨cR, fR⟩ := hR.facts
  have HT := take_ref b tick
  rw [hr] at HT
  have HT := Lib.hid HT
  have HS : ∀ w, Calls Try.prog 24 #[.agg #[.int .i64 b.burst, .int .i64 b.rate, .int .i64 b.per, .int .i64 b.level, .int .i64 b.now], .agg #[.int .i64 opn, .int .i64 told, .int .i64 agreed, .bool false, .int .i64 cost, .int .i64 backlog, .int .i64 cap, .int .i64 tick, .int .i64 second]] w (IntPost w m) := by
    have := secs_ref ⟨opn, told, agreed, false, cost, backlog, cap, tick, second⟩ b
    simp only [hm] at this
    exact this
  have HS := Lib.hid HS
  clear hr hm
  have HF2 : ∀ w, Calls Try.prog 10 #[.agg #[.int .i64 opn, .int .i64 told, .int .i64 agreed, .bool false, .int .i64 cost, .int .i64 backlog, .int .i64 cap, .int .i64 tick, .int .i64 second]] w (BoolPost w true) := by
    have := fits_ref ⟨opn, told, agreed, false, cost, backlog, cap, tick, second⟩ hcap
    rw [hf] at this
    exact this
  have HF2 := Lib.hid HF2
  go_enter Try.func8, Try.ntmps8
  go_wp2_with fail
  refine (HF2.out _).mono ?_
  rintro e w1 ⟨rfl, hb⟩
  have hX := hX.lo hb
  have hB := hB.lo hb
  have hR := hR.lo hb
  have hL := Lib.hid (lo_trans hL.out hb)
  clear hb cX fX cB fB cR fR
  obtain ⟨cX, fX⟩ := hX.facts
  obtain ⟨cB, fB⟩ := hB.facts
  obtain ⟨cR, fR⟩ := hR.facts
  go_wp2_with fail
  refine (HT.out _).mono ?_
  rintro e w2 ⟨rfl, hb2⟩
  have hR0lt := (hR.lo hb2).lt
  have hX := (hX.lo hb2).alloc (.cells #[.int .i64 c.burst, .int .i64 c.rate, .int .i64 c.per, .int .i64 c.level, .int .i64 c.now] 25)
  have hB := (hB.lo hb2).alloc (.cells #[.int .i64 c.burst, .int .i64 c.rate, .int .i64 c.per, .int .i64 c.level, .int .i64 c.now] 25)
  have hR := (hR.lo hb2).alloc (.cells #[.int .i64 c.burst, .int .i64 c.rate, .int .i64 c.per, .int .i64 c.level, .int .i64 c.now] 25)
  have hC := Blk.new w2 25 #[.int .i64 c.burst, .int .i64 c.rate, .int .i64 c.per, .int .i64 c.level, .int .i64 c.now]
  have hL := Lib.hid (lo_alloc (lo_trans hL.out hb2) (.cells #[.int .i64 c.burst, .int .i64 c.rate, .int .i64 c.per, .int .i64 c.level, .int .i64 c.now] 25))
  clear hb2 cX fX cB fB cR fR
  go_upto_region 9 with fail
  have hRC : w.heap.size + 1 + 1 < w2.heap.size := by have := hR0lt; exact this
  generalize hgc : w2.heap.size = gc at *
  generalize w2.alloc (.cells #[.int .i64 c.burst, .int .i64 c.rate, .int .i64 c.per, .int .i64 c.level, .int .i64 c.now] 25) = w3 at *
  clear hgc
  obtain ⟨gR, hgR⟩ : ∃ g, g = w.heap.size + 1 + 1 := ⟨_, rfl⟩
  obtain ⟨gB, hgB⟩ : ∃ g, g = w.heap.size + 1 := ⟨_, rfl⟩
  obtain ⟨gX, hgX⟩ : ∃ g, g = w.heap.size := ⟨_, rfl⟩
  rw [← hgR] at hR hRC ⊢
  rw [← hgB] at hB ⊢
  rw [← hgX] at hX ⊢
  have n1 : gX ≠ gR := by omega
  have n2 : gB ≠ gR := by omega
  have n3 : gc ≠ gR := by omega
  have hwR : w.heap.size ≤ gR := by omega
  clear hgR hgB hgX hRC
  refine wp_region_held_drew (S := (fun W => W.cell? ⟨gX, 0, none⟩ = some (.int .i64 opn) ∧ W.cell? ⟨gX, 1, none⟩ = some (.int .i64 told) ∧ W.cell? ⟨gX, 2, none⟩ = some (.int .i64 agreed) ∧ W.cell? ⟨gX, 3, none⟩ = some (.bool false) ∧ W.cell? ⟨gX, 4, none⟩ = some (.int .i64 cost) ∧ W.cell? ⟨gX, 5, none⟩ = some (.int .i64 backlog) ∧ W.cell? ⟨gX, 6, none⟩ = some (.int .i64 cap) ∧ W.cell? ⟨gX, 7, none⟩ = some (.int .i64 tick) ∧ W.cell? ⟨gX, 8, none⟩ = some (.int .i64 second) ∧ W.cell? ⟨gB, 0, none⟩ = some (.int .i64 b.burst) ∧ W.cell? ⟨gB, 1, none⟩ = some (.int .i64 b.rate) ∧ W.cell? ⟨gB, 2, none⟩ = some (.int .i64 b.per) ∧ W.cell? ⟨gB, 3, none⟩ = some (.int .i64 b.level) ∧ W.cell? ⟨gB, 4, none⟩ = some (.int .i64 b.now) ∧ W.cell? ⟨gc, 0, none⟩ = some (.int .i64 c.burst) ∧ W.cell? ⟨gc, 1, none⟩ = some (.int .i64 c.rate) ∧ W.cell? ⟨gc, 2, none⟩ = some (.int .i64 c.per) ∧ W.cell? ⟨gc, 3, none⟩ = some (.int .i64 c.level) ∧ W.cell? ⟨gc, 4, none⟩ = some (.int .i64 c.now) ∧ gX < W.heap.size ∧ gB < W.heap.size ∧ gc < W.heap.size)) (by kernel_rfl) ?_ (fun hHeld => ?_)
  focus (have q := hX.facts.1; have r := hB.facts.1; have s := hC.facts.1; exact ⟨q 0, q 1, q 2, q 3, q 4, q 5, q 6, q 7, q 8, r 0, r 1, r 2, r 3, r 4, s 0, s 1, s 2, s 3, s 4, hX.lt, hB.lt, hC.lt⟩)
  first
  | (refine wpAnyH_take (i := 0) (oi := _) (v := ?_) (getop rfl) (by kernel_rfl) (by kernel_rfl) (by kernel_rfl) (fun _ _ _ h => h) (Or.inl ⟨by rfl, ?_⟩) (by assumption) ?_; rotate_left; focus (intro w hSw; (try dsimp only at hSw); go_simp; (try with_reducible rfl); done))
  | (refine wpAnyH_take (i := 0) (oi := _) (v := undef) (getop rfl) (by kernel_rfl) (by kernel_rfl) (by kernel_rfl) (fun _ _ _ h => h) (Or.inr ⟨by rfl, rfl⟩) (by assumption) ?_)
  (try simp only [Act.put, List.setIfInBounds_toArray, List.set_cons_zero, List.set_cons_succ])
  first
  | (refine wpAnyH_take (i := 1) (oi := _) (v := ?_) (getop rfl) (by kernel_rfl) (by kernel_rfl) (by kernel_rfl) (fun _ _ _ h => h) (Or.inl ⟨by rfl, ?_⟩) (by assumption) ?_; rotate_left; focus (intro w hSw; (try dsimp only at hSw); go_simp; (try with_reducible rfl); done))
  | (refine wpAnyH_take (i := 1) (oi := _) (v := undef) (getop rfl) (by kernel_rfl) (by kernel_rfl) (by kernel_rfl) (fun _ _ _ h => h) (Or.inr ⟨by rfl, rfl⟩) (by assumption) ?_)
  (try simp only [Act.put, List.setIfInBounds_toArray, List.set_cons_zero, List.set_cons_succ])
  first
  | (refine wpAnyH_take (i := 2) (oi := _) (v := ?_) (getop rfl) (by kernel_rfl) (by kernel_rfl) (by kernel_rfl) (fun _ _ _ h => h) (Or.inl ⟨by rfl, ?_⟩) (by assumption) ?_; rotate_left; focus (intro w hSw; (try dsimp only at hSw); go_simp; (try with_reducible rfl); done))
  | (refine wpAnyH_take (i := 2) (oi := _) (v := undef) (getop rfl) (by kernel_rfl) (by kernel_rfl) (by kernel_rfl) (fun _ _ _ h => h) (Or.inr ⟨by rfl, rfl⟩) (by assumption) ?_)
  (try simp only [Act.put, List.setIfInBounds_toArray, List.set_cons_zero, List.set_cons_succ])
  have hX : Blk w3.drew _ _ _ := hX
  have hB : Blk w3.drew _ _ _ := hB
  have hC : Blk w3.drew _ _ _ := hC
  have hR : Blk w3.drew _ _ _ := hR
  have hL := lo_drew hL.out
  generalize w3.drew = wd at *
  refine wpAnyH_ready (rs := [3]) (by kernel_rfl) (by simp) ?_
  refine AllReadyH.cons (o := _) (getop rfl) (fun K hK => ?_) AllReadyH.nil
  go_simp
  refine (HS.out _).mono ?_
  rintro e w4 ⟨rfl, hb4⟩
  have hX := hX.lo hb4
  have hB := hB.lo hb4
  have hC := hC.lo hb4
  have hR := hR.lo hb4
  have hL := lo_trans hL hb4
  clear hb4
  refine hK.out _ _ ?_ (fun hHeld3 => ?_)
  focus (have q := hX.facts.1; have r := hB.facts.1; have s := hC.facts.1; exact ⟨q 0, q 1, q 2, q 3, q 4, q 5, q 6, q 7, q 8, r 0, r 1, r 2, r 3, r 4, s 0, s 1, s 2, s 3, s 4, hX.lt, hB.lt, hC.lt⟩)
  clear hK K hHeld
  have hHeld := hHeld3
  clear hHeld3
  (try simp only [Act.put, List.setIfInBounds_toArray, List.set_cons_zero, List.set_cons_succ])
  first
  | (refine wpAnyH_take (i := 4) (oi := _) (v := ?_) (getop rfl) (by kernel_rfl) (by kernel_rfl) (by kernel_rfl) (fun _ _ _ h => h) (Or.inl ⟨by rfl, ?_⟩) (by assumption) ?_; rotate_left; focus (intro w hSw; (try dsimp only at hSw); go_simp; (try with_reducible rfl); done))
  | (refine wpAnyH_take (i := 4) (oi := _) (v := undef) (getop rfl) (by kernel_rfl) (by kernel_rfl) (by kernel_rfl) (fun _ _ _ h => h) (Or.inr ⟨by rfl, rfl⟩) (by assumption) ?_)
  (try simp only [Act.put, List.setIfInBounds_toArray, List.set_cons_zero, List.set_cons_succ])
  refine wpAnyH_ready (rs := [5]) (by kernel_rfl) (by simp) ?_
  refine AllReadyH.cons (o := _) (getop rfl) (fun K hK => ?_) AllReadyH.nil
  obtain ⟨cR, fR⟩ := hR.facts
  have lR := hR.lt
  go_simp
  clear cR fR
  have hX := far5 hX n1 (.int .i64 c.burst) (.int .i64 c.rate) (.int .i64 c.per) (.int .i64 c.level) (.int .i64 c.now)
  have hB := far5 hB n2 (.int .i64 c.burst) (.int .i64 c.rate) (.int .i64 c.per) (.int .i64 c.level) (.int .i64 c.now)
  have hC := far5 hC n3 (.int .i64 c.burst) (.int .i64 c.rate) (.int .i64 c.per) (.int .i64 c.level) (.int .i64 c.now)
  have hR := put5 hR (.int .i64 c.burst) (.int .i64 c.rate) (.int .i64 c.per) (.int .i64 c.level) (.int .i64 c.now)
  have hL := lo5 hL hwR (.int .i64 c.burst) (.int .i64 c.rate) (.int .i64 c.per) (.int .i64 c.level) (.int .i64 c.now)
  refine hK.out _ _ ?_ (fun hHeld5 => ?_)
  focus (have q := hX.facts.1; have r := hB.facts.1; have s := hC.facts.1; exact ⟨q 0, q 1, q 2, q 3, q 4, q 5, q 6, q 7, q 8, r 0, r 1, r 2, r 3, r 4, s 0, s 1, s 2, s 3, s 4, hX.lt, hB.lt, hC.lt⟩)
  clear hK K hHeld
  have hHeld := hHeld5
  clear hHeld5
  (try simp only [Act.put, List.setIfInBounds_toArray, List.set_cons_zero, List.set_cons_succ])
  first
  | (refine wpAnyH_take (i := 6) (oi := _) (v := ?_) (getop rfl) (by kernel_rfl) (by kernel_rfl) (by kernel_rfl) (fun _ _ _ h => h) (Or.inl ⟨by rfl, ?_⟩) (by assumption) ?_; rotate_left; focus (intro w hSw; (try dsimp only at hSw); go_simp; (try with_reducible rfl); done))
  | (refine wpAnyH_take (i := 6) (oi := _) (v := undef) (getop rfl) (by kernel_rfl) (by kernel_rfl) (by kernel_rfl) (fun _ _ _ h => h) (Or.inr ⟨by rfl, rfl⟩) (by assumption) ?_)
  (try simp only [Act.put, List.setIfInBounds_toArray, List.set_cons_zero, List.set_cons_succ])
  refine wpAnyH_done (by kernel_rfl) ?_ _
  obtain ⟨cR, fR⟩ := hR.facts
  have HL := Lib.hid hL
  clear hX hB hC hL
  go_wp2_with fail
  refine bodyPost_ret (v := .tuple #[.int .i64 2, .agg #[.int .i64 c.burst, .int .i64 c.rate, .int .i64 c.per, .int .i64 c.level, .int .i64 c.now], .int .i64 m]) (by simp [results, Try.results8, go_sem, cR]) rfl ⟨rfl, ?_⟩
  exact HL.out
theorem decide_ref (x : Lk) (b : Bk) (hcap : x.cap ≤ 9223372036854775807) (w : World) :
    Calls Try.prog 8 #[.agg #[.int .i64 x.opn, .int .i64 x.told, .int .i64 x.agreed, .bool x.away, .int .i64 x.cost, .int .i64 x.backlog, .int .i64 x.cap, .int .i64 x.tick, .int .i64 x.second], .agg #[.int .i64 b.burst, .int .i64 b.rate, .int .i64 b.per, .int .i64 b.level, .int .i64 b.now]] w (DecPost w (decB x b)) := by
  unfold decB
  rcases ahead_cases x with ⟨h, h1⟩ | ⟨h, h1, h2⟩ | ⟨h, h1, h2, h3, h4⟩ | ⟨h, h1, h2, h3, h4⟩
  · rw [h, if_neg (by decide), if_neg (by decide)]
    exact rdec_4 x.opn x.told x.agreed x.away x.cost x.backlog x.cap x.tick x.second b hcap w h1
  · rw [h, if_neg (by decide), if_neg (by decide)]
    by_cases h3 : x.told ≤ x.opn
    · exact rdec_1 x.opn x.told x.agreed x.away x.cost x.backlog x.cap x.tick x.second b hcap w h1 h3
    · rw [h2.resolve_right h3]
      exact rdec_1b x.opn x.told x.agreed x.cost x.backlog x.cap x.tick x.second b hcap w h1 (by omega)
  · rw [h, if_neg (by decide), if_pos rfl]
    rw [h2]
    exact rdec_3 x.opn x.told x.agreed x.cost x.backlog x.cap x.tick x.second b hcap w h1 h3 (by have h5 := h4; simp only [Lk.fits] at h5 ⊢; exact h5)
  · rw [h, if_pos rfl]
    cases hr : (takeB b x.tick).2
    · rw [if_neg (by simp)]
      rw [h2]
      exact rdec_no x.opn x.told x.agreed x.cost x.backlog x.cap x.tick x.second b hcap w h1 h3 (by have h5 := h4; simp only [Lk.fits] at h5 ⊢; exact h5) _ (by rw [← hr]) _ rfl
    · rw [if_pos rfl]
      rw [h2]
      exact rdec_yes x.opn x.told x.agreed x.cost x.backlog x.cap x.tick x.second b hcap w h1 h3 (by have h5 := h4; simp only [Lk.fits] at h5 ⊢; exact h5) _ (by rw [← hr])
end Go.Proofs.Ytcgnoaaejaofiaa
