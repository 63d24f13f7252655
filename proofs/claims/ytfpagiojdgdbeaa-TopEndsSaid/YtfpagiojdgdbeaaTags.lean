import Derived.Test.YtfpagiojdgdbeaaPop
namespace Go.Proofs.Ytfpagiojdgdbeaa
open Go.RowKit
attribute [local go_sem ↓] Go.wp_at_zero Go.wp_at_succ

/-- A flow's tag. -/
structure Tg where
  weight : Int
  start : Int
  finish : Int
  work : Int
def Tg.ok (t : Tg) : Prop := (1 ≤ t.weight ∧ t.weight ≤ 16) ∧ (0 ≤ t.work ∧ t.work ≤ 1099511627776) ∧ (0 ≤ t.start ∧ t.start ≤ 2305843009213693952) ∧ (0 ≤ t.finish ∧ t.finish ≤ 2305843009213693952)
set_option maxHeartbeats 1600000 in
theorem tcheck_ok (wt st fi wk : Int) (w : World) (h : (Tg.mk wt st fi wk).ok) : Calls Try.prog 33 #[.agg #[.int .i64 wt, .int .i64 st, .int .i64 fi, .int .i64 wk]] w (IntPost w 0) := by
  obtain ⟨h1, h2, h3, h4⟩ := h
  have hl := Lib.hid (lo_alloc (lo_refl w) (.cells #[.int .i64 wt, .int .i64 st, .int .i64 fi, .int .i64 wk] 52))
  have H1 : Hid (∀ w0, Calls Try.prog 26 #[.int .i64 wt] w0 (BoolSame w0 true)) := Lib.hid fun w0 => by have := weight_any wt w0; rw [inB_yes h1] at this; exact this
  have H2 : Hid (∀ w0, Calls Try.prog 40 #[.int .i64 wk, .int .i64 1099511627776] w0 (BoolSame w0 true)) := Lib.hid fun w0 => by have := in_tags wk 1099511627776 w0; rw [inB_yes h2] at this; exact this
  have H3 : Hid (∀ w0, Calls Try.prog 40 #[.int .i64 st, .int .i64 2305843009213693952] w0 (BoolSame w0 true)) := Lib.hid fun w0 => by have := in_tags st 2305843009213693952 w0; rw [inB_yes h3] at this; exact this
  have H4 : Hid (∀ w0, Calls Try.prog 40 #[.int .i64 fi, .int .i64 2305843009213693952] w0 (BoolSame w0 true)) := Lib.hid fun w0 => by have := in_tags fi 2305843009213693952 w0; rw [inB_yes h4] at this; exact this
  clear h1 h2 h3 h4
  go_enter Try.func33, Try.ntmps33
  go_wp2_with fail
  refine (H1.out _).mono ?_
  rintro e w1 ⟨rfl, rfl⟩
  go_wp2_with fail
  refine (H2.out _).mono ?_
  rintro e w1 ⟨rfl, rfl⟩
  go_wp2_with fail
  refine (H3.out _).mono ?_
  rintro e w1 ⟨rfl, rfl⟩
  go_wp2_with fail
  refine (H4.out _).mono ?_
  rintro e w1 ⟨rfl, rfl⟩
  go_wp2_with fail
  go_ret
  exact ⟨rfl, hl.out⟩
/-- What work counts. -/
def chargeL (cost by_ : Int) : Int := cost * (720720 / by_)
theorem quo_le {b : Int} (h1 : 1 ≤ b) (h2 : b ≤ 16) : 45045 ≤ 720720 / b ∧ 720720 / b ≤ 720720 := by
  have : b = 1 ∨ b = 2 ∨ b = 3 ∨ b = 4 ∨ b = 5 ∨ b = 6 ∨ b = 7 ∨ b = 8 ∨ b = 9 ∨ b = 10 ∨ b = 11 ∨ b = 12 ∨ b = 13 ∨ b = 14 ∨ b = 15 ∨ b = 16 := by omega
  rcases this with rfl | rfl | rfl | rfl | rfl | rfl | rfl | rfl | rfl | rfl | rfl | rfl | rfl | rfl | rfl | rfl <;> decide
theorem charge_le {c b : Int} (h1 : 1 ≤ b) (h2 : b ≤ 16) (h3 : 0 ≤ c) : c * 45045 ≤ chargeL c b ∧ chargeL c b ≤ c * 720720 := by
  obtain ⟨q1, q2⟩ := quo_le h1 h2
  unfold chargeL
  exact ⟨Int.mul_le_mul_of_nonneg_left q1 h3, Int.mul_le_mul_of_nonneg_left q2 h3⟩
set_option maxHeartbeats 1600000 in
theorem charge_ok (cost b : Int) (w : World) (h1 : 1 ≤ b ∧ b ≤ 16) (h2 : 0 ≤ cost ∧ cost ≤ 1000) : Calls Try.prog 34 #[.int .i64 cost, .int .i64 b] w fun e w' => e = .returned (.tuple #[.int .i64 (chargeL cost b), .int .i64 0]) ∧ w = w' := by
  have H1 : Hid (∀ w0, Calls Try.prog 40 #[.int .i64 cost, .int .i64 1099511627776] w0 (BoolSame w0 true)) := Lib.hid fun w0 => by have := in_tags cost 1099511627776 w0; rw [inB_yes ⟨h2.1, by omega⟩] at this; exact this
  have H2 : Hid (∀ w0, Calls Try.prog 26 #[.int .i64 b] w0 (BoolSame w0 true)) := Lib.hid fun w0 => by have := weight_any b w0; rw [inB_yes h1] at this; exact this
  obtain ⟨q1, q2⟩ := quo_le h1.1 h1.2
  obtain ⟨q3, q4⟩ := charge_le h1.1 h1.2 h2.1
  have ht : (720720 : Int).tdiv b = 720720 / b := Int.tdiv_eq_ediv_of_nonneg (by decide)
  have hcd : chargeL cost b = cost * (720720 / b) := rfl
  rw [hcd] at q3 q4
  have hw0 : IntKind.i64.wrap (720720 / b) = 720720 / b := IntWalk.i64_in _ (by omega)
  have hw1 : IntKind.i64.wrap (cost * (720720 / b)) = cost * (720720 / b) := IntWalk.i64_in _ (by omega)
  have hb0 : ¬ b = 0 := by omega
  rw [hcd]
  clear q1 q2 q3 q4 hcd h1 h2
  go_enter Try.func34, Try.ntmps34
  go_wp2_with fail
  refine (H1.out _).mono ?_
  rintro e w1 ⟨rfl, rfl⟩
  go_wp2_with fail
  refine (H2.out _).mono ?_
  rintro e w1 ⟨rfl, rfl⟩
  go_wp2_with fail
  exact bodyPost_ret (v := .tuple #[.int .i64 (cost * (720720 / b)), .int .i64 0]) (by simp [results, Try.results34, go_sem]) rfl ⟨rfl, rfl⟩
set_option maxHeartbeats 1600000 in
theorem wake_ok (v wt st fi wk : Int) (w : World) (h : (Tg.mk wt st fi wk).ok) (hv : 0 ≤ v ∧ v ≤ 2305843009213693952) : Calls Try.prog 23 #[.int .i64 v, .agg #[.int .i64 wt, .int .i64 st, .int .i64 fi, .int .i64 wk]] w fun e w' => e = .returned (.agg #[.int .i64 wt, .int .i64 (max fi v), .int .i64 fi, .int .i64 wk]) ∧ Below w.heap.size w w' := by
  have H1 : Hid (∀ w0, Calls Try.prog 33 #[.agg #[.int .i64 wt, .int .i64 st, .int .i64 fi, .int .i64 wk]] w0 (IntPost w0 0)) := Lib.hid fun w0 => tcheck_ok wt st fi wk w0 h
  have H2 : Hid (∀ w0, Calls Try.prog 40 #[.int .i64 v, .int .i64 2305843009213693952] w0 (BoolSame w0 true)) := Lib.hid fun w0 => by have := in_tags v 2305843009213693952 w0; rw [inB_yes hv] at this; exact this
  have hT := (Blk.new w 52 #[.int .i64 wt, .int .i64 st, .int .i64 fi, .int .i64 wk]).alloc (.cells #[.int .i64 0, .int .i64 0, .int .i64 0, .int .i64 0] 52)
  have hR := Blk.new (w.alloc (.cells #[.int .i64 wt, .int .i64 st, .int .i64 fi, .int .i64 wk] 52)) 52 #[.int .i64 0, .int .i64 0, .int .i64 0, .int .i64 0]
  have hL := lo_alloc (lo_alloc (lo_refl w) (.cells #[.int .i64 wt, .int .i64 st, .int .i64 fi, .int .i64 wk] 52)) (.cells #[.int .i64 0, .int .i64 0, .int .i64 0, .int .i64 0] 52)
  simp only [World.size_alloc] at hR
  have hcs : (¬ v ≤ fi ∧ max fi v = v) ∨ (v ≤ fi ∧ max fi v = fi) := by omega
  generalize max fi v = r at hcs ⊢
  clear h hv
  obtain ⟨cT, fT⟩ := hT.facts
  go_enter Try.func23, Try.ntmps23
  go_wp2_with fail
  refine (H1.out _).mono ?_
  rintro e w1 ⟨rfl, hb⟩
  clear cT fT
  replace hT := hT.lo hb
  replace hR := hR.lo hb
  have lT := hT.lt
  have lR := hR.lt
  replace hL := lo_trans hL hb
  clear hb
  obtain ⟨cT, fT⟩ := hT.facts
  obtain ⟨cR, fR⟩ := hR.facts
  go_wp2_with fail
  refine (H2.out _).mono ?_
  rintro e w2 ⟨rfl, rfl⟩
  rcases hcs with ⟨hfv, rfl⟩ | ⟨hfv, rfl⟩
  · go_wp2_with fail
    refine bodyPost_ret (v := .agg #[.int .i64 wt, .int .i64 r, .int .i64 fi, .int .i64 wk]) (by simp [results, Try.results23, go_sem, cR] <;> rfl) rfl ⟨rfl, ?_⟩
    have hl2 := hL
    repeat' (first | with_reducible exact hl2 | with_reducible apply lo_set | (dsimp only; omega) | simp)
  · go_wp2_with fail
    refine bodyPost_ret (v := .agg #[.int .i64 wt, .int .i64 r, .int .i64 r, .int .i64 wk]) (by simp [results, Try.results23, go_sem, cR] <;> rfl) rfl ⟨rfl, ?_⟩
    have hl2 := hL
    repeat' (first | with_reducible exact hl2 | with_reducible apply lo_set | (dsimp only; omega) | simp)
set_option maxRecDepth 100000 in
set_option maxHeartbeats 3200000 in
theorem tserve_ok (v wt st fi wk cost : Int) (w : World) (h : (Tg.mk wt st fi wk).ok) (hc : 0 ≤ cost ∧ cost ≤ 1000) (hwk : wk ≤ 1000000) (hst : st ≤ 2000000000000000000) : Calls Try.prog 18 #[.int .i64 v, .agg #[.int .i64 wt, .int .i64 st, .int .i64 fi, .int .i64 wk], .int .i64 cost] w fun e w' => e = .returned (.tuple #[.int .i64 st, .agg #[.int .i64 wt, .int .i64 (st + chargeL cost wt), .int .i64 (st + chargeL cost wt), .int .i64 (wk + cost)], .int .i64 0]) ∧ Below w.heap.size w w' := by
  have H1 : Hid (∀ w0, Calls Try.prog 33 #[.agg #[.int .i64 wt, .int .i64 st, .int .i64 fi, .int .i64 wk]] w0 (IntPost w0 0)) := Lib.hid fun w0 => tcheck_ok wt st fi wk w0 h
  have H2 : Hid (∀ w0, Calls Try.prog 34 #[.int .i64 cost, .int .i64 wt] w0 fun e w' => e = .returned (.tuple #[.int .i64 (chargeL cost wt), .int .i64 0]) ∧ w0 = w') := Lib.hid fun w0 => charge_ok cost wt w0 h.1 hc
  obtain ⟨q3, q4⟩ := charge_le h.1.1 h.1.2 hc.1
  have hs0 : 0 ≤ st := h.2.2.1.1
  have hk0 : 0 ≤ wk := h.2.1.1
  generalize chargeL cost wt = c at H2 q3 q4 ⊢
  have hw1 : IntKind.i64.wrap (st + c) = st + c := IntWalk.i64_in _ (by omega)
  have hw2 : IntKind.i64.wrap (wk + cost) = wk + cost := IntWalk.i64_in _ (by omega)
  have hw3 : IntKind.i64.wrap (1099511627776 - wk) = 1099511627776 - wk := IntWalk.i64_in _ (by omega)
  have hw4 : IntKind.i64.wrap (2305843009213693952 - st) = 2305843009213693952 - st := IntWalk.i64_in _ (by omega)
  have hg1 : ¬ 1099511627776 - wk < cost := by omega
  have hg2 : ¬ 2305843009213693952 - st < c := by omega
  have hT := (Blk.new w 52 #[.int .i64 wt, .int .i64 st, .int .i64 fi, .int .i64 wk]).alloc (.cells #[.int .i64 0, .int .i64 0, .int .i64 0, .int .i64 0] 52)
  have hR := Blk.new (w.alloc (.cells #[.int .i64 wt, .int .i64 st, .int .i64 fi, .int .i64 wk] 52)) 52 #[.int .i64 0, .int .i64 0, .int .i64 0, .int .i64 0]
  have hL := lo_alloc (lo_alloc (lo_refl w) (.cells #[.int .i64 wt, .int .i64 st, .int .i64 fi, .int .i64 wk] 52)) (.cells #[.int .i64 0, .int .i64 0, .int .i64 0, .int .i64 0] 52)
  simp only [World.size_alloc] at hR
  clear h hc hwk hst q3 q4
  obtain ⟨cT, fT⟩ := hT.facts
  go_enter Try.func18, Try.ntmps18
  go_wp2_with fail
  refine (H1.out _).mono ?_
  rintro e w1 ⟨rfl, hb⟩
  clear cT fT H1
  replace hT := hT.lo hb
  replace hR := hR.lo hb
  have lT := hT.lt
  replace hL := lo_trans hL hb
  clear hb
  obtain ⟨cT, fT⟩ := hT.facts
  go_wp2_with fail
  refine (H2.out _).mono ?_
  rintro e w2 ⟨rfl, rfl⟩
  clear H2
  go_upto_region 13 with fail
  clear cT fT lT
  replace hR := ((hR.far (p := ⟨w.heap.size, 1, none⟩) (by dsimp only; omega) (.int .i64 (st + c))).far (p := ⟨w.heap.size, 2, none⟩) (by dsimp only; omega) (.int .i64 (st + c))).far (p := ⟨w.heap.size, 3, none⟩) (by dsimp only; omega) (.int .i64 (wk + cost))
  replace hL := lo_set (lo_set (lo_set hL (p := ⟨w.heap.size, 1, none⟩) (by dsimp only; omega) (.int .i64 (st + c))) (p := ⟨w.heap.size, 2, none⟩) (by dsimp only; omega) (.int .i64 (st + c))) (p := ⟨w.heap.size, 3, none⟩) (by dsimp only; omega) (.int .i64 (wk + cost))
  replace hT := ((hT.set_ 1 (.int .i64 (st + c))).set_ 2 (.int .i64 (st + c))).set_ 3 (.int .i64 (wk + cost))
  replace hT : Blk (((w1.setCell ⟨w.heap.size, 1, none⟩ (.int .i64 (st + c))).setCell ⟨w.heap.size, 2, none⟩ (.int .i64 (st + c))).setCell ⟨w.heap.size, 3, none⟩ (.int .i64 (wk + cost))) w.heap.size 52 #[.int .i64 wt, .int .i64 (st + c), .int .i64 (st + c), .int .i64 (wk + cost)] := by simpa using hT
  generalize ((w1.setCell ⟨w.heap.size, 1, none⟩ (.int .i64 (st + c))).setCell ⟨w.heap.size, 2, none⟩ (.int .i64 (st + c))).setCell ⟨w.heap.size, 3, none⟩ (.int .i64 (wk + cost)) = w3 at hT hR hL ⊢
  refine wp_region_held_drew (S := (fun W => W.cell? ⟨w.heap.size, 0, none⟩ = some (.int .i64 wt) ∧ W.cell? ⟨w.heap.size, 1, none⟩ = some (.int .i64 (st + c)) ∧ W.cell? ⟨w.heap.size, 2, none⟩ = some (.int .i64 (st + c)) ∧ W.cell? ⟨w.heap.size, 3, none⟩ = some (.int .i64 (wk + cost)) ∧ w.heap.size < W.heap.size)) (by kernel_rfl) ?_ (fun hHeld => ?_)
  focus ((try dsimp only); (have r := hT.facts.1; exact ⟨r 0, r 1, r 2, r 3, hT.lt⟩))
  replace hT : Blk w3.drew _ _ _ := hT
  replace hR : Blk w3.drew _ _ _ := hR
  replace hL := lo_drew hL
  generalize w3.drew = wd at hT hR hL hHeld ⊢
  first
  | (refine wpAnyH_take (i := 0) (oi := _) (v := ?_) (getop rfl) (by kernel_rfl) (by kernel_rfl) (by kernel_rfl) (fun _ _ _ h => h) (Or.inl ⟨by rfl, ?_⟩) (by assumption) ?_; rotate_left; focus (intro w hSw; (try dsimp only at hSw); go_simp; (try with_reducible rfl); done))
  | (refine wpAnyH_take (i := 0) (oi := _) (v := undef) (getop rfl) (by kernel_rfl) (by kernel_rfl) (by kernel_rfl) (fun _ _ _ h => h) (Or.inr ⟨by rfl, rfl⟩) (by assumption) ?_)
  (try simp only [Act.put, List.setIfInBounds_toArray, List.set_cons_zero, List.set_cons_succ])
  first
  | (refine wpAnyH_take (i := 1) (oi := _) (v := ?_) (getop rfl) (by kernel_rfl) (by kernel_rfl) (by kernel_rfl) (fun _ _ _ h => h) (Or.inl ⟨by rfl, ?_⟩) (by assumption) ?_; rotate_left; focus (intro w hSw; (try dsimp only at hSw); go_simp; (try with_reducible rfl); done))
  | (refine wpAnyH_take (i := 1) (oi := _) (v := undef) (getop rfl) (by kernel_rfl) (by kernel_rfl) (by kernel_rfl) (fun _ _ _ h => h) (Or.inr ⟨by rfl, rfl⟩) (by assumption) ?_)
  (try simp only [Act.put, List.setIfInBounds_toArray, List.set_cons_zero, List.set_cons_succ])
  first
  | (refine wpAnyH_take (i := 2) (oi := _) (v := ?_) (getop rfl) (by kernel_rfl) (by kernel_rfl) (by kernel_rfl) (fun _ _ _ h => h) (Or.inl ⟨by rfl, ?_⟩) (by assumption) ?_; rotate_left; focus (intro w hSw; (try dsimp only at hSw); go_simp; (try with_reducible rfl); done))
  | (refine wpAnyH_take (i := 2) (oi := _) (v := undef) (getop rfl) (by kernel_rfl) (by kernel_rfl) (by kernel_rfl) (fun _ _ _ h => h) (Or.inr ⟨by rfl, rfl⟩) (by assumption) ?_)
  (try simp only [Act.put, List.setIfInBounds_toArray, List.set_cons_zero, List.set_cons_succ])
  refine wpAnyH_ready (rs := [3]) (by kernel_rfl) (by simp) ?_
  refine (AllReadyH.cons (o := _) (getop rfl) (fun K hK => ?_) AllReadyH.nil)
  obtain ⟨cT, fT⟩ := hR.facts
  have lT := hR.lt
  go_simp
  clear cT fT lT
  replace hT := hT.far (p := ⟨w.heap.size + 1, 0, none⟩) (by dsimp only; omega) (.int .i64 wt)
  replace hR := hR.set_ 0 (.int .i64 wt)
  replace hL := lo_set hL (p := ⟨w.heap.size + 1, 0, none⟩) (by dsimp only; omega) (.int .i64 wt)
  replace hT := hT.far (p := ⟨w.heap.size + 1, 1, none⟩) (by dsimp only; omega) (.int .i64 (st + c))
  replace hR := hR.set_ 1 (.int .i64 (st + c))
  replace hL := lo_set hL (p := ⟨w.heap.size + 1, 1, none⟩) (by dsimp only; omega) (.int .i64 (st + c))
  replace hT := hT.far (p := ⟨w.heap.size + 1, 2, none⟩) (by dsimp only; omega) (.int .i64 (st + c))
  replace hR := hR.set_ 2 (.int .i64 (st + c))
  replace hL := lo_set hL (p := ⟨w.heap.size + 1, 2, none⟩) (by dsimp only; omega) (.int .i64 (st + c))
  replace hT := hT.far (p := ⟨w.heap.size + 1, 3, none⟩) (by dsimp only; omega) (.int .i64 (wk + cost))
  replace hR := hR.set_ 3 (.int .i64 (wk + cost))
  replace hL := lo_set hL (p := ⟨w.heap.size + 1, 3, none⟩) (by dsimp only; omega) (.int .i64 (wk + cost))
  replace hR : Blk ((((wd.setCell ⟨w.heap.size + 1, 0, none⟩ (.int .i64 wt)).setCell ⟨w.heap.size + 1, 1, none⟩ (.int .i64 (st + c))).setCell ⟨w.heap.size + 1, 2, none⟩ (.int .i64 (st + c))).setCell ⟨w.heap.size + 1, 3, none⟩ (.int .i64 (wk + cost))) (w.heap.size + 1) 52 #[.int .i64 wt, .int .i64 (st + c), .int .i64 (st + c), .int .i64 (wk + cost)] := by simpa using hR
  generalize ((((wd.setCell ⟨w.heap.size + 1, 0, none⟩ (.int .i64 wt)).setCell ⟨w.heap.size + 1, 1, none⟩ (.int .i64 (st + c))).setCell ⟨w.heap.size + 1, 2, none⟩ (.int .i64 (st + c))).setCell ⟨w.heap.size + 1, 3, none⟩ (.int .i64 (wk + cost))) = wz0 at hT hR hL ⊢
  refine hK.out _ _ ?_ (fun hHeld3 => ?_)
  focus ((try dsimp only); (have r := hT.facts.1; exact ⟨r 0, r 1, r 2, r 3, hT.lt⟩))
  clear hK K hHeld
  have hHeld := hHeld3
  clear hHeld3
  (try simp only [Act.put, List.setIfInBounds_toArray, List.set_cons_zero, List.set_cons_succ])
  first
  | (refine wpAnyH_take (i := 4) (oi := _) (v := ?_) (getop rfl) (by kernel_rfl) (by kernel_rfl) (by kernel_rfl) (fun _ _ _ h => h) (Or.inl ⟨by rfl, ?_⟩) (by assumption) ?_; rotate_left; focus (intro w hSw; (try dsimp only at hSw); go_simp; (try with_reducible rfl); done))
  | (refine wpAnyH_take (i := 4) (oi := _) (v := undef) (getop rfl) (by kernel_rfl) (by kernel_rfl) (by kernel_rfl) (fun _ _ _ h => h) (Or.inr ⟨by rfl, rfl⟩) (by assumption) ?_)
  (try simp only [Act.put, List.setIfInBounds_toArray, List.set_cons_zero, List.set_cons_succ])
  refine wpAnyH_done (by kernel_rfl) ?_ _
  obtain ⟨cR, fR⟩ := hR.facts
  go_wp2_with fail
  refine bodyPost_ret (v := .tuple #[.int .i64 st, .agg #[.int .i64 wt, .int .i64 (st + c), .int .i64 (st + c), .int .i64 (wk + cost)], .int .i64 0]) (by simp [results, Try.results18, go_sem, cR] <;> rfl) rfl ⟨rfl, hL⟩
theorem tnew_ok (b : Int) (w : World) (h : 1 ≤ b ∧ b ≤ 16) : Calls Try.prog 14 #[.int .i64 b] w fun e w' => e = .returned (.tuple #[.agg #[.int .i64 b, .int .i64 0, .int .i64 0, .int .i64 0], .int .i64 0]) ∧ Below w.heap.size w w' := by
  have H1 : Hid (∀ w0, Calls Try.prog 26 #[.int .i64 b] w0 (BoolSame w0 true)) := Lib.hid fun w0 => by have := weight_any b w0; rw [inB_yes h] at this; exact this
  have hR := Blk.new w 52 #[.int .i64 0, .int .i64 0, .int .i64 0, .int .i64 0]
  have hL := lo_alloc (lo_refl w) (.cells #[.int .i64 0, .int .i64 0, .int .i64 0, .int .i64 0] 52)
  have lR := hR.lt
  obtain ⟨cR, fR⟩ := hR.facts
  clear h
  go_enter Try.func14, Try.ntmps14
  go_wp2_with fail
  refine (H1.out _).mono ?_
  rintro e w1 ⟨rfl, rfl⟩
  go_wp2_with fail
  refine bodyPost_ret (v := .tuple #[.agg #[.int .i64 b, .int .i64 0, .int .i64 0, .int .i64 0], .int .i64 0]) (by simp [results, Try.results14, go_sem, cR] <;> rfl) rfl ⟨rfl, lo_alloc (lo_refl w) _⟩
theorem anew_ok (lim : Int) (w : World) (h : 1 ≤ lim ∧ lim ≤ 1000) : Calls Try.prog 15 #[.int .i64 lim] w fun e w' => e = .returned (.tuple #[.agg #[.int .i64 lim, .slice none 0 0], .int .i64 0]) ∧ Below w.heap.size w w' := by
  have H1 : Hid (∀ w0, Calls Try.prog 27 #[.int .i64 lim, .int .i64 1, .int .i64 1000] w0 (BoolSame w0 true)) := Lib.hid fun w0 => by have := in_aging lim 1 1000 w0; rw [inB_yes h] at this; exact this
  have hR := Blk.new w 58 #[.int .i64 0, .slice none 0 0]
  have hL := lo_alloc (lo_refl w) (.cells #[.int .i64 0, .slice none 0 0] 58)
  have lR := hR.lt
  obtain ⟨cR, fR⟩ := hR.facts
  clear h
  go_enter Try.func15, Try.ntmps15
  go_wp2_with fail
  refine (H1.out _).mono ?_
  rintro e w1 ⟨rfl, rfl⟩
  go_wp2_with fail
  refine bodyPost_ret (v := .tuple #[.agg #[.int .i64 lim, .slice none 0 0], .int .i64 0]) (by simp [results, Try.results15, go_sem, cR] <;> rfl) rfl ⟨rfl, lo_alloc (lo_refl w) _⟩
end Go.Proofs.Ytfpagiojdgdbeaa
