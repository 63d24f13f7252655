import Derived.Test.YthjciimodemfpaaRefPairs
namespace Go.Proofs.Ythjciimodemfpaa
open Go.RowKit
attribute [local go_sem ↓] Go.wp_at_zero Go.wp_at_succ

def AwakePost (w : World) (e : Ending) (w' : World) : Prop := e = .returned (.bool true) ∧ Below w.heap.size w w'
theorem ap_1 : applyL (Vs.mk 4096 1 4294967295 65535 16384 4294967295) [(3, 100), (99, 1), (3, 7)] = ((Vs.mk 4096 1 7 65535 16384 4294967295), 0) := by kernel_rfl
theorem ap_2 : applyL (Vs.mk 4096 1 7 65535 16384 4294967295) [(1, 5), (4, 2147483648)] = ((Vs.mk 4096 1 7 65535 16384 4294967295), 3) := by kernel_rfl
theorem ap_3 : applyL (Vs.mk 4096 1 7 65535 16384 4294967295) [(2, 2)] = ((Vs.mk 4096 1 7 65535 16384 4294967295), 1) := by kernel_rfl
theorem pr_1 : pairsL (Vs.mk 4096 1 4294967295 65535 16384 4294967295) (Vs.mk 4096 1 7 65535 16384 4294967295) = [(3, 7)] := by kernel_rfl
theorem er_1 : (Vs.mk 4096 1 7 65535 16384 4294967295).err = 0 := by kernel_rfl
theorem er_2 : (Vs.mk 0 0 0 0 0 0).err = 8 := by kernel_rfl
theorem own_one {w : World} {base : Nat} {u x y : Value} (h : w.ownsRow base 47 2 u 1 [x, y]) : ∃ g cap, u = .slice (some ⟨g, 0, none⟩) 1 cap ∧ g < w.heap.size ∧ w.cell? ⟨g, 0, none⟩ = some x ∧ w.cell? ⟨g, 1, none⟩ = some y := by
  have hh := h
  rcases h.2 with ⟨_, hn⟩ | ⟨g, cap, cur, rfl, hb, he, hnc, _⟩
  · omega
  · refine ⟨g, cap, rfl, ?_, hh.cellAt 0 (by decide), hh.cellAt 1 (by decide)⟩
    rcases Nat.lt_or_ge g w.heap.size with hlt | hge
    · exact hlt
    · rw [Array.getElem?_eq_none hge] at he; cases he
theorem lit_1 (w : World) : Prs (w.alloc (.cells #[.int .u16 3, .int .u32 100, .int .u16 99, .int .u32 1, .int .u16 3, .int .u32 7] 47)) (some ⟨w.heap.size, 0, none⟩) 3 3 [(3, 100), (99, 1), (3, 7)] := prs_blk (l := [(3, 100), (99, 1), (3, 7)]) (Blk.new w 47 #[.int .u16 3, .int .u32 100, .int .u16 99, .int .u32 1, .int .u16 3, .int .u32 7]) (by decide) (by unfold wfP; decide)
theorem lit_2 (w : World) : Prs (w.alloc (.cells #[.int .u16 1, .int .u32 5, .int .u16 4, .int .u32 2147483648] 47)) (some ⟨w.heap.size, 0, none⟩) 2 2 [(1, 5), (4, 2147483648)] := prs_blk (l := [(1, 5), (4, 2147483648)]) (Blk.new w 47 #[.int .u16 1, .int .u32 5, .int .u16 4, .int .u32 2147483648]) (by decide) (by unfold wfP; decide)
theorem lit_3 (w : World) : Prs (w.alloc (.cells #[.int .u16 2, .int .u32 2] 47)) (some ⟨w.heap.size, 0, none⟩) 1 1 [(2, 2)] := prs_blk (l := [(2, 2)]) (Blk.new w 47 #[.int .u16 2, .int .u32 2]) (by decide) (by unfold wfP; decide)
set_option maxRecDepth 100000 in
set_option maxHeartbeats 6400000 in
theorem awake_any (w : World) : Calls Try.prog 7 #[] w (AwakePost w) := by
  have H1 : Hid (∀ w0, Calls Try.prog 12 #[] w0 fun e w' => e = .returned (.agg #[.int .i64 4096, .int .i64 1, .int .i64 4294967295, .int .i64 65535, .int .i64 16384, .int .i64 4294967295]) ∧ Below w0.heap.size w0 w') := first_any
  have H2 : Hid (∀ w0 : World, Calls Try.prog 8 #[.agg #[.int .i64 4096, .int .i64 1, .int .i64 4294967295, .int .i64 65535, .int .i64 16384, .int .i64 4294967295], .slice (some ⟨w0.heap.size, 0, none⟩) 3 3] (w0.alloc (.cells #[.int .u16 3, .int .u32 100, .int .u16 99, .int .u32 1, .int .u16 3, .int .u32 7] 47)) (ApplyPost (w0.alloc (.cells #[.int .u16 3, .int .u32 100, .int .u16 99, .int .u32 1, .int .u16 3, .int .u32 7] 47)) .u32 ((Vs.mk 4096 1 7 65535 16384 4294967295), 0))) := Lib.hid fun w0 => by
    have := apply_any (Vs.mk 4096 1 4294967295 65535 16384 4294967295) _ 3 3 _ _ (lit_1 w0)
    rw [ap_1] at this
    exact this
  have H3 : Hid (∀ w0 : World, Calls Try.prog 8 #[.agg #[.int .i64 4096, .int .i64 1, .int .i64 7, .int .i64 65535, .int .i64 16384, .int .i64 4294967295], .slice (some ⟨w0.heap.size, 0, none⟩) 2 2] (w0.alloc (.cells #[.int .u16 1, .int .u32 5, .int .u16 4, .int .u32 2147483648] 47)) (ApplyPost (w0.alloc (.cells #[.int .u16 1, .int .u32 5, .int .u16 4, .int .u32 2147483648] 47)) .u32 ((Vs.mk 4096 1 7 65535 16384 4294967295), 3))) := Lib.hid fun w0 => by
    have := apply_any (Vs.mk 4096 1 7 65535 16384 4294967295) _ 2 2 _ _ (lit_2 w0)
    rw [ap_2] at this
    exact this
  have H4 : Hid (∀ w0 : World, Calls Try.prog 8 #[.agg #[.int .i64 4096, .int .i64 1, .int .i64 7, .int .i64 65535, .int .i64 16384, .int .i64 4294967295], .slice (some ⟨w0.heap.size, 0, none⟩) 1 1] (w0.alloc (.cells #[.int .u16 2, .int .u32 2] 47)) (ApplyPost (w0.alloc (.cells #[.int .u16 2, .int .u32 2] 47)) .u32 ((Vs.mk 4096 1 7 65535 16384 4294967295), 1))) := Lib.hid fun w0 => by
    have := apply_any (Vs.mk 4096 1 7 65535 16384 4294967295) _ 1 1 _ _ (lit_3 w0)
    rw [ap_3] at this
    exact this
  have H5 : Hid (∀ w0 : World, Calls Try.prog 15 #[.agg #[.int .i64 4096, .int .i64 1, .int .i64 4294967295, .int .i64 65535, .int .i64 16384, .int .i64 4294967295], .agg #[.int .i64 4096, .int .i64 1, .int .i64 7, .int .i64 65535, .int .i64 16384, .int .i64 4294967295]] w0 (PairsPost w0 [(3, 7)])) := Lib.hid fun w0 => by
    have := pairs_any 4096 1 4294967295 65535 16384 4294967295 4096 1 7 65535 16384 4294967295 w0
    rw [pr_1] at this
    exact this
  have H6 : Hid (∀ w0 : World, Calls Try.prog 17 #[.int .i64 5] w0 (OwnPost w0 5)) := own_any 5
  have H7 : Hid (∀ w0 : World, Calls Try.prog 10 #[.agg #[.int .i64 4096, .int .i64 1, .int .i64 7, .int .i64 65535, .int .i64 16384, .int .i64 4294967295]] w0 (IntPost w0 0)) := Lib.hid fun w0 => by
    have := check_any (Vs.mk 4096 1 7 65535 16384 4294967295) w0
    rw [er_1] at this
    exact this
  have H8 : Hid (∀ w0 : World, Calls Try.prog 10 #[.agg #[.int .i64 0, .int .i64 0, .int .i64 0, .int .i64 0, .int .i64 0, .int .i64 0]] w0 (IntPost w0 8)) := Lib.hid fun w0 => by
    have := check_any (Vs.mk 0 0 0 0 0 0) w0
    rw [er_2] at this
    exact this
  go_enter Try.func7, Try.ntmps7
  go_wp2_with fail
  refine (H1.out _).mono ?_
  rintro e w1 ⟨rfl, hb⟩
  have hL := Lib.hid hb
  clear hb
  go_wp2_with fail
  refine (H2.out w1).mono ?_
  rintro e w2 ⟨rfl, hb⟩
  replace hL := Lib.hid (lo_alloc (lo_trans (lo_alloc hL.out (.cells #[.int .u16 3, .int .u32 100, .int .u16 99, .int .u32 1, .int .u16 3, .int .u32 7] 47)) hb) (.cells #[.int .i64 4096, .int .i64 1, .int .i64 7, .int .i64 65535, .int .i64 16384, .int .i64 4294967295] 26))
  have hA := Blk.new w2 26 #[.int .i64 4096, .int .i64 1, .int .i64 7, .int .i64 65535, .int .i64 16384, .int .i64 4294967295]
  clear hb
  go_upto_region 2 with fail
  generalize w2.heap.size = g1 at hA ⊢
  generalize w2.alloc (.cells #[.int .i64 4096, .int .i64 1, .int .i64 7, .int .i64 65535, .int .i64 16384, .int .i64 4294967295] 26) = w3 at hA hL ⊢
  obtain ⟨cA, fA⟩ := hA.facts
  have lA := hA.lt
  go_wp2_with fail
  refine (H3.out w3).mono ?_
  rintro e w4 ⟨rfl, hb⟩
  clear cA fA lA
  replace hA := ((hA.alloc (.cells #[.int .u16 1, .int .u32 5, .int .u16 4, .int .u32 2147483648] 47)).lo hb).alloc (.cells #[.int .i64 4096, .int .i64 1, .int .i64 7, .int .i64 65535, .int .i64 16384, .int .i64 4294967295] 26)
  replace hL := Lib.hid (lo_alloc (lo_trans (lo_alloc hL.out (.cells #[.int .u16 1, .int .u32 5, .int .u16 4, .int .u32 2147483648] 47)) hb) (.cells #[.int .i64 4096, .int .i64 1, .int .i64 7, .int .i64 65535, .int .i64 16384, .int .i64 4294967295] 26))
  have hC := Blk.new w4 26 #[.int .i64 4096, .int .i64 1, .int .i64 7, .int .i64 65535, .int .i64 16384, .int .i64 4294967295]
  clear hb
  go_upto_region 3 with fail
  generalize w4.heap.size = g3 at hC ⊢
  generalize w4.alloc (.cells #[.int .i64 4096, .int .i64 1, .int .i64 7, .int .i64 65535, .int .i64 16384, .int .i64 4294967295] 26) = w5 at hA hC hL ⊢
  obtain ⟨cA, fA⟩ := hA.facts
  have lA := hA.lt
  go_wp2_with fail
  refine (H4.out w5).mono ?_
  rintro e w6 ⟨rfl, hb⟩
  clear cA fA lA
  replace hA := ((hA.alloc (.cells #[.int .u16 2, .int .u32 2] 47)).lo hb).alloc (.cells #[.int .i64 4096, .int .i64 1, .int .i64 7, .int .i64 65535, .int .i64 16384, .int .i64 4294967295] 26)
  replace hC := ((hC.alloc (.cells #[.int .u16 2, .int .u32 2] 47)).lo hb).alloc (.cells #[.int .i64 4096, .int .i64 1, .int .i64 7, .int .i64 65535, .int .i64 16384, .int .i64 4294967295] 26)
  replace hL := lo_alloc (lo_trans (lo_alloc hL.out (.cells #[.int .u16 2, .int .u32 2] 47)) hb) (.cells #[.int .i64 4096, .int .i64 1, .int .i64 7, .int .i64 65535, .int .i64 16384, .int .i64 4294967295] 26)
  clear hb
  go_upto_region 4 with fail
  generalize w6.heap.size = g5 at ⊢
  generalize w6.alloc (.cells #[.int .i64 4096, .int .i64 1, .int .i64 7, .int .i64 65535, .int .i64 16384, .int .i64 4294967295] 26) = w6 at hA hC hL ⊢
  refine wp_region_held_drew (S := (fun W => W.cell? ⟨g1, 0, none⟩ = some (.int .i64 4096) ∧ W.cell? ⟨g1, 1, none⟩ = some (.int .i64 1) ∧ W.cell? ⟨g1, 2, none⟩ = some (.int .i64 7) ∧ W.cell? ⟨g1, 3, none⟩ = some (.int .i64 65535) ∧ W.cell? ⟨g1, 4, none⟩ = some (.int .i64 16384) ∧ W.cell? ⟨g1, 5, none⟩ = some (.int .i64 4294967295) ∧ g1 < W.heap.size)) (by kernel_rfl) ?_ (fun hHeld => ?_)
  focus ((try dsimp only); (have q := hA.facts.1; exact ⟨q 0, q 1, q 2, q 3, q 4, q 5, hA.lt⟩))
  first
  | (refine wpAnyH_take (i := 1) (oi := _) (v := ?_) (getop rfl) (by kernel_rfl) (by kernel_rfl) (by kernel_rfl) (fun _ _ _ h => h) (Or.inl ⟨by rfl, ?_⟩) (by assumption) ?_; rotate_left; focus (intro w hSw; (try dsimp only at hSw); go_simp; (try with_reducible rfl); done))
  (try simp only [Act.put, List.setIfInBounds_toArray, List.set_cons_zero, List.set_cons_succ])
  replace hA : Blk w6.drew _ _ _ := hA
  replace hC : Blk w6.drew _ _ _ := hC
  replace hL := lo_drew hL
  generalize w6.drew = wd at hA hC hL hHeld ⊢
  refine wpAnyH_ready (rs := [0]) (by kernel_rfl) (by simp) ?_
  refine (AllReadyH.cons (o := _) (getop rfl) (fun K hK => ?_) AllReadyH.nil)
  go_simp
  refine (H1.out _).mono ?_
  rintro e wa ⟨rfl, hb⟩
  replace hA := hA.lo hb
  replace hC := hC.lo hb
  replace hL := lo_trans hL hb
  clear hb
  refine hK.out _ _ ?_ (fun hHeld0 => ?_)
  focus ((try dsimp only); (have q := hA.facts.1; exact ⟨q 0, q 1, q 2, q 3, q 4, q 5, hA.lt⟩))
  clear hK K hHeld
  have hHeld := hHeld0
  clear hHeld0
  (try simp only [Act.put, List.setIfInBounds_toArray, List.set_cons_zero, List.set_cons_succ])
  refine wpAnyH_ready (rs := [2]) (by kernel_rfl) (by simp) ?_
  refine (AllReadyH.cons (o := _) (getop rfl) (fun K hK => ?_) AllReadyH.nil)
  go_simp
  refine (H5.out _).mono ?_
  rintro e wb ⟨base, u, hge, hle, rfl, hown, hb⟩
  obtain ⟨gp, cp, rfl, lp, p0, p1⟩ := own_one hown
  replace hA := hA.lo hb
  replace hC := hC.lo hb
  replace hL := lo_trans hL hb
  clear hb hown hge hle
  refine hK.out _ _ ?_ (fun hHeld2 => ?_)
  focus ((try dsimp only); (have q := hA.facts.1; exact ⟨q 0, q 1, q 2, q 3, q 4, q 5, hA.lt⟩))
  clear hK K hHeld
  have hHeld := hHeld2
  clear hHeld2
  (try simp only [Act.put, List.setIfInBounds_toArray, List.set_cons_zero, List.set_cons_succ])
  refine wpAnyH_ready (rs := [3]) (by kernel_rfl) (by simp) ?_
  refine (AllReadyH.cons (o := _) (getop rfl) (fun K hK => ?_) AllReadyH.nil)
  go_simp
  refine (H6.out _).mono ?_
  rintro e wc ⟨go, hgo, rfl, hO, hb⟩
  replace hA := hA.lo hb
  replace hC := hC.lo hb
  replace p0 := (hb.cell (p := ⟨gp, 0, none⟩) lp).trans p0
  replace p1 := (hb.cell (p := ⟨gp, 1, none⟩) lp).trans p1
  replace lp := Nat.lt_of_lt_of_le lp hb.size
  replace hL := lo_trans hL hb
  clear hb hgo
  refine hK.out _ _ ?_ (fun hHeld3 => ?_)
  focus ((try dsimp only); (have q := hA.facts.1; exact ⟨q 0, q 1, q 2, q 3, q 4, q 5, hA.lt⟩))
  clear hK K hHeld
  have hHeld := hHeld3
  clear hHeld3
  (try simp only [Act.put, List.setIfInBounds_toArray, List.set_cons_zero, List.set_cons_succ])
  first
  | (refine wpAnyH_take (i := 4) (oi := _) (v := ?_) (getop rfl) (by kernel_rfl) (by kernel_rfl) (by kernel_rfl) (fun _ _ _ h => h) (Or.inl ⟨by rfl, ?_⟩) (by assumption) ?_; rotate_left; focus (intro w hSw; (try dsimp only at hSw); go_simp; (try with_reducible rfl); done))
  (try simp only [Act.put, List.setIfInBounds_toArray, List.set_cons_zero, List.set_cons_succ])
  first
  | (refine wpAnyH_take (i := 5) (oi := _) (v := ?_) (getop rfl) (by kernel_rfl) (by kernel_rfl) (by kernel_rfl) (fun _ _ _ h => h) (Or.inl ⟨by rfl, ?_⟩) (by assumption) ?_; rotate_left; focus (intro w hSw; (try dsimp only at hSw); go_simp; (try with_reducible rfl); done))
  (try simp only [Act.put, List.setIfInBounds_toArray, List.set_cons_zero, List.set_cons_succ])
  refine wpAnyH_done (by kernel_rfl) ?_ _
  clear hHeld
  obtain ⟨cA, fA⟩ := hA.facts
  have lA := hA.lt
  obtain ⟨cC, fC⟩ := hC.facts
  have lC := hC.lt
  obtain ⟨cO, fO⟩ := hO.facts
  have lO := hO.lt
  try simp only [List.append_eq, List.cons_append, List.nil_append]
  go_wp2_with fail
  refine (H7.out _).mono ?_
  rintro e wx ⟨rfl, hb⟩
  replace hL := lo_trans hL hb
  clear hb
  go_wp2_with fail
  refine (H8.out _).mono ?_
  rintro e wy ⟨rfl, hb⟩
  have hM := Lib.hid (lo_trans hL hb)
  clear hb
  go_wp2_with fail
  go_ret
  exact ⟨rfl, hM.out⟩
end Go.Proofs.Ythjciimodemfpaa
