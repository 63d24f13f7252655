import Derived.Test.YthjciimodemfpaaSetsAppliesWalk
namespace Go.Proofs.Ythjciimodemfpaa
open Go.RowKit
attribute [local go_sem ↓] Go.wp_at_zero Go.wp_at_succ

set_option maxRecDepth 100000 in
set_option maxHeartbeats 6400000 in
theorem walk_SetsPairs (v0 : Int) (v1 : Int) (v2 : Int) (v3 : Int) (v4 : Int) (v5 : Int) (x0 : Int) (x1 : Int) (x2 : Int) (x3 : Int) (x4 : Int) (x5 : Int) (n : Int) (w : World) (_w00 : (Lit.int .i64 v0).wf = true) (_w01 : (Lit.int .i64 v1).wf = true) (_w02 : (Lit.int .i64 v2).wf = true) (_w03 : (Lit.int .i64 v3).wf = true) (_w04 : (Lit.int .i64 v4).wf = true) (_w05 : (Lit.int .i64 v5).wf = true) (_w10 : (Lit.int .i64 x0).wf = true) (_w11 : (Lit.int .i64 x1).wf = true) (_w12 : (Lit.int .i64 x2).wf = true) (_w13 : (Lit.int .i64 x3).wf = true) (_w14 : (Lit.int .i64 x4).wf = true) (_w15 : (Lit.int .i64 x5).wf = true) (_w2 : (Lit.int .i64 n).wf = true) :
    Calls Try.prog 4 #[.agg #[.int .i64 v0, .int .i64 v1, .int .i64 v2, .int .i64 v3, .int .i64 v4, .int .i64 v5], .agg #[.int .i64 x0, .int .i64 x1, .int .i64 x2, .int .i64 x3, .int .i64 x4, .int .i64 x5], .int .i64 n] w fun e w' => e = .returned (.bool true) ∧ Below w.heap.size w w' := by
  have HA : Hid (∀ w0, Calls Try.prog 7 #[] w0 (AwakePost w0)) := awake_any
  clear _w00 _w10 _w01 _w11 _w02 _w12 _w03 _w13 _w04 _w14 _w05 _w15 _w2
  have hV := (Blk.new w 23 #[.int .i64 v0, .int .i64 v1, .int .i64 v2, .int .i64 v3, .int .i64 v4, .int .i64 v5]).alloc (.cells #[.int .i64 x0, .int .i64 x1, .int .i64 x2, .int .i64 x3, .int .i64 x4, .int .i64 x5] 23)
  have hW := Blk.new (w.alloc (.cells #[.int .i64 v0, .int .i64 v1, .int .i64 v2, .int .i64 v3, .int .i64 v4, .int .i64 v5] 23)) 23 #[.int .i64 x0, .int .i64 x1, .int .i64 x2, .int .i64 x3, .int .i64 x4, .int .i64 x5]
  have hL := lo_alloc (lo_alloc (lo_refl w) (.cells #[.int .i64 v0, .int .i64 v1, .int .i64 v2, .int .i64 v3, .int .i64 v4, .int .i64 v5] 23)) (.cells #[.int .i64 x0, .int .i64 x1, .int .i64 x2, .int .i64 x3, .int .i64 x4, .int .i64 x5] 23)
  simp only [World.size_alloc] at hW
  have HP1 := Lib.hid (pairs_any v0 v1 v2 v3 v4 v5 x0 x1 x2 x3 x4 x5)
  have HP2 := Lib.hid (pairs_ref v0 v1 v2 v3 v4 v5 x0 x1 x2 x3 x4 x5)
  have HO1 := Lib.hid (own_any n)
  have HO2 := Lib.hid (own_ref n)
  go_enter Try.func4, Try.ntmps4
  go_upto_region 1 with fail
  generalize (w.alloc (.cells #[.int .i64 v0, .int .i64 v1, .int .i64 v2, .int .i64 v3, .int .i64 v4, .int .i64 v5] 23)).alloc (.cells #[.int .i64 x0, .int .i64 x1, .int .i64 x2, .int .i64 x3, .int .i64 x4, .int .i64 x5] 23) = w0 at hV hW hL ⊢
  refine wp_region_held_drew (S := (fun W => W.cell? ⟨w.heap.size, 0, none⟩ = some (.int .i64 v0) ∧ W.cell? ⟨w.heap.size, 1, none⟩ = some (.int .i64 v1) ∧ W.cell? ⟨w.heap.size, 2, none⟩ = some (.int .i64 v2) ∧ W.cell? ⟨w.heap.size, 3, none⟩ = some (.int .i64 v3) ∧ W.cell? ⟨w.heap.size, 4, none⟩ = some (.int .i64 v4) ∧ W.cell? ⟨w.heap.size, 5, none⟩ = some (.int .i64 v5) ∧ w.heap.size < W.heap.size ∧ W.cell? ⟨w.heap.size + 1, 0, none⟩ = some (.int .i64 x0) ∧ W.cell? ⟨w.heap.size + 1, 1, none⟩ = some (.int .i64 x1) ∧ W.cell? ⟨w.heap.size + 1, 2, none⟩ = some (.int .i64 x2) ∧ W.cell? ⟨w.heap.size + 1, 3, none⟩ = some (.int .i64 x3) ∧ W.cell? ⟨w.heap.size + 1, 4, none⟩ = some (.int .i64 x4) ∧ W.cell? ⟨w.heap.size + 1, 5, none⟩ = some (.int .i64 x5) ∧ (w.heap.size + 1) < W.heap.size)) (by kernel_rfl) ?_ (fun hHeld => ?_)
  focus ((try dsimp only); (have qV := hV.facts.1; have qW := hW.facts.1; exact ⟨qV 0, qV 1, qV 2, qV 3, qV 4, qV 5, hV.lt, qW 0, qW 1, qW 2, qW 3, qW 4, qW 5, hW.lt⟩))
  replace hV : Blk w0.drew _ _ _ := hV
  replace hW : Blk w0.drew _ _ _ := hW
  replace hL := lo_drew hL
  generalize w0.drew = wd at hV hW hL hHeld ⊢
  first
  | (refine wpAnyH_take (i := 0) (oi := _) (v := ?_) (getop rfl) (by kernel_rfl) (by kernel_rfl) (by kernel_rfl) (fun _ _ _ h => h) (Or.inl ⟨by rfl, ?_⟩) (by assumption) ?_; rotate_left; focus (intro w hSw; (try dsimp only at hSw); go_simp; (try with_reducible rfl); done))
  | (refine wpAnyH_take (i := 0) (oi := _) (v := undef) (getop rfl) (by kernel_rfl) (by kernel_rfl) (by kernel_rfl) (fun _ _ _ h => h) (Or.inr ⟨by rfl, rfl⟩) (by assumption) ?_)
  (try simp only [Act.put, List.setIfInBounds_toArray, List.set_cons_zero, List.set_cons_succ])
  first
  | (refine wpAnyH_take (i := 1) (oi := _) (v := ?_) (getop rfl) (by kernel_rfl) (by kernel_rfl) (by kernel_rfl) (fun _ _ _ h => h) (Or.inl ⟨by rfl, ?_⟩) (by assumption) ?_; rotate_left; focus (intro w hSw; (try dsimp only at hSw); go_simp; (try with_reducible rfl); done))
  | (refine wpAnyH_take (i := 1) (oi := _) (v := undef) (getop rfl) (by kernel_rfl) (by kernel_rfl) (by kernel_rfl) (fun _ _ _ h => h) (Or.inr ⟨by rfl, rfl⟩) (by assumption) ?_)
  (try simp only [Act.put, List.setIfInBounds_toArray, List.set_cons_zero, List.set_cons_succ])
  first
  | (refine wpAnyH_take (i := 3) (oi := _) (v := ?_) (getop rfl) (by kernel_rfl) (by kernel_rfl) (by kernel_rfl) (fun _ _ _ h => h) (Or.inl ⟨by rfl, ?_⟩) (by assumption) ?_; rotate_left; focus (intro w hSw; (try dsimp only at hSw); go_simp; (try with_reducible rfl); done))
  | (refine wpAnyH_take (i := 3) (oi := _) (v := undef) (getop rfl) (by kernel_rfl) (by kernel_rfl) (by kernel_rfl) (fun _ _ _ h => h) (Or.inr ⟨by rfl, rfl⟩) (by assumption) ?_)
  (try simp only [Act.put, List.setIfInBounds_toArray, List.set_cons_zero, List.set_cons_succ])
  first
  | (refine wpAnyH_take (i := 4) (oi := _) (v := ?_) (getop rfl) (by kernel_rfl) (by kernel_rfl) (by kernel_rfl) (fun _ _ _ h => h) (Or.inl ⟨by rfl, ?_⟩) (by assumption) ?_; rotate_left; focus (intro w hSw; (try dsimp only at hSw); go_simp; (try with_reducible rfl); done))
  | (refine wpAnyH_take (i := 4) (oi := _) (v := undef) (getop rfl) (by kernel_rfl) (by kernel_rfl) (by kernel_rfl) (fun _ _ _ h => h) (Or.inr ⟨by rfl, rfl⟩) (by assumption) ?_)
  (try simp only [Act.put, List.setIfInBounds_toArray, List.set_cons_zero, List.set_cons_succ])
  refine wpAnyH_ready (rs := [2]) (by kernel_rfl) (by simp) ?_
  refine AllReadyH.cons (o := _) (getop rfl) (fun K hK => ?_) AllReadyH.nil
  go_simp
  (refine (HP1.out _).mono ?_; rintro e wa ⟨b1, u1, hge, hle, rfl, hown, hb⟩; obtain ⟨A1, cap1, rfl, hP1⟩ := own_prs hown (pairs_wf _ _); clear hge hle hown; replace hV := hV.lo hb; replace hW := hW.lo hb; replace hL := lo_trans hL hb; clear hb)
  refine hK.out _ _ ?_ (fun hHeld2 => ?_)
  focus ((try dsimp only); (have qV := hV.facts.1; have qW := hW.facts.1; exact ⟨qV 0, qV 1, qV 2, qV 3, qV 4, qV 5, hV.lt, qW 0, qW 1, qW 2, qW 3, qW 4, qW 5, hW.lt⟩))
  clear hK K hHeld
  have hHeld := hHeld2
  clear hHeld2
  (try simp only [Act.put, List.setIfInBounds_toArray, List.set_cons_zero, List.set_cons_succ])
  refine wpAnyH_ready (rs := [5]) (by kernel_rfl) (by simp) ?_
  refine AllReadyH.cons (o := _) (getop rfl) (fun K hK => ?_) AllReadyH.nil
  go_simp
  (refine (HP2.out _).mono ?_; rintro e wb ⟨b2, u2, hge, hle, rfl, hown, hb⟩; obtain ⟨A2, cap2, rfl, hP2⟩ := own_prs hown (pairs_wf _ _); clear hge hle hown; replace hV := hV.lo hb; replace hW := hW.lo hb; replace hP1 := agg_lo hP1 hb; replace hL := lo_trans hL hb; clear hb)
  refine hK.out _ _ ?_ (fun hHeld5 => ?_)
  focus ((try dsimp only); (have qV := hV.facts.1; have qW := hW.facts.1; exact ⟨qV 0, qV 1, qV 2, qV 3, qV 4, qV 5, hV.lt, qW 0, qW 1, qW 2, qW 3, qW 4, qW 5, hW.lt⟩))
  clear hK K hHeld
  have hHeld := hHeld5
  clear hHeld5
  (try simp only [Act.put, List.setIfInBounds_toArray, List.set_cons_zero, List.set_cons_succ])
  refine wpAnyH_ready (rs := [6]) (by kernel_rfl) (by simp) ?_
  refine AllReadyH.cons (o := _) (getop rfl) (fun K hK => ?_) AllReadyH.nil
  go_simp
  (refine (same_any _ _ _ _ _ _ _ _ _ hP1 hP2).mono ?_; rintro e wc ⟨rfl, hb⟩; replace hV := hV.lo hb; replace hW := hW.lo hb; clear hP1 hP2; replace hL := lo_trans hL hb; clear hb; simp only [decide_true])
  refine hK.out _ _ ?_ (fun hHeld6 => ?_)
  focus ((try dsimp only); (have qV := hV.facts.1; have qW := hW.facts.1; exact ⟨qV 0, qV 1, qV 2, qV 3, qV 4, qV 5, hV.lt, qW 0, qW 1, qW 2, qW 3, qW 4, qW 5, hW.lt⟩))
  clear hK K hHeld
  have hHeld := hHeld6
  clear hHeld6
  (try simp only [Act.put, List.setIfInBounds_toArray, List.set_cons_zero, List.set_cons_succ])
  first
  | (refine wpAnyH_take (i := 7) (oi := _) (v := ?_) (getop rfl) (by kernel_rfl) (by kernel_rfl) (by kernel_rfl) (fun _ _ _ h => h) (Or.inl ⟨by rfl, ?_⟩) (by assumption) ?_; rotate_left; focus (intro w hSw; (try dsimp only at hSw); go_simp; (try with_reducible rfl); done))
  | (refine wpAnyH_take (i := 7) (oi := _) (v := undef) (getop rfl) (by kernel_rfl) (by kernel_rfl) (by kernel_rfl) (fun _ _ _ h => h) (Or.inr ⟨by rfl, rfl⟩) (by assumption) ?_)
  (try simp only [Act.put, List.setIfInBounds_toArray, List.set_cons_zero, List.set_cons_succ])
  first
  | (refine wpAnyH_take (i := 8) (oi := _) (v := ?_) (getop rfl) (by kernel_rfl) (by kernel_rfl) (by kernel_rfl) (fun _ _ _ h => h) (Or.inl ⟨by rfl, ?_⟩) (by assumption) ?_; rotate_left; focus (intro w hSw; (try dsimp only at hSw); go_simp; (try with_reducible rfl); done))
  | (refine wpAnyH_take (i := 8) (oi := _) (v := undef) (getop rfl) (by kernel_rfl) (by kernel_rfl) (by kernel_rfl) (fun _ _ _ h => h) (Or.inr ⟨by rfl, rfl⟩) (by assumption) ?_)
  (try simp only [Act.put, List.setIfInBounds_toArray, List.set_cons_zero, List.set_cons_succ])
  first
  | (refine wpAnyH_take (i := 10) (oi := _) (v := ?_) (getop rfl) (by kernel_rfl) (by kernel_rfl) (by kernel_rfl) (fun _ _ _ h => h) (Or.inl ⟨by rfl, ?_⟩) (by assumption) ?_; rotate_left; focus (intro w hSw; (try dsimp only at hSw); go_simp; (try with_reducible rfl); done))
  | (refine wpAnyH_take (i := 10) (oi := _) (v := undef) (getop rfl) (by kernel_rfl) (by kernel_rfl) (by kernel_rfl) (fun _ _ _ h => h) (Or.inr ⟨by rfl, rfl⟩) (by assumption) ?_)
  (try simp only [Act.put, List.setIfInBounds_toArray, List.set_cons_zero, List.set_cons_succ])
  refine wpAnyH_ready (rs := [9]) (by kernel_rfl) (by simp) ?_
  refine AllReadyH.cons (o := _) (getop rfl) (fun K hK => ?_) AllReadyH.nil
  go_simp
  (refine (HO1.out _).mono ?_; rintro e we ⟨g1, hg1, rfl, hO1, hb⟩; replace hV := hV.lo hb; replace hW := hW.lo hb; replace hL := lo_trans hL hb; clear hb)
  refine hK.out _ _ ?_ (fun hHeld9 => ?_)
  focus ((try dsimp only); (have qV := hV.facts.1; have qW := hW.facts.1; exact ⟨qV 0, qV 1, qV 2, qV 3, qV 4, qV 5, hV.lt, qW 0, qW 1, qW 2, qW 3, qW 4, qW 5, hW.lt⟩))
  clear hK K hHeld
  have hHeld := hHeld9
  clear hHeld9
  (try simp only [Act.put, List.setIfInBounds_toArray, List.set_cons_zero, List.set_cons_succ])
  refine wpAnyH_ready (rs := [11]) (by kernel_rfl) (by simp) ?_
  refine AllReadyH.cons (o := _) (getop rfl) (fun K hK => ?_) AllReadyH.nil
  go_simp
  (refine (HO2.out _).mono ?_; rintro e wf ⟨g2, hg2, rfl, hO2, hb⟩; replace hV := hV.lo hb; replace hW := hW.lo hb; replace hO1 := hO1.lo hb; have hP1 := prs_blk (l := [((3 : Int), clampL n), (6, 1024)]) hO1 (by show 2 ≤ maxLen; decide) (clamp_wf n); have hP2 := prs_blk (l := [((3 : Int), clampL n), (6, 1024)]) hO2 (by show 2 ≤ maxLen; decide) (clamp_wf n); replace hL := lo_trans hL hb; clear hb)
  refine hK.out _ _ ?_ (fun hHeld11 => ?_)
  focus ((try dsimp only); (have qV := hV.facts.1; have qW := hW.facts.1; exact ⟨qV 0, qV 1, qV 2, qV 3, qV 4, qV 5, hV.lt, qW 0, qW 1, qW 2, qW 3, qW 4, qW 5, hW.lt⟩))
  clear hK K hHeld
  have hHeld := hHeld11
  clear hHeld11
  (try simp only [Act.put, List.setIfInBounds_toArray, List.set_cons_zero, List.set_cons_succ])
  refine wpAnyH_ready (rs := [12]) (by kernel_rfl) (by simp) ?_
  refine AllReadyH.cons (o := _) (getop rfl) (fun K hK => ?_) AllReadyH.nil
  go_simp
  (refine (same_any _ 2 2 _ _ 2 2 _ _ hP1 hP2).mono ?_; rintro e wg ⟨rfl, hb⟩; replace hV := hV.lo hb; replace hW := hW.lo hb; clear hP1 hP2 hO1 hO2; replace hL := lo_trans hL hb; clear hb; simp only [decide_true])
  refine hK.out _ _ ?_ (fun hHeld12 => ?_)
  focus ((try dsimp only); (have qV := hV.facts.1; have qW := hW.facts.1; exact ⟨qV 0, qV 1, qV 2, qV 3, qV 4, qV 5, hV.lt, qW 0, qW 1, qW 2, qW 3, qW 4, qW 5, hW.lt⟩))
  clear hK K hHeld
  have hHeld := hHeld12
  clear hHeld12
  (try simp only [Act.put, List.setIfInBounds_toArray, List.set_cons_zero, List.set_cons_succ])
  first
  | (refine wpAnyH_take (i := 13) (oi := _) (v := ?_) (getop rfl) (by kernel_rfl) (by kernel_rfl) (by kernel_rfl) (fun _ _ _ h => h) (Or.inl ⟨by rfl, ?_⟩) (by assumption) ?_; rotate_left; focus (intro w hSw; (try dsimp only at hSw); go_simp; (try with_reducible rfl); done))
  | (refine wpAnyH_take (i := 13) (oi := _) (v := undef) (getop rfl) (by kernel_rfl) (by kernel_rfl) (by kernel_rfl) (fun _ _ _ h => h) (Or.inr ⟨by rfl, rfl⟩) (by assumption) ?_)
  (try simp only [Act.put, List.setIfInBounds_toArray, List.set_cons_zero, List.set_cons_succ])
  first
  | (refine wpAnyH_take (i := 14) (oi := _) (v := ?_) (getop rfl) (by kernel_rfl) (by kernel_rfl) (by kernel_rfl) (fun _ _ _ h => h) (Or.inl ⟨by rfl, ?_⟩) (by assumption) ?_; rotate_left; focus (intro w hSw; (try dsimp only at hSw); go_simp; (try with_reducible rfl); done))
  | (refine wpAnyH_take (i := 14) (oi := _) (v := undef) (getop rfl) (by kernel_rfl) (by kernel_rfl) (by kernel_rfl) (fun _ _ _ h => h) (Or.inr ⟨by rfl, rfl⟩) (by assumption) ?_)
  (try simp only [Act.put, List.setIfInBounds_toArray, List.set_cons_zero, List.set_cons_succ])
  refine wpAnyH_ready (rs := [15]) (by kernel_rfl) (by simp) ?_
  refine AllReadyH.cons (o := _) (getop rfl) (fun K hK => ?_) AllReadyH.nil
  go_simp
  (refine (HA.out _).mono ?_; rintro e wh ⟨rfl, hb⟩; replace hV := hV.lo hb; replace hW := hW.lo hb; replace hL := lo_trans hL hb; clear hb)
  refine hK.out _ _ ?_ (fun hHeld15 => ?_)
  focus ((try dsimp only); (have qV := hV.facts.1; have qW := hW.facts.1; exact ⟨qV 0, qV 1, qV 2, qV 3, qV 4, qV 5, hV.lt, qW 0, qW 1, qW 2, qW 3, qW 4, qW 5, hW.lt⟩))
  clear hK K hHeld
  have hHeld := hHeld15
  clear hHeld15
  (try simp only [Act.put, List.setIfInBounds_toArray, List.set_cons_zero, List.set_cons_succ])
  first
  | (refine wpAnyH_take (i := 16) (oi := _) (v := ?_) (getop rfl) (by kernel_rfl) (by kernel_rfl) (by kernel_rfl) (fun _ _ _ h => h) (Or.inl ⟨by rfl, ?_⟩) (by assumption) ?_; rotate_left; focus (intro w hSw; (try dsimp only at hSw); go_simp; (try with_reducible rfl); done))
  | (refine wpAnyH_take (i := 16) (oi := _) (v := undef) (getop rfl) (by kernel_rfl) (by kernel_rfl) (by kernel_rfl) (fun _ _ _ h => h) (Or.inr ⟨by rfl, rfl⟩) (by assumption) ?_)
  (try simp only [Act.put, List.setIfInBounds_toArray, List.set_cons_zero, List.set_cons_succ])
  first
  | (refine wpAnyH_take (i := 17) (oi := _) (v := ?_) (getop rfl) (by kernel_rfl) (by kernel_rfl) (by kernel_rfl) (fun _ _ _ h => h) (Or.inl ⟨by rfl, ?_⟩) (by assumption) ?_; rotate_left; focus (intro w hSw; (try dsimp only at hSw); go_simp; (try with_reducible rfl); done))
  | (refine wpAnyH_take (i := 17) (oi := _) (v := undef) (getop rfl) (by kernel_rfl) (by kernel_rfl) (by kernel_rfl) (fun _ _ _ h => h) (Or.inr ⟨by rfl, rfl⟩) (by assumption) ?_)
  (try simp only [Act.put, List.setIfInBounds_toArray, List.set_cons_zero, List.set_cons_succ])
  refine wpAnyH_done (by kernel_rfl) ?_ _
  have hM := Lib.hid hL
  clear hV hW hL hHeld
  go_wp2_with fail
  go_ret
  exact ⟨rfl, hM.out⟩
end Go.Proofs.Ythjciimodemfpaa
