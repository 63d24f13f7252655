import Derived.Test.YtdonnbfojcggmaaGreatAw
namespace Go.Proofs.YtdonnbfojcggmaaGreat
open Go.RowKit
attribute [local go_sem ↓] Go.wp_at_zero Go.wp_at_succ

set_option maxRecDepth 100000 in
set_option maxHeartbeats 1600000 in
theorem pnew_2 (w : World) : Calls Tryz.prog 69 #[.int .i64 2] w fun e w' => (∃ a b, e = .returned (.tuple #[.agg #[.slice a 2 2, .slice b 2 2, .int .i64 0], .int .i64 0])) ∧ Below w.heap.size w w' := by
  have hmk : ∀ w : World, (Instr.makeSlice 39 (.int .i64 2) (.int .i64 2)).run Tryz.prog w = .ok (.slice (some ⟨w.heap.size, 0, none⟩) 2 2) (w.alloc (.cells #[.int .i64 0, .int .i64 0] 3)) := fun w => by kernel_rfl
  have hL := lo_alloc (lo_refl w) (.cells #[.slice none 0 0, .slice none 0 0, .int .i64 0] 156)
  have hR := Blk.new w 156 #[.slice none 0 0, .slice none 0 0, .int .i64 0]
  go_enter Tryz.func69, Tryz.ntmps69
  go_upto_region 3 with fail
  generalize w.alloc (.cells #[.slice none 0 0, .slice none 0 0, .int .i64 0] 156) = w0 at hR hL ⊢
  refine wp_region_held_drew (S := (fun _ => True)) (by kernel_rfl) ?_ (fun hHeld => ?_)
  focus ((try dsimp only); done)
  replace hR : Blk w0.drew _ _ _ := hR
  replace hL := lo_drew hL
  generalize w0.drew = wd at hR hL ⊢
  first
  | (refine wpAnyH_take (i := 0) (oi := _) (v := ?_) (getop rfl) (by kernel_rfl) (by kernel_rfl) (by kernel_rfl) (fun _ _ _ h => h) (Or.inl ⟨by rfl, ?_⟩) (by assumption) ?_; rotate_left; focus (intro w hSw; (try dsimp only at hSw); go_simp; (try with_reducible rfl); done))
  | (refine wpAnyH_take (i := 0) (oi := _) (v := undef) (getop rfl) (by kernel_rfl) (by kernel_rfl) (by kernel_rfl) (fun _ _ _ h => h) (Or.inr ⟨by rfl, rfl⟩) (by assumption) ?_)
  (try simp only [Act.put, List.setIfInBounds_toArray, List.set_cons_zero, List.set_cons_succ])
  first
  | (refine wpAnyH_take (i := 2) (oi := _) (v := ?_) (getop rfl) (by kernel_rfl) (by kernel_rfl) (by kernel_rfl) (fun _ _ _ h => h) (Or.inl ⟨by rfl, ?_⟩) (by assumption) ?_; rotate_left; focus (intro w hSw; (try dsimp only at hSw); go_simp; (try with_reducible rfl); done))
  | (refine wpAnyH_take (i := 2) (oi := _) (v := undef) (getop rfl) (by kernel_rfl) (by kernel_rfl) (by kernel_rfl) (fun _ _ _ h => h) (Or.inr ⟨by rfl, rfl⟩) (by assumption) ?_)
  (try simp only [Act.put, List.setIfInBounds_toArray, List.set_cons_zero, List.set_cons_succ])
  refine wpAnyH_ready (rs := [1, 3]) (by kernel_rfl) (by simp) ?_
  refine (AllReadyH.cons (o := _) (getop rfl) (fun K hK => ?_) (AllReadyH.cons (o := _) (getop rfl) (fun K hK => ?_) AllReadyH.nil))
  · have hk := hmk wd
    go_simp
    clear hk
    replace hR := hR.alloc (.cells #[.int .i64 0, .int .i64 0] 3)
    replace hL := lo_alloc hL (.cells #[.int .i64 0, .int .i64 0] 3)
    generalize wd.heap.size = g1
    generalize wd.alloc (.cells #[.int .i64 0, .int .i64 0] 3) = wz0 at hR hL ⊢
    refine hK.out _ _ ?_ (fun hHeld1 => ?_)
    focus ((try dsimp only); done)
    clear hK K hHeld
    have hHeld := hHeld1
    clear hHeld1
    (try simp only [Act.put, List.setIfInBounds_toArray, List.set_cons_zero, List.set_cons_succ])
    refine wpAnyH_ready (rs := [3]) (by kernel_rfl) (by simp) ?_
    refine (AllReadyH.cons (o := _) (getop rfl) (fun K hK => ?_) AllReadyH.nil)
    have hk := hmk wz0
    go_simp
    clear hk
    replace hR := hR.alloc (.cells #[.int .i64 0, .int .i64 0] 3)
    replace hL := lo_alloc hL (.cells #[.int .i64 0, .int .i64 0] 3)
    generalize wz0.heap.size = g3
    generalize wz0.alloc (.cells #[.int .i64 0, .int .i64 0] 3) = wz1 at hR hL ⊢
    refine hK.out _ _ ?_ (fun hHeld3 => ?_)
    focus ((try dsimp only); done)
    clear hK K hHeld
    have hHeld := hHeld3
    clear hHeld3
    (try simp only [Act.put, List.setIfInBounds_toArray, List.set_cons_zero, List.set_cons_succ])
    first
    | (refine wpAnyH_take (i := 4) (oi := _) (v := ?_) (getop rfl) (by kernel_rfl) (by kernel_rfl) (by kernel_rfl) (fun _ _ _ h => h) (Or.inl ⟨by rfl, ?_⟩) (by assumption) ?_; rotate_left; focus (intro w hSw; (try dsimp only at hSw); go_simp; (try with_reducible rfl); done))
    | (refine wpAnyH_take (i := 4) (oi := _) (v := undef) (getop rfl) (by kernel_rfl) (by kernel_rfl) (by kernel_rfl) (fun _ _ _ h => h) (Or.inr ⟨by rfl, rfl⟩) (by assumption) ?_)
    (try simp only [Act.put, List.setIfInBounds_toArray, List.set_cons_zero, List.set_cons_succ])
    refine wpAnyH_ready (rs := [5]) (by kernel_rfl) (by simp) ?_
    refine (AllReadyH.cons (o := _) (getop rfl) (fun K hK => ?_) AllReadyH.nil)
    obtain ⟨cT, fT⟩ := hR.facts
    have lT := hR.lt
    go_simp
    clear cT fT lT
    replace hR := hR.set_ 0 (.slice (some ⟨g1, 0, none⟩) 2 2)
    replace hL := lo_set hL (p := ⟨w.heap.size, 0, none⟩) (Nat.le_refl _) (.slice (some ⟨g1, 0, none⟩) 2 2)
    replace hR := hR.set_ 1 (.slice (some ⟨g3, 0, none⟩) 2 2)
    replace hL := lo_set hL (p := ⟨w.heap.size, 1, none⟩) (Nat.le_refl _) (.slice (some ⟨g3, 0, none⟩) 2 2)
    replace hR := hR.set_ 2 (.int .i64 0)
    replace hL := lo_set hL (p := ⟨w.heap.size, 2, none⟩) (Nat.le_refl _) (.int .i64 0)
    replace hR : Blk (((wz1.setCell ⟨w.heap.size, 0, none⟩ (.slice (some ⟨g1, 0, none⟩) 2 2)).setCell ⟨w.heap.size, 1, none⟩ (.slice (some ⟨g3, 0, none⟩) 2 2)).setCell ⟨w.heap.size, 2, none⟩ (.int .i64 0)) w.heap.size 156 #[.slice (some ⟨g1, 0, none⟩) 2 2, .slice (some ⟨g3, 0, none⟩) 2 2, .int .i64 0] := by simpa using hR
    generalize (((wz1.setCell ⟨w.heap.size, 0, none⟩ (.slice (some ⟨g1, 0, none⟩) 2 2)).setCell ⟨w.heap.size, 1, none⟩ (.slice (some ⟨g3, 0, none⟩) 2 2)).setCell ⟨w.heap.size, 2, none⟩ (.int .i64 0)) = wz2 at hR hL ⊢
    refine hK.out _ _ ?_ (fun hHeld5 => ?_)
    focus ((try dsimp only); done)
    clear hK K hHeld
    have hHeld := hHeld5
    clear hHeld5
    (try simp only [Act.put, List.setIfInBounds_toArray, List.set_cons_zero, List.set_cons_succ])
    first
    | (refine wpAnyH_take (i := 6) (oi := _) (v := ?_) (getop rfl) (by kernel_rfl) (by kernel_rfl) (by kernel_rfl) (fun _ _ _ h => h) (Or.inl ⟨by rfl, ?_⟩) (by assumption) ?_; rotate_left; focus (intro w hSw; (try dsimp only at hSw); go_simp; (try with_reducible rfl); done))
    | (refine wpAnyH_take (i := 6) (oi := _) (v := undef) (getop rfl) (by kernel_rfl) (by kernel_rfl) (by kernel_rfl) (fun _ _ _ h => h) (Or.inr ⟨by rfl, rfl⟩) (by assumption) ?_)
    (try simp only [Act.put, List.setIfInBounds_toArray, List.set_cons_zero, List.set_cons_succ])
    refine wpAnyH_done (by kernel_rfl) ?_ _
    obtain ⟨cR, fR⟩ := hR.facts
    go_wp2_with fail
    exact bodyPost_ret (v := .tuple #[.agg #[.slice (some ⟨g1, 0, none⟩) 2 2, .slice (some ⟨g3, 0, none⟩) 2 2, .int .i64 0], .int .i64 0]) (by simp [results, Tryz.results69, go_sem, cR] <;> rfl) rfl ⟨⟨_, _, rfl⟩, hL⟩
  · have hk := hmk wd
    go_simp
    clear hk
    replace hR := hR.alloc (.cells #[.int .i64 0, .int .i64 0] 3)
    replace hL := lo_alloc hL (.cells #[.int .i64 0, .int .i64 0] 3)
    generalize wd.heap.size = g3
    generalize wd.alloc (.cells #[.int .i64 0, .int .i64 0] 3) = wz0 at hR hL ⊢
    refine hK.out _ _ ?_ (fun hHeld3 => ?_)
    focus ((try dsimp only); done)
    clear hK K hHeld
    have hHeld := hHeld3
    clear hHeld3
    (try simp only [Act.put, List.setIfInBounds_toArray, List.set_cons_zero, List.set_cons_succ])
    refine wpAnyH_ready (rs := [1]) (by kernel_rfl) (by simp) ?_
    refine (AllReadyH.cons (o := _) (getop rfl) (fun K hK => ?_) AllReadyH.nil)
    have hk := hmk wz0
    go_simp
    clear hk
    replace hR := hR.alloc (.cells #[.int .i64 0, .int .i64 0] 3)
    replace hL := lo_alloc hL (.cells #[.int .i64 0, .int .i64 0] 3)
    generalize wz0.heap.size = g1
    generalize wz0.alloc (.cells #[.int .i64 0, .int .i64 0] 3) = wz1 at hR hL ⊢
    refine hK.out _ _ ?_ (fun hHeld1 => ?_)
    focus ((try dsimp only); done)
    clear hK K hHeld
    have hHeld := hHeld1
    clear hHeld1
    (try simp only [Act.put, List.setIfInBounds_toArray, List.set_cons_zero, List.set_cons_succ])
    first
    | (refine wpAnyH_take (i := 4) (oi := _) (v := ?_) (getop rfl) (by kernel_rfl) (by kernel_rfl) (by kernel_rfl) (fun _ _ _ h => h) (Or.inl ⟨by rfl, ?_⟩) (by assumption) ?_; rotate_left; focus (intro w hSw; (try dsimp only at hSw); go_simp; (try with_reducible rfl); done))
    | (refine wpAnyH_take (i := 4) (oi := _) (v := undef) (getop rfl) (by kernel_rfl) (by kernel_rfl) (by kernel_rfl) (fun _ _ _ h => h) (Or.inr ⟨by rfl, rfl⟩) (by assumption) ?_)
    (try simp only [Act.put, List.setIfInBounds_toArray, List.set_cons_zero, List.set_cons_succ])
    refine wpAnyH_ready (rs := [5]) (by kernel_rfl) (by simp) ?_
    refine (AllReadyH.cons (o := _) (getop rfl) (fun K hK => ?_) AllReadyH.nil)
    obtain ⟨cT, fT⟩ := hR.facts
    have lT := hR.lt
    go_simp
    clear cT fT lT
    replace hR := hR.set_ 0 (.slice (some ⟨g1, 0, none⟩) 2 2)
    replace hL := lo_set hL (p := ⟨w.heap.size, 0, none⟩) (Nat.le_refl _) (.slice (some ⟨g1, 0, none⟩) 2 2)
    replace hR := hR.set_ 1 (.slice (some ⟨g3, 0, none⟩) 2 2)
    replace hL := lo_set hL (p := ⟨w.heap.size, 1, none⟩) (Nat.le_refl _) (.slice (some ⟨g3, 0, none⟩) 2 2)
    replace hR := hR.set_ 2 (.int .i64 0)
    replace hL := lo_set hL (p := ⟨w.heap.size, 2, none⟩) (Nat.le_refl _) (.int .i64 0)
    replace hR : Blk (((wz1.setCell ⟨w.heap.size, 0, none⟩ (.slice (some ⟨g1, 0, none⟩) 2 2)).setCell ⟨w.heap.size, 1, none⟩ (.slice (some ⟨g3, 0, none⟩) 2 2)).setCell ⟨w.heap.size, 2, none⟩ (.int .i64 0)) w.heap.size 156 #[.slice (some ⟨g1, 0, none⟩) 2 2, .slice (some ⟨g3, 0, none⟩) 2 2, .int .i64 0] := by simpa using hR
    generalize (((wz1.setCell ⟨w.heap.size, 0, none⟩ (.slice (some ⟨g1, 0, none⟩) 2 2)).setCell ⟨w.heap.size, 1, none⟩ (.slice (some ⟨g3, 0, none⟩) 2 2)).setCell ⟨w.heap.size, 2, none⟩ (.int .i64 0)) = wz2 at hR hL ⊢
    refine hK.out _ _ ?_ (fun hHeld5 => ?_)
    focus ((try dsimp only); done)
    clear hK K hHeld
    have hHeld := hHeld5
    clear hHeld5
    (try simp only [Act.put, List.setIfInBounds_toArray, List.set_cons_zero, List.set_cons_succ])
    first
    | (refine wpAnyH_take (i := 6) (oi := _) (v := ?_) (getop rfl) (by kernel_rfl) (by kernel_rfl) (by kernel_rfl) (fun _ _ _ h => h) (Or.inl ⟨by rfl, ?_⟩) (by assumption) ?_; rotate_left; focus (intro w hSw; (try dsimp only at hSw); go_simp; (try with_reducible rfl); done))
    | (refine wpAnyH_take (i := 6) (oi := _) (v := undef) (getop rfl) (by kernel_rfl) (by kernel_rfl) (by kernel_rfl) (fun _ _ _ h => h) (Or.inr ⟨by rfl, rfl⟩) (by assumption) ?_)
    (try simp only [Act.put, List.setIfInBounds_toArray, List.set_cons_zero, List.set_cons_succ])
    refine wpAnyH_done (by kernel_rfl) ?_ _
    obtain ⟨cR, fR⟩ := hR.facts
    go_wp2_with fail
    exact bodyPost_ret (v := .tuple #[.agg #[.slice (some ⟨g1, 0, none⟩) 2 2, .slice (some ⟨g3, 0, none⟩) 2 2, .int .i64 0], .int .i64 0]) (by simp [results, Tryz.results69, go_sem, cR] <;> rfl) rfl ⟨⟨_, _, rfl⟩, hL⟩
set_option maxRecDepth 100000 in
set_option maxHeartbeats 3200000 in
theorem made_ok (w : World) : Calls Tryz.prog 33 #[.agg #[.int .i64 4, .int .i64 8, .int .i64 2, .int .i64 4, .int .i64 40, .int .i64 3, .int .i64 5, .int .i64 1, .int .i64 2, .int .i64 60, .int .i64 3, .int .i64 4, .int .i64 2, .int .i64 10, .int .i64 100]] w fun e w' => (∃ s, e = .returned (.tuple #[.pointer (some ⟨s, 0, none⟩), .int .i64 0])) ∧ Below w.heap.size w w' := by
  have HB := Lib.hid bnew_5
  have HH := Lib.hid hnew_8
  have HF := Lib.hid fun w0 => fnew_ok 0 3 4 w0 (Nat.zero_le _) (by decide) (by decide)
  have HP := Lib.hid pnew_2
  have hmm := fun w0 => run_makeMap (P := Tryz.prog) 151 w0
  have hC := ((Blk.new w 75 #[.int .i64 4, .int .i64 8, .int .i64 2, .int .i64 4, .int .i64 40, .int .i64 3, .int .i64 5, .int .i64 1, .int .i64 2, .int .i64 60, .int .i64 3, .int .i64 4, .int .i64 2, .int .i64 10, .int .i64 100]).alloc (.map #[] 0)).alloc (.cells #[.int .i64 4, .int .i64 8, .int .i64 2, .int .i64 4, .int .i64 40, .int .i64 3, .int .i64 5, .int .i64 1, .int .i64 2, .int .i64 60, .int .i64 3, .int .i64 4, .int .i64 2, .int .i64 10, .int .i64 100, .slice none 0 0, .map (some (w.heap.size + 1)), .int .i64 0, .int .i64 0, .int .i64 0, .int .i64 0, .int .i64 0, .int .i64 0, .int .i64 0, .pointer none, .slice none 0 0, .slice none 0 0, .int .i64 0, .int .i64 0, .int .i64 0, .int .i64 0, .int .i64 0, .int .i64 0, .int .i64 0] 159)
  have hS := Blk.new ((w.alloc (.cells #[.int .i64 4, .int .i64 8, .int .i64 2, .int .i64 4, .int .i64 40, .int .i64 3, .int .i64 5, .int .i64 1, .int .i64 2, .int .i64 60, .int .i64 3, .int .i64 4, .int .i64 2, .int .i64 10, .int .i64 100] 75)).alloc (.map #[] 0)) 159 #[.int .i64 4, .int .i64 8, .int .i64 2, .int .i64 4, .int .i64 40, .int .i64 3, .int .i64 5, .int .i64 1, .int .i64 2, .int .i64 60, .int .i64 3, .int .i64 4, .int .i64 2, .int .i64 10, .int .i64 100, .slice none 0 0, .map (some (w.heap.size + 1)), .int .i64 0, .int .i64 0, .int .i64 0, .int .i64 0, .int .i64 0, .int .i64 0, .int .i64 0, .pointer none, .slice none 0 0, .slice none 0 0, .int .i64 0, .int .i64 0, .int .i64 0, .int .i64 0, .int .i64 0, .int .i64 0, .int .i64 0]
  have hL := lo_alloc (lo_alloc (lo_alloc (lo_refl w) (.cells #[.int .i64 4, .int .i64 8, .int .i64 2, .int .i64 4, .int .i64 40, .int .i64 3, .int .i64 5, .int .i64 1, .int .i64 2, .int .i64 60, .int .i64 3, .int .i64 4, .int .i64 2, .int .i64 10, .int .i64 100] 75)) (.map #[] 0)) (.cells #[.int .i64 4, .int .i64 8, .int .i64 2, .int .i64 4, .int .i64 40, .int .i64 3, .int .i64 5, .int .i64 1, .int .i64 2, .int .i64 60, .int .i64 3, .int .i64 4, .int .i64 2, .int .i64 10, .int .i64 100, .slice none 0 0, .map (some (w.heap.size + 1)), .int .i64 0, .int .i64 0, .int .i64 0, .int .i64 0, .int .i64 0, .int .i64 0, .int .i64 0, .pointer none, .slice none 0 0, .slice none 0 0, .int .i64 0, .int .i64 0, .int .i64 0, .int .i64 0, .int .i64 0, .int .i64 0, .int .i64 0] 159)
  simp only [World.size_alloc] at hS
  go_enter Tryz.func33, Tryz.ntmps33
  go_upto_region 3 with fail
  generalize ((w.alloc (.cells #[.int .i64 4, .int .i64 8, .int .i64 2, .int .i64 4, .int .i64 40, .int .i64 3, .int .i64 5, .int .i64 1, .int .i64 2, .int .i64 60, .int .i64 3, .int .i64 4, .int .i64 2, .int .i64 10, .int .i64 100] 75)).alloc (.map #[] 0)).alloc (.cells #[.int .i64 4, .int .i64 8, .int .i64 2, .int .i64 4, .int .i64 40, .int .i64 3, .int .i64 5, .int .i64 1, .int .i64 2, .int .i64 60, .int .i64 3, .int .i64 4, .int .i64 2, .int .i64 10, .int .i64 100, .slice none 0 0, .map (some (w.heap.size + 1)), .int .i64 0, .int .i64 0, .int .i64 0, .int .i64 0, .int .i64 0, .int .i64 0, .int .i64 0, .pointer none, .slice none 0 0, .slice none 0 0, .int .i64 0, .int .i64 0, .int .i64 0, .int .i64 0, .int .i64 0, .int .i64 0, .int .i64 0] 159) = w0 at hC hS hL ⊢
  clear hmm
  obtain ⟨cC, fC⟩ := hC.facts
  go_wp2_with fail
  refine (HB.out _).mono ?_
  rintro e w1 ⟨rfl, hb⟩
  clear cC fC
  replace hC := hC.lo hb
  replace hS := hS.lo hb
  replace hL := lo_trans hL hb
  clear hb
  obtain ⟨cC, fC⟩ := hC.facts
  go_wp2_with fail
  refine (HH.out _).mono ?_
  rintro e w2 ⟨rfl, hb⟩
  clear cC fC
  replace hC := hC.lo hb
  replace hS := hS.lo hb
  replace hL := lo_trans hL hb
  clear hb
  obtain ⟨cC, fC⟩ := hC.facts
  obtain ⟨cS, fS⟩ := hS.facts
  have lS := hS.lt
  go_upto_region 9 with fail
  clear cC fC
  clear cS fS lS
  replace hS := hS.set_ 17 (.int .i64 8)
  replace hC := hC.far (p := ⟨w.heap.size + 1 + 1, 17, none⟩) (by dsimp only; omega) (.int .i64 8)
  replace hL := lo_set hL (p := ⟨w.heap.size + 1 + 1, 17, none⟩) (by dsimp only; omega) (.int .i64 8)
  replace hS := hS.set_ 18 (.int .i64 2)
  replace hC := hC.far (p := ⟨w.heap.size + 1 + 1, 18, none⟩) (by dsimp only; omega) (.int .i64 2)
  replace hL := lo_set hL (p := ⟨w.heap.size + 1 + 1, 18, none⟩) (by dsimp only; omega) (.int .i64 2)
  replace hS := hS.set_ 19 (.int .i64 8)
  replace hC := hC.far (p := ⟨w.heap.size + 1 + 1, 19, none⟩) (by dsimp only; omega) (.int .i64 8)
  replace hL := lo_set hL (p := ⟨w.heap.size + 1 + 1, 19, none⟩) (by dsimp only; omega) (.int .i64 8)
  replace hS := hS.set_ 20 (.int .i64 4)
  replace hC := hC.far (p := ⟨w.heap.size + 1 + 1, 20, none⟩) (by dsimp only; omega) (.int .i64 4)
  replace hL := lo_set hL (p := ⟨w.heap.size + 1 + 1, 20, none⟩) (by dsimp only; omega) (.int .i64 4)
  replace hS := hS.set_ 21 (.int .i64 40)
  replace hC := hC.far (p := ⟨w.heap.size + 1 + 1, 21, none⟩) (by dsimp only; omega) (.int .i64 40)
  replace hL := lo_set hL (p := ⟨w.heap.size + 1 + 1, 21, none⟩) (by dsimp only; omega) (.int .i64 40)
  replace hS := hS.set_ 22 (.int .i64 3)
  replace hC := hC.far (p := ⟨w.heap.size + 1 + 1, 22, none⟩) (by dsimp only; omega) (.int .i64 3)
  replace hL := lo_set hL (p := ⟨w.heap.size + 1 + 1, 22, none⟩) (by dsimp only; omega) (.int .i64 3)
  replace hS := hS.set_ 23 (.int .i64 0)
  replace hC := hC.far (p := ⟨w.heap.size + 1 + 1, 23, none⟩) (by dsimp only; omega) (.int .i64 0)
  replace hL := lo_set hL (p := ⟨w.heap.size + 1 + 1, 23, none⟩) (by dsimp only; omega) (.int .i64 0)
  replace hS : Blk (((((((w2.setCell ⟨w.heap.size + 1 + 1, 17, none⟩ (.int .i64 8)).setCell ⟨w.heap.size + 1 + 1, 18, none⟩ (.int .i64 2)).setCell ⟨w.heap.size + 1 + 1, 19, none⟩ (.int .i64 8)).setCell ⟨w.heap.size + 1 + 1, 20, none⟩ (.int .i64 4)).setCell ⟨w.heap.size + 1 + 1, 21, none⟩ (.int .i64 40)).setCell ⟨w.heap.size + 1 + 1, 22, none⟩ (.int .i64 3)).setCell ⟨w.heap.size + 1 + 1, 23, none⟩ (.int .i64 0)) (w.heap.size + 1 + 1) 159 #[.int .i64 4, .int .i64 8, .int .i64 2, .int .i64 4, .int .i64 40, .int .i64 3, .int .i64 5, .int .i64 1, .int .i64 2, .int .i64 60, .int .i64 3, .int .i64 4, .int .i64 2, .int .i64 10, .int .i64 100, .slice none 0 0, .map (some (w.heap.size + 1)), .int .i64 8, .int .i64 2, .int .i64 8, .int .i64 4, .int .i64 40, .int .i64 3, .int .i64 0, .pointer none, .slice none 0 0, .slice none 0 0, .int .i64 0, .int .i64 0, .int .i64 0, .int .i64 0, .int .i64 0, .int .i64 0, .int .i64 0] := by simpa using hS
  generalize (((((((w2.setCell ⟨w.heap.size + 1 + 1, 17, none⟩ (.int .i64 8)).setCell ⟨w.heap.size + 1 + 1, 18, none⟩ (.int .i64 2)).setCell ⟨w.heap.size + 1 + 1, 19, none⟩ (.int .i64 8)).setCell ⟨w.heap.size + 1 + 1, 20, none⟩ (.int .i64 4)).setCell ⟨w.heap.size + 1 + 1, 21, none⟩ (.int .i64 40)).setCell ⟨w.heap.size + 1 + 1, 22, none⟩ (.int .i64 3)).setCell ⟨w.heap.size + 1 + 1, 23, none⟩ (.int .i64 0)) = w3 at hS hC hL ⊢
  obtain ⟨cC, fC⟩ := hC.facts
  go_wp2_with fail
  refine (HF.out _).mono ?_
  rintro e w4 ⟨⟨sq, mq, rfl, _⟩, hb⟩
  clear cC fC
  replace hC := hC.lo hb
  replace hS := hS.lo hb
  replace hL := lo_trans hL hb
  clear hb
  obtain ⟨cC, fC⟩ := hC.facts
  obtain ⟨cS, fS⟩ := hS.facts
  have lS := hS.lt
  go_upto_region 12 with fail
  clear cC fC
  clear cS fS lS
  replace hS := hS.set_ 24 (.pointer (some ⟨sq, 0, none⟩))
  replace hC := hC.far (p := ⟨w.heap.size + 1 + 1, 24, none⟩) (by dsimp only; omega) (.pointer (some ⟨sq, 0, none⟩))
  replace hL := lo_set hL (p := ⟨w.heap.size + 1 + 1, 24, none⟩) (by dsimp only; omega) (.pointer (some ⟨sq, 0, none⟩))
  replace hS : Blk (w4.setCell ⟨w.heap.size + 1 + 1, 24, none⟩ (.pointer (some ⟨sq, 0, none⟩))) (w.heap.size + 1 + 1) 159 #[.int .i64 4, .int .i64 8, .int .i64 2, .int .i64 4, .int .i64 40, .int .i64 3, .int .i64 5, .int .i64 1, .int .i64 2, .int .i64 60, .int .i64 3, .int .i64 4, .int .i64 2, .int .i64 10, .int .i64 100, .slice none 0 0, .map (some (w.heap.size + 1)), .int .i64 8, .int .i64 2, .int .i64 8, .int .i64 4, .int .i64 40, .int .i64 3, .int .i64 0, .pointer (some ⟨sq, 0, none⟩), .slice none 0 0, .slice none 0 0, .int .i64 0, .int .i64 0, .int .i64 0, .int .i64 0, .int .i64 0, .int .i64 0, .int .i64 0] := by simpa using hS
  generalize (w4.setCell ⟨w.heap.size + 1 + 1, 24, none⟩ (.pointer (some ⟨sq, 0, none⟩))) = w5 at hS hC hL ⊢
  obtain ⟨cC, fC⟩ := hC.facts
  go_wp2_with fail
  refine (HP.out _).mono ?_
  rintro e w6 ⟨⟨a, b, rfl⟩, hb⟩
  clear cC fC
  replace hC := hC.lo hb
  replace hS := hS.lo hb
  replace hL := lo_trans hL hb
  clear hb
  obtain ⟨cS, fS⟩ := hS.facts
  have lS := hS.lt
  go_wp2_with fail
  exact bodyPost_ret (v := .tuple #[.pointer (some ⟨w.heap.size + 1 + 1, 0, none⟩), .int .i64 0]) (by simp [results, Tryz.results33, go_sem]) rfl ⟨⟨_, rfl⟩, lo_set (lo_set (lo_set hL (p := ⟨w.heap.size + 1 + 1, 25, none⟩) (by dsimp only; omega) _) (p := ⟨w.heap.size + 1 + 1, 26, none⟩) (by dsimp only; omega) _) (p := ⟨w.heap.size + 1 + 1, 27, none⟩) (by dsimp only; omega) _⟩
end Go.Proofs.YtdonnbfojcggmaaGreat
