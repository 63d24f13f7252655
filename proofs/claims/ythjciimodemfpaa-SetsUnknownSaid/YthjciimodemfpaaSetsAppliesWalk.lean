import Derived.Test.YthjciimodemfpaaAwake
namespace Go.Proofs.Ythjciimodemfpaa
open Go.RowKit
attribute [local go_sem ↓] Go.wp_at_zero Go.wp_at_succ

theorem go_code : ∀ (l : List (Int × Int)) (x : Vs), 0 ≤ (goL l x).2 ∧ (goL l x).2 ≤ 3
  | [], x => ⟨Int.le_refl 0, by show (0 : Int) ≤ 3; decide⟩
  | p :: t, x => by
    rw [go_cons]
    split
    · exact go_code t _
    · exact fault_le _ _
theorem ap_code (v : Vs) (l : List (Int × Int)) : 0 ≤ (applyL v l).2 ∧ (applyL v l).2 ≤ 3 := by
  unfold applyL finL
  have := go_code l v
  repeat' split
  all_goals (simp only; omega)
theorem wf_mk {a b : Int} (ha : 0 ≤ a ∧ a ≤ 65535) (hb : 0 ≤ b ∧ b ≤ 4294967295) : wfP (a, b) := by
  simp [wfP, Lit.wf, IntKind.min, IntKind.max, IntKind.signed, IntKind.bits]
  omega
theorem fld_wf {x : Vs} (h : x.ok) (k : Nat) (hk : k < 6) : wfP ((k : Int) + 1, fldL x k) := by
  obtain rfl | rfl | rfl | rfl | rfl | rfl : k = 0 ∨ k = 1 ∨ k = 2 ∨ k = 3 ∨ k = 4 ∨ k = 5 := by omega
  · exact wf_mk (by decide) ⟨h.1.1, h.1.2.1⟩
  · exact wf_mk (by decide) ⟨h.2.1.1, h.2.1.2.1⟩
  · exact wf_mk (by decide) ⟨h.2.2.1.1, h.2.2.1.2.1⟩
  · exact wf_mk (by decide) ⟨h.2.2.2.1.1, h.2.2.2.1.2.1⟩
  · exact wf_mk (by decide) ⟨h.2.2.2.2.1.1, h.2.2.2.2.1.2.1⟩
  · exact wf_mk (by decide) ⟨h.2.2.2.2.2.1, h.2.2.2.2.2.2.1⟩
theorem up_wf {v x : Vs} (h : x.ok) : ∀ k, k ≤ 6 → ∀ p ∈ upL v x k, wfP p
  | 0, _, p, hp => by cases hp
  | k + 1, hk, p, hp => by
    rcases List.mem_append.1 (show p ∈ upL v x k ++ partL ((k : Int) + 1) (fldL v k) (fldL x k) from hp) with hp | hp
    · exact up_wf h k (by omega) p hp
    · unfold partL at hp
      split at hp
      · cases hp
      · rw [List.mem_singleton.1 hp]
        exact fld_wf h k (by omega)
theorem pairs_wf (v x : Vs) : ∀ p ∈ pairsL v x, wfP p := by
  unfold pairsL
  split
  · rename_i h
    exact up_wf h.2 6 (Nat.le_refl _)
  · intro p hp; cases hp
theorem clamp_wf (n : Int) : ∀ p ∈ [((3 : Int), clampL n), (6, 1024)], wfP p := by
  intro p hp
  have : 0 ≤ clampL n ∧ clampL n ≤ 16 := by unfold clampL; repeat' split <;> omega
  rcases List.mem_cons.1 hp with rfl | hp
  · exact wf_mk (by decide) (by omega)
  · rw [List.mem_singleton.1 hp]; exact wf_mk (by decide) (by decide)
theorem own_prs {w : World} {base : Nat} {u : Value} {r : List (Int × Int)} (h : w.ownsRow base 47 2 u r.length (r.flatMap cellsP)) (hw : ∀ p ∈ r, wfP p) : ∃ A cap, u = .slice A r.length cap ∧ Prs w A r.length cap r := by
  obtain ⟨A, cap, rfl, _, _⟩ := own_shape h
  exact ⟨A, cap, rfl, agg_own (C := cellsP) (fun _ => rfl) (by decide) h hw⟩
set_option maxRecDepth 100000 in
set_option maxHeartbeats 6400000 in
theorem walk_SetsApplies (v0 : Int) (v1 : Int) (v2 : Int) (v3 : Int) (v4 : Int) (v5 : Int) (a1 : Option Addr) (len1 cap1 : Nat) (xs1 : List (Int × Int)) (w : World) (_w00 : (Lit.int .i64 v0).wf = true) (_w01 : (Lit.int .i64 v1).wf = true) (_w02 : (Lit.int .i64 v2).wf = true) (_w03 : (Lit.int .i64 v3).wf = true) (_w04 : (Lit.int .i64 v4).wf = true) (_w05 : (Lit.int .i64 v5).wf = true) (w1 : AggRow 2 (fun x : Int × Int => [Value.int .u16 x.1, Value.int .u32 x.2]) (fun x : Int × Int => (Lit.int .u16 x.1).wf = true ∧ (Lit.int .u32 x.2).wf = true) w a1 len1 cap1 xs1) :
    Calls Try.prog 3 #[.agg #[.int .i64 v0, .int .i64 v1, .int .i64 v2, .int .i64 v3, .int .i64 v4, .int .i64 v5], .slice a1 len1 cap1] w fun e w' => e = .returned (.bool true) ∧ Below w.heap.size w w' := by
  have HA : Hid (∀ w0, Calls Try.prog 7 #[] w0 (AwakePost w0)) := awake_any
  clear _w00 _w01 _w02 _w03 _w04 _w05
  by_cases hbig : len1 > 100
  · have hll := w1.1
    clear w1
    go_enter Try.func3, Try.ntmps3
    go_wp2_with fail
    refine (HA.out _).mono ?_
    rintro e w2 ⟨rfl, hb2⟩
    have hM := Lib.hid (lo_trans (lo_alloc (lo_refl w) (.cells #[.int .i64 v0, .int .i64 v1, .int .i64 v2, .int .i64 v3, .int .i64 v4, .int .i64 v5] 23)) hb2)
    clear hb2
    go_wp2_with fail
    go_ret
    exact ⟨rfl, hM.out⟩
  · have HW := Lib.hid w1
    have hV := Blk.new w 23 #[.int .i64 v0, .int .i64 v1, .int .i64 v2, .int .i64 v3, .int .i64 v4, .int .i64 v5]
    have hL := lo_alloc (lo_refl w) (.cells #[.int .i64 v0, .int .i64 v1, .int .i64 v2, .int .i64 v3, .int .i64 v4, .int .i64 v5] 23)
    have hr := ap_code (Vs.mk v0 v1 v2 v3 v4 v5) xs1
    obtain ⟨r, hR⟩ : ∃ r, applyL (Vs.mk v0 v1 v2 v3 v4 v5) xs1 = r := ⟨_, rfl⟩
    obtain ⟨E, hE⟩ : ∃ E, (Vs.mk v0 v1 v2 v3 v4 v5).err = E := ⟨_, rfl⟩
    have H1 : Hid (∀ w0, Prs w0 a1 len1 cap1 xs1 → Calls Try.prog 8 #[.agg #[.int .i64 v0, .int .i64 v1, .int .i64 v2, .int .i64 v3, .int .i64 v4, .int .i64 v5], .slice a1 len1 cap1] w0 (ApplyPost w0 .u32 r)) := Lib.hid fun w0 h0 => by
      have := apply_any (Vs.mk v0 v1 v2 v3 v4 v5) a1 len1 cap1 xs1 w0 h0
      rw [hR] at this
      exact this
    have H2 : Hid (∀ w0, Prs w0 a1 len1 cap1 xs1 → Calls Try.prog 9 #[.agg #[.int .i64 v0, .int .i64 v1, .int .i64 v2, .int .i64 v3, .int .i64 v4, .int .i64 v5], .slice a1 len1 cap1] w0 (ApplyPost w0 .i64 r)) := Lib.hid fun w0 h0 => by
      have := apply_ref (Vs.mk v0 v1 v2 v3 v4 v5) a1 len1 cap1 xs1 w0 h0
      rw [hR] at this
      exact this
    have HC1 : Hid (∀ w0, Calls Try.prog 10 #[.agg #[.int .i64 v0, .int .i64 v1, .int .i64 v2, .int .i64 v3, .int .i64 v4, .int .i64 v5]] w0 (IntPost w0 E)) := Lib.hid fun w0 => by
      have := check_any (Vs.mk v0 v1 v2 v3 v4 v5) w0
      rw [hE] at this
      exact this
    have HC2 : Hid (∀ w0, Calls Try.prog 11 #[.agg #[.int .i64 v0, .int .i64 v1, .int .i64 v2, .int .i64 v3, .int .i64 v4, .int .i64 v5]] w0 (IntPost w0 E)) := Lib.hid fun w0 => by
      have := check_ref (Vs.mk v0 v1 v2 v3 v4 v5) w0
      rw [hE] at this
      exact this
    have HF1 := Lib.hid first_any
    have HF2 := Lib.hid first_ref
    rw [hR] at hr
    clear hR hE w1
    obtain ⟨⟨r0, r1, r2, r3, r4, r5⟩, c⟩ := r
    obtain ⟨c0, c1⟩ := hr
    simp only at c0 c1
    go_enter Try.func3, Try.ntmps3
    go_wp2_with fail
    refine (H1.out _ (agg_lo HW.out hL)).mono ?_
    rintro e w1 ⟨rfl, hb⟩
    replace hV := (hV.lo hb).alloc (.cells #[.int .i64 r0, .int .i64 r1, .int .i64 r2, .int .i64 r3, .int .i64 r4, .int .i64 r5] 26)
    have hX := Blk.new w1 26 #[.int .i64 r0, .int .i64 r1, .int .i64 r2, .int .i64 r3, .int .i64 r4, .int .i64 r5]
    replace hL := lo_alloc (lo_trans hL hb) (.cells #[.int .i64 r0, .int .i64 r1, .int .i64 r2, .int .i64 r3, .int .i64 r4, .int .i64 r5] 26)
    clear hb H1
    go_upto_region 4 with fail
    generalize w1.heap.size = g5 at hX ⊢
    generalize w1.alloc (.cells #[.int .i64 r0, .int .i64 r1, .int .i64 r2, .int .i64 r3, .int .i64 r4, .int .i64 r5] 26) = w2 at hX hV hL ⊢
    obtain ⟨cV, fV⟩ := hV.facts
    go_wp2_with fail
    refine (H2.out _ (agg_lo HW.out hL)).mono ?_
    rintro e w3 ⟨rfl, hb⟩
    replace hV := (hV.lo hb).alloc (.cells #[.int .i64 r0, .int .i64 r1, .int .i64 r2, .int .i64 r3, .int .i64 r4, .int .i64 r5] 23)
    replace hX := (hX.lo hb).alloc (.cells #[.int .i64 r0, .int .i64 r1, .int .i64 r2, .int .i64 r3, .int .i64 r4, .int .i64 r5] 23)
    have hY := Blk.new w3 23 #[.int .i64 r0, .int .i64 r1, .int .i64 r2, .int .i64 r3, .int .i64 r4, .int .i64 r5]
    replace hL := lo_alloc (lo_trans hL hb) (.cells #[.int .i64 r0, .int .i64 r1, .int .i64 r2, .int .i64 r3, .int .i64 r4, .int .i64 r5] 23)
    clear hb H2 cV fV HW
    go_upto_region 5 with fail
    generalize w3.heap.size = g7 at hY ⊢
    generalize w3.alloc (.cells #[.int .i64 r0, .int .i64 r1, .int .i64 r2, .int .i64 r3, .int .i64 r4, .int .i64 r5] 23) = w4 at hX hY hV hL ⊢
    have hwc : IntKind.i64.wrap c = c := IntWalk.i64_in _ (by omega)
    refine wp_region_held_drew (S := (fun W => W.cell? ⟨g5, 0, none⟩ = some (.int .i64 r0) ∧ W.cell? ⟨g5, 1, none⟩ = some (.int .i64 r1) ∧ W.cell? ⟨g5, 2, none⟩ = some (.int .i64 r2) ∧ W.cell? ⟨g5, 3, none⟩ = some (.int .i64 r3) ∧ W.cell? ⟨g5, 4, none⟩ = some (.int .i64 r4) ∧ W.cell? ⟨g5, 5, none⟩ = some (.int .i64 r5) ∧ g5 < W.heap.size ∧ W.cell? ⟨g7, 0, none⟩ = some (.int .i64 r0) ∧ W.cell? ⟨g7, 1, none⟩ = some (.int .i64 r1) ∧ W.cell? ⟨g7, 2, none⟩ = some (.int .i64 r2) ∧ W.cell? ⟨g7, 3, none⟩ = some (.int .i64 r3) ∧ W.cell? ⟨g7, 4, none⟩ = some (.int .i64 r4) ∧ W.cell? ⟨g7, 5, none⟩ = some (.int .i64 r5) ∧ g7 < W.heap.size ∧ W.cell? ⟨w.heap.size, 0, none⟩ = some (.int .i64 v0) ∧ W.cell? ⟨w.heap.size, 1, none⟩ = some (.int .i64 v1) ∧ W.cell? ⟨w.heap.size, 2, none⟩ = some (.int .i64 v2) ∧ W.cell? ⟨w.heap.size, 3, none⟩ = some (.int .i64 v3) ∧ W.cell? ⟨w.heap.size, 4, none⟩ = some (.int .i64 v4) ∧ W.cell? ⟨w.heap.size, 5, none⟩ = some (.int .i64 v5) ∧ w.heap.size < W.heap.size)) (by kernel_rfl) ?_ (fun hHeld => ?_)
    focus ((try dsimp only); (have qX := hX.facts.1; have qY := hY.facts.1; have qV := hV.facts.1; exact ⟨qX 0, qX 1, qX 2, qX 3, qX 4, qX 5, hX.lt, qY 0, qY 1, qY 2, qY 3, qY 4, qY 5, hY.lt, qV 0, qV 1, qV 2, qV 3, qV 4, qV 5, hV.lt⟩))
    replace hX : Blk w4.drew _ _ _ := hX
    replace hY : Blk w4.drew _ _ _ := hY
    replace hV : Blk w4.drew _ _ _ := hV
    replace hL := lo_drew hL
    generalize w4.drew = wd at hX hY hV hL hHeld ⊢
    first
    | (refine wpAnyH_take (i := 0) (oi := _) (v := ?_) (getop rfl) (by kernel_rfl) (by kernel_rfl) (by kernel_rfl) (fun _ _ _ h => h) (Or.inl ⟨by rfl, ?_⟩) (by assumption) ?_; rotate_left; focus (intro w hSw; (try dsimp only at hSw); go_simp; (try with_reducible rfl); done))
    | (refine wpAnyH_take (i := 0) (oi := _) (v := undef) (getop rfl) (by kernel_rfl) (by kernel_rfl) (by kernel_rfl) (fun _ _ _ h => h) (Or.inr ⟨by rfl, rfl⟩) (by assumption) ?_)
    (try simp only [Act.put, List.setIfInBounds_toArray, List.set_cons_zero, List.set_cons_succ])
    first
    | (refine wpAnyH_take (i := 1) (oi := _) (v := ?_) (getop rfl) (by kernel_rfl) (by kernel_rfl) (by kernel_rfl) (fun _ _ _ h => h) (Or.inl ⟨by rfl, ?_⟩) (by assumption) ?_; rotate_left; focus (intro w hSw; (try dsimp only at hSw); go_simp; (try with_reducible rfl); done))
    | (refine wpAnyH_take (i := 1) (oi := _) (v := undef) (getop rfl) (by kernel_rfl) (by kernel_rfl) (by kernel_rfl) (fun _ _ _ h => h) (Or.inr ⟨by rfl, rfl⟩) (by assumption) ?_)
    (try simp only [Act.put, List.setIfInBounds_toArray, List.set_cons_zero, List.set_cons_succ])
    first
    | (refine wpAnyH_take (i := 2) (oi := _) (v := ?_) (getop rfl) (by kernel_rfl) (by kernel_rfl) (by kernel_rfl) (fun _ _ _ h => h) (Or.inl ⟨by rfl, ?_⟩) (by assumption) ?_; rotate_left; focus (intro w hSw; (try dsimp only at hSw); go_simp; (try with_reducible rfl); done))
    | (refine wpAnyH_take (i := 2) (oi := _) (v := undef) (getop rfl) (by kernel_rfl) (by kernel_rfl) (by kernel_rfl) (fun _ _ _ h => h) (Or.inr ⟨by rfl, rfl⟩) (by assumption) ?_)
    (try simp only [Act.put, List.setIfInBounds_toArray, List.set_cons_zero, List.set_cons_succ])
    first
    | (refine wpAnyH_take (i := 3) (oi := _) (v := ?_) (getop rfl) (by kernel_rfl) (by kernel_rfl) (by kernel_rfl) (fun _ _ _ h => h) (Or.inl ⟨by rfl, ?_⟩) (by assumption) ?_; rotate_left; focus (intro w hSw; (try dsimp only at hSw); go_simp; (try with_reducible rfl); done))
    | (refine wpAnyH_take (i := 3) (oi := _) (v := undef) (getop rfl) (by kernel_rfl) (by kernel_rfl) (by kernel_rfl) (fun _ _ _ h => h) (Or.inr ⟨by rfl, rfl⟩) (by assumption) ?_)
    (try simp only [Act.put, List.setIfInBounds_toArray, List.set_cons_zero, List.set_cons_succ])
    first
    | (refine wpAnyH_take (i := 4) (oi := _) (v := ?_) (getop rfl) (by kernel_rfl) (by kernel_rfl) (by kernel_rfl) (fun _ _ _ h => h) (Or.inl ⟨by rfl, ?_⟩) (by assumption) ?_; rotate_left; focus (intro w hSw; (try dsimp only at hSw); go_simp; (try with_reducible rfl); done))
    | (refine wpAnyH_take (i := 4) (oi := _) (v := undef) (getop rfl) (by kernel_rfl) (by kernel_rfl) (by kernel_rfl) (fun _ _ _ h => h) (Or.inr ⟨by rfl, rfl⟩) (by assumption) ?_)
    (try simp only [Act.put, List.setIfInBounds_toArray, List.set_cons_zero, List.set_cons_succ])
    first
    | (refine wpAnyH_take (i := 5) (oi := _) (v := ?_) (getop rfl) (by kernel_rfl) (by kernel_rfl) (by kernel_rfl) (fun _ _ _ h => h) (Or.inl ⟨by rfl, ?_⟩) (by assumption) ?_; rotate_left; focus (intro w hSw; (try dsimp only at hSw); go_simp; (try with_reducible rfl); done))
    | (refine wpAnyH_take (i := 5) (oi := _) (v := undef) (getop rfl) (by kernel_rfl) (by kernel_rfl) (by kernel_rfl) (fun _ _ _ h => h) (Or.inr ⟨by rfl, rfl⟩) (by assumption) ?_)
    (try simp only [Act.put, List.setIfInBounds_toArray, List.set_cons_zero, List.set_cons_succ])
    first
    | (refine wpAnyH_take (i := 6) (oi := _) (v := ?_) (getop rfl) (by kernel_rfl) (by kernel_rfl) (by kernel_rfl) (fun _ _ _ h => h) (Or.inl ⟨by rfl, ?_⟩) (by assumption) ?_; rotate_left; focus (intro w hSw; (try dsimp only at hSw); go_simp; (try with_reducible rfl); done))
    | (refine wpAnyH_take (i := 6) (oi := _) (v := undef) (getop rfl) (by kernel_rfl) (by kernel_rfl) (by kernel_rfl) (fun _ _ _ h => h) (Or.inr ⟨by rfl, rfl⟩) (by assumption) ?_)
    (try simp only [Act.put, List.setIfInBounds_toArray, List.set_cons_zero, List.set_cons_succ])
    first
    | (refine wpAnyH_take (i := 7) (oi := _) (v := ?_) (getop rfl) (by kernel_rfl) (by kernel_rfl) (by kernel_rfl) (fun _ _ _ h => h) (Or.inl ⟨by rfl, ?_⟩) (by assumption) ?_; rotate_left; focus (intro w hSw; (try dsimp only at hSw); go_simp; (try with_reducible rfl); done))
    | (refine wpAnyH_take (i := 7) (oi := _) (v := undef) (getop rfl) (by kernel_rfl) (by kernel_rfl) (by kernel_rfl) (fun _ _ _ h => h) (Or.inr ⟨by rfl, rfl⟩) (by assumption) ?_)
    (try simp only [Act.put, List.setIfInBounds_toArray, List.set_cons_zero, List.set_cons_succ])
    first
    | (refine wpAnyH_take (i := 8) (oi := _) (v := ?_) (getop rfl) (by kernel_rfl) (by kernel_rfl) (by kernel_rfl) (fun _ _ _ h => h) (Or.inl ⟨by rfl, ?_⟩) (by assumption) ?_; rotate_left; focus (intro w hSw; (try dsimp only at hSw); go_simp; (try with_reducible rfl); done))
    | (refine wpAnyH_take (i := 8) (oi := _) (v := undef) (getop rfl) (by kernel_rfl) (by kernel_rfl) (by kernel_rfl) (fun _ _ _ h => h) (Or.inr ⟨by rfl, rfl⟩) (by assumption) ?_)
    (try simp only [Act.put, List.setIfInBounds_toArray, List.set_cons_zero, List.set_cons_succ])
    first
    | (refine wpAnyH_take (i := 9) (oi := _) (v := ?_) (getop rfl) (by kernel_rfl) (by kernel_rfl) (by kernel_rfl) (fun _ _ _ h => h) (Or.inl ⟨by rfl, ?_⟩) (by assumption) ?_; rotate_left; focus (intro w hSw; (try dsimp only at hSw); go_simp; (try with_reducible rfl); done))
    | (refine wpAnyH_take (i := 9) (oi := _) (v := undef) (getop rfl) (by kernel_rfl) (by kernel_rfl) (by kernel_rfl) (fun _ _ _ h => h) (Or.inr ⟨by rfl, rfl⟩) (by assumption) ?_)
    (try simp only [Act.put, List.setIfInBounds_toArray, List.set_cons_zero, List.set_cons_succ])
    first
    | (refine wpAnyH_take (i := 10) (oi := _) (v := ?_) (getop rfl) (by kernel_rfl) (by kernel_rfl) (by kernel_rfl) (fun _ _ _ h => h) (Or.inl ⟨by rfl, ?_⟩) (by assumption) ?_; rotate_left; focus (intro w hSw; (try dsimp only at hSw); go_simp; (try with_reducible rfl); done))
    | (refine wpAnyH_take (i := 10) (oi := _) (v := undef) (getop rfl) (by kernel_rfl) (by kernel_rfl) (by kernel_rfl) (fun _ _ _ h => h) (Or.inr ⟨by rfl, rfl⟩) (by assumption) ?_)
    (try simp only [Act.put, List.setIfInBounds_toArray, List.set_cons_zero, List.set_cons_succ])
    first
    | (refine wpAnyH_take (i := 12) (oi := _) (v := ?_) (getop rfl) (by kernel_rfl) (by kernel_rfl) (by kernel_rfl) (fun _ _ _ h => h) (Or.inl ⟨by rfl, ?_⟩) (by assumption) ?_; rotate_left; focus (intro w hSw; (try dsimp only at hSw); go_simp; (try with_reducible rfl); done))
    | (refine wpAnyH_take (i := 12) (oi := _) (v := undef) (getop rfl) (by kernel_rfl) (by kernel_rfl) (by kernel_rfl) (fun _ _ _ h => h) (Or.inr ⟨by rfl, rfl⟩) (by assumption) ?_)
    (try simp only [Act.put, List.setIfInBounds_toArray, List.set_cons_zero, List.set_cons_succ])
    refine wpAnyH_ready (rs := [11]) (by kernel_rfl) (by simp) ?_
    refine AllReadyH.cons (o := _) (getop rfl) (fun K hK => ?_) AllReadyH.nil
    go_simp
    (refine (HC1.out _).mono ?_; rintro e wx ⟨rfl, hb⟩; replace hX := hX.lo hb; replace hY := hY.lo hb; replace hV := hV.lo hb; replace hL := lo_trans hL hb; clear hb)
    refine hK.out _ _ ?_ (fun hHeld11 => ?_)
    focus ((try dsimp only); (have qX := hX.facts.1; have qY := hY.facts.1; have qV := hV.facts.1; exact ⟨qX 0, qX 1, qX 2, qX 3, qX 4, qX 5, hX.lt, qY 0, qY 1, qY 2, qY 3, qY 4, qY 5, hY.lt, qV 0, qV 1, qV 2, qV 3, qV 4, qV 5, hV.lt⟩))
    clear hK K hHeld
    have hHeld := hHeld11
    clear hHeld11
    (try simp only [Act.put, List.setIfInBounds_toArray, List.set_cons_zero, List.set_cons_succ])
    refine wpAnyH_ready (rs := [13]) (by kernel_rfl) (by simp) ?_
    refine AllReadyH.cons (o := _) (getop rfl) (fun K hK => ?_) AllReadyH.nil
    go_simp
    (refine (HC2.out _).mono ?_; rintro e wx ⟨rfl, hb⟩; replace hX := hX.lo hb; replace hY := hY.lo hb; replace hV := hV.lo hb; replace hL := lo_trans hL hb; clear hb)
    refine hK.out _ _ ?_ (fun hHeld13 => ?_)
    focus ((try dsimp only); (have qX := hX.facts.1; have qY := hY.facts.1; have qV := hV.facts.1; exact ⟨qX 0, qX 1, qX 2, qX 3, qX 4, qX 5, hX.lt, qY 0, qY 1, qY 2, qY 3, qY 4, qY 5, hY.lt, qV 0, qV 1, qV 2, qV 3, qV 4, qV 5, hV.lt⟩))
    clear hK K hHeld
    have hHeld := hHeld13
    clear hHeld13
    (try simp only [Act.put, List.setIfInBounds_toArray, List.set_cons_zero, List.set_cons_succ])
    first
    | (refine wpAnyH_take (i := 14) (oi := _) (v := ?_) (getop rfl) (by kernel_rfl) (by kernel_rfl) (by kernel_rfl) (fun _ _ _ h => h) (Or.inl ⟨by rfl, ?_⟩) (by assumption) ?_; rotate_left; focus (intro w hSw; (try dsimp only at hSw); go_simp; (try with_reducible rfl); done))
    | (refine wpAnyH_take (i := 14) (oi := _) (v := undef) (getop rfl) (by kernel_rfl) (by kernel_rfl) (by kernel_rfl) (fun _ _ _ h => h) (Or.inr ⟨by rfl, rfl⟩) (by assumption) ?_)
    (try simp only [Act.put, List.setIfInBounds_toArray, List.set_cons_zero, List.set_cons_succ])
    first
    | (refine wpAnyH_take (i := 15) (oi := _) (v := ?_) (getop rfl) (by kernel_rfl) (by kernel_rfl) (by kernel_rfl) (fun _ _ _ h => h) (Or.inl ⟨by rfl, ?_⟩) (by assumption) ?_; rotate_left; focus (intro w hSw; (try dsimp only at hSw); go_simp; (try with_reducible rfl); done))
    | (refine wpAnyH_take (i := 15) (oi := _) (v := undef) (getop rfl) (by kernel_rfl) (by kernel_rfl) (by kernel_rfl) (fun _ _ _ h => h) (Or.inr ⟨by rfl, rfl⟩) (by assumption) ?_)
    (try simp only [Act.put, List.setIfInBounds_toArray, List.set_cons_zero, List.set_cons_succ])
    first
    | (refine wpAnyH_take (i := 16) (oi := _) (v := ?_) (getop rfl) (by kernel_rfl) (by kernel_rfl) (by kernel_rfl) (fun _ _ _ h => h) (Or.inl ⟨by rfl, ?_⟩) (by assumption) ?_; rotate_left; focus (intro w hSw; (try dsimp only at hSw); go_simp; (try with_reducible rfl); done))
    | (refine wpAnyH_take (i := 16) (oi := _) (v := undef) (getop rfl) (by kernel_rfl) (by kernel_rfl) (by kernel_rfl) (fun _ _ _ h => h) (Or.inr ⟨by rfl, rfl⟩) (by assumption) ?_)
    (try simp only [Act.put, List.setIfInBounds_toArray, List.set_cons_zero, List.set_cons_succ])
    refine wpAnyH_ready (rs := [17]) (by kernel_rfl) (by simp) ?_
    refine AllReadyH.cons (o := _) (getop rfl) (fun K hK => ?_) AllReadyH.nil
    go_simp
    (refine (HF1.out _).mono ?_; rintro e wx ⟨rfl, hb⟩; replace hX := hX.lo hb; replace hY := hY.lo hb; replace hV := hV.lo hb; replace hL := lo_trans hL hb; clear hb)
    refine hK.out _ _ ?_ (fun hHeld17 => ?_)
    focus ((try dsimp only); (have qX := hX.facts.1; have qY := hY.facts.1; have qV := hV.facts.1; exact ⟨qX 0, qX 1, qX 2, qX 3, qX 4, qX 5, hX.lt, qY 0, qY 1, qY 2, qY 3, qY 4, qY 5, hY.lt, qV 0, qV 1, qV 2, qV 3, qV 4, qV 5, hV.lt⟩))
    clear hK K hHeld
    have hHeld := hHeld17
    clear hHeld17
    (try simp only [Act.put, List.setIfInBounds_toArray, List.set_cons_zero, List.set_cons_succ])
    refine wpAnyH_ready (rs := [18]) (by kernel_rfl) (by simp) ?_
    refine AllReadyH.cons (o := _) (getop rfl) (fun K hK => ?_) AllReadyH.nil
    go_simp
    (refine (HF2.out _).mono ?_; rintro e wx ⟨rfl, hb⟩; replace hX := hX.lo hb; replace hY := hY.lo hb; replace hV := hV.lo hb; replace hL := lo_trans hL hb; clear hb)
    refine hK.out _ _ ?_ (fun hHeld18 => ?_)
    focus ((try dsimp only); (have qX := hX.facts.1; have qY := hY.facts.1; have qV := hV.facts.1; exact ⟨qX 0, qX 1, qX 2, qX 3, qX 4, qX 5, hX.lt, qY 0, qY 1, qY 2, qY 3, qY 4, qY 5, hY.lt, qV 0, qV 1, qV 2, qV 3, qV 4, qV 5, hV.lt⟩))
    clear hK K hHeld
    have hHeld := hHeld18
    clear hHeld18
    (try simp only [Act.put, List.setIfInBounds_toArray, List.set_cons_zero, List.set_cons_succ])
    first
    | (refine wpAnyH_take (i := 19) (oi := _) (v := ?_) (getop rfl) (by kernel_rfl) (by kernel_rfl) (by kernel_rfl) (fun _ _ _ h => h) (Or.inl ⟨by rfl, ?_⟩) (by assumption) ?_; rotate_left; focus (intro w hSw; (try dsimp only at hSw); go_simp; (try with_reducible rfl); done))
    | (refine wpAnyH_take (i := 19) (oi := _) (v := undef) (getop rfl) (by kernel_rfl) (by kernel_rfl) (by kernel_rfl) (fun _ _ _ h => h) (Or.inr ⟨by rfl, rfl⟩) (by assumption) ?_)
    (try simp only [Act.put, List.setIfInBounds_toArray, List.set_cons_zero, List.set_cons_succ])
    first
    | (refine wpAnyH_take (i := 20) (oi := _) (v := ?_) (getop rfl) (by kernel_rfl) (by kernel_rfl) (by kernel_rfl) (fun _ _ _ h => h) (Or.inl ⟨by rfl, ?_⟩) (by assumption) ?_; rotate_left; focus (intro w hSw; (try dsimp only at hSw); go_simp; (try with_reducible rfl); done))
    | (refine wpAnyH_take (i := 20) (oi := _) (v := undef) (getop rfl) (by kernel_rfl) (by kernel_rfl) (by kernel_rfl) (fun _ _ _ h => h) (Or.inr ⟨by rfl, rfl⟩) (by assumption) ?_)
    (try simp only [Act.put, List.setIfInBounds_toArray, List.set_cons_zero, List.set_cons_succ])
    first
    | (refine wpAnyH_take (i := 21) (oi := _) (v := ?_) (getop rfl) (by kernel_rfl) (by kernel_rfl) (by kernel_rfl) (fun _ _ _ h => h) (Or.inl ⟨by rfl, ?_⟩) (by assumption) ?_; rotate_left; focus (intro w hSw; (try dsimp only at hSw); go_simp; (try with_reducible rfl); done))
    | (refine wpAnyH_take (i := 21) (oi := _) (v := undef) (getop rfl) (by kernel_rfl) (by kernel_rfl) (by kernel_rfl) (fun _ _ _ h => h) (Or.inr ⟨by rfl, rfl⟩) (by assumption) ?_)
    (try simp only [Act.put, List.setIfInBounds_toArray, List.set_cons_zero, List.set_cons_succ])
    refine wpAnyH_ready (rs := [22]) (by kernel_rfl) (by simp) ?_
    refine AllReadyH.cons (o := _) (getop rfl) (fun K hK => ?_) AllReadyH.nil
    go_simp
    (refine (HA.out _).mono ?_; rintro e wx ⟨rfl, hb⟩; replace hX := hX.lo hb; replace hY := hY.lo hb; replace hV := hV.lo hb; replace hL := lo_trans hL hb; clear hb)
    refine hK.out _ _ ?_ (fun hHeld22 => ?_)
    focus ((try dsimp only); (have qX := hX.facts.1; have qY := hY.facts.1; have qV := hV.facts.1; exact ⟨qX 0, qX 1, qX 2, qX 3, qX 4, qX 5, hX.lt, qY 0, qY 1, qY 2, qY 3, qY 4, qY 5, hY.lt, qV 0, qV 1, qV 2, qV 3, qV 4, qV 5, hV.lt⟩))
    clear hK K hHeld
    have hHeld := hHeld22
    clear hHeld22
    (try simp only [Act.put, List.setIfInBounds_toArray, List.set_cons_zero, List.set_cons_succ])
    first
    | (refine wpAnyH_take (i := 23) (oi := _) (v := ?_) (getop rfl) (by kernel_rfl) (by kernel_rfl) (by kernel_rfl) (fun _ _ _ h => h) (Or.inl ⟨by rfl, ?_⟩) (by assumption) ?_; rotate_left; focus (intro w hSw; (try dsimp only at hSw); go_simp; (try with_reducible rfl); done))
    | (refine wpAnyH_take (i := 23) (oi := _) (v := undef) (getop rfl) (by kernel_rfl) (by kernel_rfl) (by kernel_rfl) (fun _ _ _ h => h) (Or.inr ⟨by rfl, rfl⟩) (by assumption) ?_)
    (try simp only [Act.put, List.setIfInBounds_toArray, List.set_cons_zero, List.set_cons_succ])
    first
    | (refine wpAnyH_take (i := 24) (oi := _) (v := ?_) (getop rfl) (by kernel_rfl) (by kernel_rfl) (by kernel_rfl) (fun _ _ _ h => h) (Or.inl ⟨by rfl, ?_⟩) (by assumption) ?_; rotate_left; focus (intro w hSw; (try dsimp only at hSw); go_simp; (try with_reducible rfl); done))
    | (refine wpAnyH_take (i := 24) (oi := _) (v := undef) (getop rfl) (by kernel_rfl) (by kernel_rfl) (by kernel_rfl) (fun _ _ _ h => h) (Or.inr ⟨by rfl, rfl⟩) (by assumption) ?_)
    (try simp only [Act.put, List.setIfInBounds_toArray, List.set_cons_zero, List.set_cons_succ])
    refine wpAnyH_done (by kernel_rfl) ?_ _
    have hM := Lib.hid hL
    clear hX hY hV hL hHeld
    go_wp2_with fail
    go_ret
    exact ⟨rfl, hM.out⟩
end Go.Proofs.Ythjciimodemfpaa
