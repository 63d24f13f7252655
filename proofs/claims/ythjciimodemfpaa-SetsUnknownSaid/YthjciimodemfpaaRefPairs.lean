import Derived.Test.YthjciimodemfpaaPairs
namespace Go.Proofs.Ythjciimodemfpaa
open Go.RowKit
attribute [local go_sem ↓] Go.wp_at_zero Go.wp_at_succ

set_option maxRecDepth 100000 in
set_option maxHeartbeats 6400000 in
theorem pairs_ref (v0 v1 v2 v3 v4 v5 x0 x1 x2 x3 x4 x5 : Int) (w : World) : Calls Try.prog 16 #[.agg #[.int .i64 v0, .int .i64 v1, .int .i64 v2, .int .i64 v3, .int .i64 v4, .int .i64 v5], .agg #[.int .i64 x0, .int .i64 x1, .int .i64 x2, .int .i64 x3, .int .i64 x4, .int .i64 x5]] w (PairsPost w (pairsL (Vs.mk v0 v1 v2 v3 v4 v5) (Vs.mk x0 x1 x2 x3 x4 x5))) := by
  have hV := (Blk.new w 23 #[.int .i64 v0, .int .i64 v1, .int .i64 v2, .int .i64 v3, .int .i64 v4, .int .i64 v5]).alloc (.cells #[.int .i64 x0, .int .i64 x1, .int .i64 x2, .int .i64 x3, .int .i64 x4, .int .i64 x5] 23)
  have hW := Blk.new (w.alloc (.cells #[.int .i64 v0, .int .i64 v1, .int .i64 v2, .int .i64 v3, .int .i64 v4, .int .i64 v5] 23)) 23 #[.int .i64 x0, .int .i64 x1, .int .i64 x2, .int .i64 x3, .int .i64 x4, .int .i64 x5]
  have hL := lo_alloc (lo_alloc (lo_refl w) (.cells #[.int .i64 v0, .int .i64 v1, .int .i64 v2, .int .i64 v3, .int .i64 v4, .int .i64 v5] 23)) (.cells #[.int .i64 x0, .int .i64 x1, .int .i64 x2, .int .i64 x3, .int .i64 x4, .int .i64 x5] 23)
  simp only [World.size_alloc] at hW
  have HC1 : Hid (∀ w1, Calls Try.prog 11 #[.agg #[.int .i64 v0, .int .i64 v1, .int .i64 v2, .int .i64 v3, .int .i64 v4, .int .i64 v5]] w1 (IntPost w1 (Vs.mk v0 v1 v2 v3 v4 v5).err)) := check_ref (Vs.mk v0 v1 v2 v3 v4 v5)
  have HC2 : Hid (∀ w1, Calls Try.prog 11 #[.agg #[.int .i64 x0, .int .i64 x1, .int .i64 x2, .int .i64 x3, .int .i64 x4, .int .i64 x5]] w1 (IntPost w1 (Vs.mk x0 x1 x2 x3 x4 x5).err)) := check_ref (Vs.mk x0 x1 x2 x3 x4 x5)
  have HA1 : Hid (∀ w1, Calls Try.prog 24 #[.agg #[.int .i64 v0, .int .i64 v1, .int .i64 v2, .int .i64 v3, .int .i64 v4, .int .i64 v5]] w1 (AllPost w1 (Vs.mk v0 v1 v2 v3 v4 v5))) := all_ref (Vs.mk v0 v1 v2 v3 v4 v5)
  have HA2 : Hid (∀ w1, Calls Try.prog 24 #[.agg #[.int .i64 x0, .int .i64 x1, .int .i64 x2, .int .i64 x3, .int .i64 x4, .int .i64 x5]] w1 (AllPost w1 (Vs.mk x0 x1 x2 x3 x4 x5))) := all_ref (Vs.mk x0 x1 x2 x3 x4 x5)
  rcases err_cases (Vs.mk v0 v1 v2 v3 v4 v5) with ⟨hok, he⟩ | ⟨hok, he⟩
  rotate_left
  · rw [he] at HC1
    have HP : Hid (pairsL (Vs.mk v0 v1 v2 v3 v4 v5) (Vs.mk x0 x1 x2 x3 x4 x5) = []) := Lib.hid (pairs_none (.inr (.inl hok)))
    clear he hok
    go_enter Try.func16, Try.ntmps16
    go_wp2_with fail
    refine (HC1.out _).mono ?_
    rintro e w1 ⟨rfl, hb⟩
    have hL2 := Lib.hid (lo_trans hL hb)
    clear hb
    go_wp2_with fail
    go_ret
    exact ⟨w.heap.size, _, Nat.le_refl _, hL2.out.size, rfl, by rw [HP.out]; exact World.ownsRow_nil _ _ _ _, hL2.out⟩
  rw [he] at HC1
  clear he
  go_enter Try.func16, Try.ntmps16
  go_wp2_with fail
  refine (HC1.out _).mono ?_
  rintro e w1 ⟨rfl, hb⟩
  replace hV := hV.lo hb
  replace hW := hW.lo hb
  replace hL := lo_trans hL hb
  clear hb HC1
  obtain ⟨cW, fW⟩ := hW.facts
  rcases err_cases (Vs.mk x0 x1 x2 x3 x4 x5) with ⟨hok2, he⟩ | ⟨hok2, he⟩
  rotate_left
  · rw [he] at HC2
    have HP : Hid (pairsL (Vs.mk v0 v1 v2 v3 v4 v5) (Vs.mk x0 x1 x2 x3 x4 x5) = []) := Lib.hid (pairs_none (.inr (.inr hok2)))
    clear he hok
    go_wp2_with fail
    refine (HC2.out _).mono ?_
    rintro e w2 ⟨rfl, hb⟩
    have hL2 := Lib.hid (lo_trans hL hb)
    clear hb
    go_wp2_with fail
    go_ret
    exact ⟨w.heap.size, _, Nat.le_refl _, hL2.out.size, rfl, by rw [HP.out]; exact World.ownsRow_nil _ _ _ _, hL2.out⟩
  rw [he] at HC2
  have HP : Hid (pairsL (Vs.mk v0 v1 v2 v3 v4 v5) (Vs.mk x0 x1 x2 x3 x4 x5) = upL (Vs.mk v0 v1 v2 v3 v4 v5) (Vs.mk x0 x1 x2 x3 x4 x5) 6) := Lib.hid (if_pos ⟨hok, hok2⟩)
  have hbd : (0 ≤ x0 ∧ x0 ≤ 4294967295) ∧ (0 ≤ x1 ∧ x1 ≤ 4294967295) ∧ (0 ≤ x2 ∧ x2 ≤ 4294967295) ∧ (0 ≤ x3 ∧ x3 ≤ 4294967295) ∧ (0 ≤ x4 ∧ x4 ≤ 4294967295) ∧ (0 ≤ x5 ∧ x5 ≤ 4294967295) := by
    obtain ⟨b0, b1, b2, b3, b4, b5⟩ := hok2
    exact ⟨⟨b0.1, b0.2.1⟩, ⟨b1.1, b1.2.1⟩, ⟨b2.1, b2.2.1⟩, ⟨b3.1, b3.2.1⟩, ⟨b4.1, b4.2.1⟩, b5.1, b5.2.1⟩
  clear he hok hok2
  go_wp2_with fail
  refine (HC2.out _).mono ?_
  rintro e w0 ⟨rfl, hb⟩
  replace hV := hV.lo hb
  replace hW := hW.lo hb
  replace hL := lo_trans hL hb
  clear hb HC2 cW fW
  go_upto_region 3 with fail
  refine wp_region_held_drew (S := (fun W => W.cell? ⟨w.heap.size, 0, none⟩ = some (.int .i64 v0) ∧ W.cell? ⟨w.heap.size, 1, none⟩ = some (.int .i64 v1) ∧ W.cell? ⟨w.heap.size, 2, none⟩ = some (.int .i64 v2) ∧ W.cell? ⟨w.heap.size, 3, none⟩ = some (.int .i64 v3) ∧ W.cell? ⟨w.heap.size, 4, none⟩ = some (.int .i64 v4) ∧ W.cell? ⟨w.heap.size, 5, none⟩ = some (.int .i64 v5) ∧ w.heap.size < W.heap.size ∧ W.cell? ⟨w.heap.size + 1, 0, none⟩ = some (.int .i64 x0) ∧ W.cell? ⟨w.heap.size + 1, 1, none⟩ = some (.int .i64 x1) ∧ W.cell? ⟨w.heap.size + 1, 2, none⟩ = some (.int .i64 x2) ∧ W.cell? ⟨w.heap.size + 1, 3, none⟩ = some (.int .i64 x3) ∧ W.cell? ⟨w.heap.size + 1, 4, none⟩ = some (.int .i64 x4) ∧ W.cell? ⟨w.heap.size + 1, 5, none⟩ = some (.int .i64 x5) ∧ w.heap.size + 1 < W.heap.size)) (by kernel_rfl) ?_ (fun hHeld => ?_)
  focus ((try dsimp only); (have q := hV.facts.1; have r := hW.facts.1; exact ⟨q 0, q 1, q 2, q 3, q 4, q 5, hV.lt, r 0, r 1, r 2, r 3, r 4, r 5, hW.lt⟩))
  first
  | (refine wpAnyH_take (i := 0) (oi := _) (v := ?_) (getop rfl) (by kernel_rfl) (by kernel_rfl) (by kernel_rfl) (fun _ _ _ h => h) (Or.inl ⟨by rfl, ?_⟩) (by assumption) ?_; rotate_left; focus (intro w hSw; (try dsimp only at hSw); go_simp; (try with_reducible rfl); done))
  (try simp only [Act.put, List.setIfInBounds_toArray, List.set_cons_zero, List.set_cons_succ])
  first
  | (refine wpAnyH_take (i := 2) (oi := _) (v := ?_) (getop rfl) (by kernel_rfl) (by kernel_rfl) (by kernel_rfl) (fun _ _ _ h => h) (Or.inl ⟨by rfl, ?_⟩) (by assumption) ?_; rotate_left; focus (intro w hSw; (try dsimp only at hSw); go_simp; (try with_reducible rfl); done))
  (try simp only [Act.put, List.setIfInBounds_toArray, List.set_cons_zero, List.set_cons_succ])
  replace hV : Blk w0.drew _ _ _ := hV
  replace hW : Blk w0.drew _ _ _ := hW
  replace hL := lo_drew hL
  generalize w0.drew = wd at hV hW hL hHeld ⊢
  refine wpAnyH_ready (rs := [1]) (by kernel_rfl) (by simp) ?_
  refine (AllReadyH.cons (o := _) (getop rfl) (fun K hK => ?_) AllReadyH.nil)
  go_simp
  refine (HA1.out _).mono ?_
  rintro e wa1 ⟨ga, hga, rfl, hA, hb⟩
  replace hV := hV.lo hb
  replace hW := hW.lo hb
  replace hL := lo_trans hL hb
  clear hb
  refine hK.out _ _ ?_ (fun hHeld1 => ?_)
  focus ((try dsimp only); (have q := hV.facts.1; have r := hW.facts.1; exact ⟨q 0, q 1, q 2, q 3, q 4, q 5, hV.lt, r 0, r 1, r 2, r 3, r 4, r 5, hW.lt⟩))
  clear hK K hHeld
  have hHeld := hHeld1
  clear hHeld1
  (try simp only [Act.put, List.setIfInBounds_toArray, List.set_cons_zero, List.set_cons_succ])
  refine wpAnyH_ready (rs := [3]) (by kernel_rfl) (by simp) ?_
  refine (AllReadyH.cons (o := _) (getop rfl) (fun K hK => ?_) AllReadyH.nil)
  go_simp
  refine (HA2.out _).mono ?_
  rintro e wa3 ⟨gb, hgb, rfl, hB, hb⟩
  replace hV := hV.lo hb
  replace hW := hW.lo hb
  replace hA := hA.lo hb
  replace hL := lo_trans hL hb
  clear hb
  refine hK.out _ _ ?_ (fun hHeld3 => ?_)
  focus ((try dsimp only); (have q := hV.facts.1; have r := hW.facts.1; exact ⟨q 0, q 1, q 2, q 3, q 4, q 5, hV.lt, r 0, r 1, r 2, r 3, r 4, r 5, hW.lt⟩))
  clear hK K hHeld
  have hHeld := hHeld3
  clear hHeld3
  (try simp only [Act.put, List.setIfInBounds_toArray, List.set_cons_zero, List.set_cons_succ])
  first
  | (refine wpAnyH_take (i := 4) (oi := _) (v := ?_) (getop rfl) (by kernel_rfl) (by kernel_rfl) (by kernel_rfl) (fun _ _ _ h => h) (Or.inl ⟨by rfl, ?_⟩) (by assumption) ?_; rotate_left; focus (intro w hSw; (try dsimp only at hSw); go_simp; (try with_reducible rfl); done))
  (try simp only [Act.put, List.setIfInBounds_toArray, List.set_cons_zero, List.set_cons_succ])
  first
  | (refine wpAnyH_take (i := 5) (oi := _) (v := ?_) (getop rfl) (by kernel_rfl) (by kernel_rfl) (by kernel_rfl) (fun _ _ _ h => h) (Or.inl ⟨by rfl, ?_⟩) (by assumption) ?_; rotate_left; focus (intro w hSw; (try dsimp only at hSw); go_simp; (try with_reducible rfl); done))
  (try simp only [Act.put, List.setIfInBounds_toArray, List.set_cons_zero, List.set_cons_succ])
  refine wpAnyH_done (by kernel_rfl) ?_ _
  clear HA1 HA2 hHeld hV hW hga hgb
  obtain ⟨i0, hi, hz0, hz1, hz2⟩ := info_parts info47
  go_wp2_with fail
  go_loopw [7, 8] (fun u y wr => ∃ k : Nat, k ≤ 6 ∧ y = .int .i64 k ∧ wr.ownsRow wa3.heap.size 47 2 u (upL (Vs.mk v0 v1 v2 v3 v4 v5) (Vs.mk x0 x1 x2 x3 x4 x5) k).length ((upL (Vs.mk v0 v1 v2 v3 v4 v5) (Vs.mk x0 x1 x2 x3 x4 x5) k).flatMap cellsP) ∧ Below wa3.heap.size wa3 wr) (fun _ y _ => 6 - (intOf y).toNat)
  case atStart => exact ⟨0, by omega, rfl, World.ownsRow_nil _ _ _ _, lo_refl _⟩
  case round =>
  obtain ⟨k, hk, hy, hown, hbel⟩ := hrel
  have hlen := up_len (Vs.mk v0 v1 v2 v3 v4 v5) (Vs.mk x0 x1 x2 x3 x4 x5) k
  obtain ⟨cA, fA⟩ := (hA.lo hbel).facts
  have lA : ga < wr.heap.size := (hA.lo hbel).lt
  obtain ⟨cB, fB⟩ := (hB.lo hbel).facts
  have lB : gb < wr.heap.size := (hB.lo hbel).lt
  have hsz := hbel.size
  obtain ⟨⟨a0, b0⟩, ⟨a1, b1⟩, ⟨a2, b2⟩, ⟨a3, b3⟩, ⟨a4, b4⟩, a5, b5⟩ := hbd
  rcases upto6 hk with rfl | rfl | rfl | rfl | rfl | rfl | rfl
  · obtain rfl : u8 = .int .i64 0 := hy
    by_cases e : v0 = x0
    · have HU : Hid (upL (Vs.mk v0 v1 v2 v3 v4 v5) (Vs.mk x0 x1 x2 x3 x4 x5) 1 = upL (Vs.mk v0 v1 v2 v3 v4 v5) (Vs.mk x0 x1 x2 x3 x4 x5) 0) := Lib.hid (up_eq0 e)
      subst e
      go_wp2_with go_quiet (fail)
      go_roundw
      case rel => exact ⟨1, by omega, by first | rfl | simp, by rw [HU.out]; exact hown, lo_drewN hbel _⟩
      case measure => simp [intOf]
    · have HU : Hid (upL (Vs.mk v0 v1 v2 v3 v4 v5) (Vs.mk x0 x1 x2 x3 x4 x5) 1 = upL (Vs.mk v0 v1 v2 v3 v4 v5) (Vs.mk x0 x1 x2 x3 x4 x5) 0 ++ [(1, x0)]) := Lib.hid (up_ne0 e)
      go_upto_region 9 with go_quiet (fail)
      generalize hwq : wr.drewN _ = wq at *
      have hown2 : wq.ownsRow wa3.heap.size 47 2 u7 (upL (Vs.mk v0 v1 v2 v3 v4 v5) (Vs.mk x0 x1 x2 x3 x4 x5) 0).length ((upL (Vs.mk v0 v1 v2 v3 v4 v5) (Vs.mk x0 x1 x2 x3 x4 x5) 0).flatMap cellsP) := by rw [← hwq]; exact hown
      have hbel2 : Below wa3.heap.size wa3 wq := by rw [← hwq]; exact lo_drewN hbel _
      have hsz2 := hbel2.size
      obtain ⟨cB2, fB2⟩ := (hB.lo hbel2).facts
      have lB2 : gb < wq.heap.size := (hB.lo hbel2).lt
      clear hwq cA fA lA cB fB lB hown hbel hsz
      go_wp2_with (at_builtin; refine wp_append_box rfl _ _ 24 rfl wa3.heap.size 47 i0 _ 2 8 Try.underlying24 hi hz0 hz1 hz2 rfl (by decide) _ _ _ rfl hown2 1 _ rfl rfl (by intro u hu; simp at hu; rcases hu with rfl | rfl <;> rfl) (by omega) (by decide) hsz2 ?_; intro v' wn hown1 hbel1)
      go_roundw
      case rel =>
        refine ⟨1, by omega, by first | rfl | simp, ?_, hbel2.trans hbel1⟩
        rw [HU.out, List.length_append, List.flatMap_append]
        exact hown1
      case measure => simp [intOf]
  · obtain rfl : u8 = .int .i64 1 := hy
    by_cases e : v1 = x1
    · have HU : Hid (upL (Vs.mk v0 v1 v2 v3 v4 v5) (Vs.mk x0 x1 x2 x3 x4 x5) 2 = upL (Vs.mk v0 v1 v2 v3 v4 v5) (Vs.mk x0 x1 x2 x3 x4 x5) 1) := Lib.hid (up_eq1 e)
      subst e
      go_wp2_with go_quiet (fail)
      go_roundw
      case rel => exact ⟨2, by omega, by first | rfl | simp, by rw [HU.out]; exact hown, lo_drewN hbel _⟩
      case measure => simp [intOf]
    · have HU : Hid (upL (Vs.mk v0 v1 v2 v3 v4 v5) (Vs.mk x0 x1 x2 x3 x4 x5) 2 = upL (Vs.mk v0 v1 v2 v3 v4 v5) (Vs.mk x0 x1 x2 x3 x4 x5) 1 ++ [(2, x1)]) := Lib.hid (up_ne1 e)
      go_upto_region 9 with go_quiet (fail)
      generalize hwq : wr.drewN _ = wq at *
      have hown2 : wq.ownsRow wa3.heap.size 47 2 u7 (upL (Vs.mk v0 v1 v2 v3 v4 v5) (Vs.mk x0 x1 x2 x3 x4 x5) 1).length ((upL (Vs.mk v0 v1 v2 v3 v4 v5) (Vs.mk x0 x1 x2 x3 x4 x5) 1).flatMap cellsP) := by rw [← hwq]; exact hown
      have hbel2 : Below wa3.heap.size wa3 wq := by rw [← hwq]; exact lo_drewN hbel _
      have hsz2 := hbel2.size
      obtain ⟨cB2, fB2⟩ := (hB.lo hbel2).facts
      have lB2 : gb < wq.heap.size := (hB.lo hbel2).lt
      clear hwq cA fA lA cB fB lB hown hbel hsz
      go_wp2_with (at_builtin; refine wp_append_box rfl _ _ 24 rfl wa3.heap.size 47 i0 _ 2 8 Try.underlying24 hi hz0 hz1 hz2 rfl (by decide) _ _ _ rfl hown2 1 _ rfl rfl (by intro u hu; simp at hu; rcases hu with rfl | rfl <;> rfl) (by omega) (by decide) hsz2 ?_; intro v' wn hown1 hbel1)
      go_roundw
      case rel =>
        refine ⟨2, by omega, by first | rfl | simp, ?_, hbel2.trans hbel1⟩
        rw [HU.out, List.length_append, List.flatMap_append]
        exact hown1
      case measure => simp [intOf]
  · obtain rfl : u8 = .int .i64 2 := hy
    by_cases e : v2 = x2
    · have HU : Hid (upL (Vs.mk v0 v1 v2 v3 v4 v5) (Vs.mk x0 x1 x2 x3 x4 x5) 3 = upL (Vs.mk v0 v1 v2 v3 v4 v5) (Vs.mk x0 x1 x2 x3 x4 x5) 2) := Lib.hid (up_eq2 e)
      subst e
      go_wp2_with go_quiet (fail)
      go_roundw
      case rel => exact ⟨3, by omega, by first | rfl | simp, by rw [HU.out]; exact hown, lo_drewN hbel _⟩
      case measure => simp [intOf]
    · have HU : Hid (upL (Vs.mk v0 v1 v2 v3 v4 v5) (Vs.mk x0 x1 x2 x3 x4 x5) 3 = upL (Vs.mk v0 v1 v2 v3 v4 v5) (Vs.mk x0 x1 x2 x3 x4 x5) 2 ++ [(3, x2)]) := Lib.hid (up_ne2 e)
      go_upto_region 9 with go_quiet (fail)
      generalize hwq : wr.drewN _ = wq at *
      have hown2 : wq.ownsRow wa3.heap.size 47 2 u7 (upL (Vs.mk v0 v1 v2 v3 v4 v5) (Vs.mk x0 x1 x2 x3 x4 x5) 2).length ((upL (Vs.mk v0 v1 v2 v3 v4 v5) (Vs.mk x0 x1 x2 x3 x4 x5) 2).flatMap cellsP) := by rw [← hwq]; exact hown
      have hbel2 : Below wa3.heap.size wa3 wq := by rw [← hwq]; exact lo_drewN hbel _
      have hsz2 := hbel2.size
      obtain ⟨cB2, fB2⟩ := (hB.lo hbel2).facts
      have lB2 : gb < wq.heap.size := (hB.lo hbel2).lt
      clear hwq cA fA lA cB fB lB hown hbel hsz
      go_wp2_with (at_builtin; refine wp_append_box rfl _ _ 24 rfl wa3.heap.size 47 i0 _ 2 8 Try.underlying24 hi hz0 hz1 hz2 rfl (by decide) _ _ _ rfl hown2 1 _ rfl rfl (by intro u hu; simp at hu; rcases hu with rfl | rfl <;> rfl) (by omega) (by decide) hsz2 ?_; intro v' wn hown1 hbel1)
      go_roundw
      case rel =>
        refine ⟨3, by omega, by first | rfl | simp, ?_, hbel2.trans hbel1⟩
        rw [HU.out, List.length_append, List.flatMap_append]
        exact hown1
      case measure => simp [intOf]
  · obtain rfl : u8 = .int .i64 3 := hy
    by_cases e : v3 = x3
    · have HU : Hid (upL (Vs.mk v0 v1 v2 v3 v4 v5) (Vs.mk x0 x1 x2 x3 x4 x5) 4 = upL (Vs.mk v0 v1 v2 v3 v4 v5) (Vs.mk x0 x1 x2 x3 x4 x5) 3) := Lib.hid (up_eq3 e)
      subst e
      go_wp2_with go_quiet (fail)
      go_roundw
      case rel => exact ⟨4, by omega, by first | rfl | simp, by rw [HU.out]; exact hown, lo_drewN hbel _⟩
      case measure => simp [intOf]
    · have HU : Hid (upL (Vs.mk v0 v1 v2 v3 v4 v5) (Vs.mk x0 x1 x2 x3 x4 x5) 4 = upL (Vs.mk v0 v1 v2 v3 v4 v5) (Vs.mk x0 x1 x2 x3 x4 x5) 3 ++ [(4, x3)]) := Lib.hid (up_ne3 e)
      go_upto_region 9 with go_quiet (fail)
      generalize hwq : wr.drewN _ = wq at *
      have hown2 : wq.ownsRow wa3.heap.size 47 2 u7 (upL (Vs.mk v0 v1 v2 v3 v4 v5) (Vs.mk x0 x1 x2 x3 x4 x5) 3).length ((upL (Vs.mk v0 v1 v2 v3 v4 v5) (Vs.mk x0 x1 x2 x3 x4 x5) 3).flatMap cellsP) := by rw [← hwq]; exact hown
      have hbel2 : Below wa3.heap.size wa3 wq := by rw [← hwq]; exact lo_drewN hbel _
      have hsz2 := hbel2.size
      obtain ⟨cB2, fB2⟩ := (hB.lo hbel2).facts
      have lB2 : gb < wq.heap.size := (hB.lo hbel2).lt
      clear hwq cA fA lA cB fB lB hown hbel hsz
      go_wp2_with (at_builtin; refine wp_append_box rfl _ _ 24 rfl wa3.heap.size 47 i0 _ 2 8 Try.underlying24 hi hz0 hz1 hz2 rfl (by decide) _ _ _ rfl hown2 1 _ rfl rfl (by intro u hu; simp at hu; rcases hu with rfl | rfl <;> rfl) (by omega) (by decide) hsz2 ?_; intro v' wn hown1 hbel1)
      go_roundw
      case rel =>
        refine ⟨4, by omega, by first | rfl | simp, ?_, hbel2.trans hbel1⟩
        rw [HU.out, List.length_append, List.flatMap_append]
        exact hown1
      case measure => simp [intOf]
  · obtain rfl : u8 = .int .i64 4 := hy
    by_cases e : v4 = x4
    · have HU : Hid (upL (Vs.mk v0 v1 v2 v3 v4 v5) (Vs.mk x0 x1 x2 x3 x4 x5) 5 = upL (Vs.mk v0 v1 v2 v3 v4 v5) (Vs.mk x0 x1 x2 x3 x4 x5) 4) := Lib.hid (up_eq4 e)
      subst e
      go_wp2_with go_quiet (fail)
      go_roundw
      case rel => exact ⟨5, by omega, by first | rfl | simp, by rw [HU.out]; exact hown, lo_drewN hbel _⟩
      case measure => simp [intOf]
    · have HU : Hid (upL (Vs.mk v0 v1 v2 v3 v4 v5) (Vs.mk x0 x1 x2 x3 x4 x5) 5 = upL (Vs.mk v0 v1 v2 v3 v4 v5) (Vs.mk x0 x1 x2 x3 x4 x5) 4 ++ [(5, x4)]) := Lib.hid (up_ne4 e)
      go_upto_region 9 with go_quiet (fail)
      generalize hwq : wr.drewN _ = wq at *
      have hown2 : wq.ownsRow wa3.heap.size 47 2 u7 (upL (Vs.mk v0 v1 v2 v3 v4 v5) (Vs.mk x0 x1 x2 x3 x4 x5) 4).length ((upL (Vs.mk v0 v1 v2 v3 v4 v5) (Vs.mk x0 x1 x2 x3 x4 x5) 4).flatMap cellsP) := by rw [← hwq]; exact hown
      have hbel2 : Below wa3.heap.size wa3 wq := by rw [← hwq]; exact lo_drewN hbel _
      have hsz2 := hbel2.size
      obtain ⟨cB2, fB2⟩ := (hB.lo hbel2).facts
      have lB2 : gb < wq.heap.size := (hB.lo hbel2).lt
      clear hwq cA fA lA cB fB lB hown hbel hsz
      go_wp2_with (at_builtin; refine wp_append_box rfl _ _ 24 rfl wa3.heap.size 47 i0 _ 2 8 Try.underlying24 hi hz0 hz1 hz2 rfl (by decide) _ _ _ rfl hown2 1 _ rfl rfl (by intro u hu; simp at hu; rcases hu with rfl | rfl <;> rfl) (by omega) (by decide) hsz2 ?_; intro v' wn hown1 hbel1)
      go_roundw
      case rel =>
        refine ⟨5, by omega, by first | rfl | simp, ?_, hbel2.trans hbel1⟩
        rw [HU.out, List.length_append, List.flatMap_append]
        exact hown1
      case measure => simp [intOf]
  · obtain rfl : u8 = .int .i64 5 := hy
    by_cases e : v5 = x5
    · have HU : Hid (upL (Vs.mk v0 v1 v2 v3 v4 v5) (Vs.mk x0 x1 x2 x3 x4 x5) 6 = upL (Vs.mk v0 v1 v2 v3 v4 v5) (Vs.mk x0 x1 x2 x3 x4 x5) 5) := Lib.hid (up_eq5 e)
      subst e
      go_wp2_with go_quiet (fail)
      go_roundw
      case rel => exact ⟨6, by omega, by first | rfl | simp, by rw [HU.out]; exact hown, lo_drewN hbel _⟩
      case measure => simp [intOf]
    · have HU : Hid (upL (Vs.mk v0 v1 v2 v3 v4 v5) (Vs.mk x0 x1 x2 x3 x4 x5) 6 = upL (Vs.mk v0 v1 v2 v3 v4 v5) (Vs.mk x0 x1 x2 x3 x4 x5) 5 ++ [(6, x5)]) := Lib.hid (up_ne5 e)
      go_upto_region 9 with go_quiet (fail)
      generalize hwq : wr.drewN _ = wq at *
      have hown2 : wq.ownsRow wa3.heap.size 47 2 u7 (upL (Vs.mk v0 v1 v2 v3 v4 v5) (Vs.mk x0 x1 x2 x3 x4 x5) 5).length ((upL (Vs.mk v0 v1 v2 v3 v4 v5) (Vs.mk x0 x1 x2 x3 x4 x5) 5).flatMap cellsP) := by rw [← hwq]; exact hown
      have hbel2 : Below wa3.heap.size wa3 wq := by rw [← hwq]; exact lo_drewN hbel _
      have hsz2 := hbel2.size
      obtain ⟨cB2, fB2⟩ := (hB.lo hbel2).facts
      have lB2 : gb < wq.heap.size := (hB.lo hbel2).lt
      clear hwq cA fA lA cB fB lB hown hbel hsz
      go_wp2_with (at_builtin; refine wp_append_box rfl _ _ 24 rfl wa3.heap.size 47 i0 _ 2 8 Try.underlying24 hi hz0 hz1 hz2 rfl (by decide) _ _ _ rfl hown2 1 _ rfl rfl (by intro u hu; simp at hu; rcases hu with rfl | rfl <;> rfl) (by omega) (by decide) hsz2 ?_; intro v' wn hown1 hbel1)
      go_roundw
      case rel =>
        refine ⟨6, by omega, by first | rfl | simp, ?_, hbel2.trans hbel1⟩
        rw [HU.out, List.length_append, List.flatMap_append]
        exact hown1
      case measure => simp [intOf]
  · obtain rfl : u8 = .int .i64 6 := hy
    have hL2 := Lib.hid (lo_trans hL hbel)
    have hL3 := Lib.hid hL
    clear hL hbel
    go_wp2_with fail
    go_ret
    exact ⟨wa3.heap.size, _, hL3.out.size, hsz, rfl, by rw [HP.out]; exact hown, hL2.out⟩
end Go.Proofs.Ythjciimodemfpaa
