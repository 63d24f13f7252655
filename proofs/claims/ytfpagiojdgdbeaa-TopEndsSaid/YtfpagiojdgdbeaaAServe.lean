import Derived.Test.YtfpagiojdgdbeaaCut
import Derived.Test.YtfpagiojdgdbeaaUntil
namespace Go.Proofs.Ytfpagiojdgdbeaa
open Go.RowKit
attribute [local go_sem ↓] Go.wp_at_zero Go.wp_at_succ

set_option maxRecDepth 100000 in
set_option maxHeartbeats 3200000 in
theorem aserve_ok (lim : Int) (A : Option Addr) (n cap : Nat) (l : List Rq) (q : Int) (w : World) (hl : Rqs w A n cap l) (hok : okQ lim l) (hn : 0 < n) (hq : 1 ≤ q) : Calls Try.prog 17 #[.agg #[.int .i64 lim, .slice A n cap], .int .i64 q] w (AServePost w lim l q) := by
  obtain rfl := hl.1
  have HL := Lib.hid hl
  have hpos : 0 < l.length := hn
  have hln2 : l.length ≤ 16 := hok.2.1
  have HO := Lib.hid hok
  have HOW : Hid (∀ w0, Rqs w0 A l.length cap l → Calls Try.prog 30 #[.agg #[.int .i64 lim, .slice A l.length cap]] w0 (OwnPost w0 lim l)) := Lib.hid fun w0 h0 => own_any lim A l.length cap l w0 h0 (by omega)
  have HNX : Hid (∀ w0, Rqs w0 A l.length cap l → Calls Try.prog 31 #[.agg #[.int .i64 lim, .slice A l.length cap]] w0 (NextPost w0 lim l)) := Lib.hid fun w0 h0 => next_ok lim A l.length cap l w0 h0 hok hn
  have hQ := ((Blk.new w 58 #[.int .i64 lim, .slice A l.length cap]).alloc (.cells #[.int .i64 0, .slice none 0 0] 58)).alloc (.cells #[.int .i64 0, .int .i64 0, .int .i64 0, .int .i64 0] 68)
  have hR := (Blk.new (w.alloc (.cells #[.int .i64 lim, .slice A l.length cap] 58)) 58 #[.int .i64 0, .slice none 0 0]).alloc (.cells #[.int .i64 0, .int .i64 0, .int .i64 0, .int .i64 0] 68)
  have hT := Blk.new ((w.alloc (.cells #[.int .i64 lim, .slice A l.length cap] 58)).alloc (.cells #[.int .i64 0, .slice none 0 0] 58)) 68 #[.int .i64 0, .int .i64 0, .int .i64 0, .int .i64 0]
  have hL := lo_alloc (lo_alloc (lo_alloc (lo_refl w) (.cells #[.int .i64 lim, .slice A l.length cap] 58)) (.cells #[.int .i64 0, .slice none 0 0] 58)) (.cells #[.int .i64 0, .int .i64 0, .int .i64 0, .int .i64 0] 68)
  simp only [World.size_alloc] at hR hT
  have hs0 : w.heap.size + 1 + 1 + 1 ≤ (((w.alloc (.cells #[.int .i64 lim, .slice A l.length cap] 58)).alloc (.cells #[.int .i64 0, .slice none 0 0] 58)).alloc (.cells #[.int .i64 0, .int .i64 0, .int .i64 0, .int .i64 0] 68)).heap.size := by simp
  clear hl hok
  go_enter Try.func17, Try.ntmps17
  go_upto_region 1 with fail
  go_cut [7, 8] (fun t y wc => ∃ gG base gr cap2 k, t = .pointer (some ⟨gG, 0, none⟩) ∧ y = .int .i64 (k : Nat) ∧ NextOk lim l k ∧ w.heap.size + 1 + 1 + 1 ≤ base ∧ base ≤ wc.heap.size ∧ base ≤ gr ∧ wc.ownsRow base 68 4 (.slice (some ⟨gr, 0, none⟩) l.length cap2) l.length (l.flatMap cellsR) ∧ Blk wc gG 58 #[.int .i64 lim, .slice (some ⟨gr, 0, none⟩) l.length cap2] ∧ Blk wc (w.heap.size + 1) 58 #[.int .i64 0, .slice none 0 0] ∧ Blk wc (w.heap.size + 1 + 1) 68 #[.int .i64 0, .int .i64 0, .int .i64 0, .int .i64 0] ∧ some gG ≠ (Value.slice (some ⟨gr, 0, none⟩) l.length cap2).ownBlock ∧ w.heap.size + 1 + 1 < gG ∧ Below w.heap.size w wc)
  case first =>
    generalize ((w.alloc (.cells #[.int .i64 lim, .slice A l.length cap] 58)).alloc (.cells #[.int .i64 0, .slice none 0 0] 58)).alloc (.cells #[.int .i64 0, .int .i64 0, .int .i64 0, .int .i64 0] 68) = w0 at hQ hR hT hL hs0 ⊢
    refine wp_region_held_drew (S := (fun W => W.cell? ⟨w.heap.size, 0, none⟩ = some (.int .i64 lim) ∧ W.cell? ⟨w.heap.size, 1, none⟩ = some (.slice A l.length cap) ∧ w.heap.size < W.heap.size)) (by kernel_rfl) ?_ (fun hHeld => ?_)
    focus ((try dsimp only); (have r := hQ.facts.1; exact ⟨r 0, r 1, hQ.lt⟩))
    replace hQ : Blk w0.drew _ _ _ := hQ
    replace hR : Blk w0.drew _ _ _ := hR
    replace hT : Blk w0.drew _ _ _ := hT
    replace hL := lo_drew hL
    have hs0 : w.heap.size + 1 + 1 + 1 ≤ w0.drew.heap.size := hs0
    generalize w0.drew = wd at hQ hR hT hL hs0 hHeld ⊢
    first
    | (refine wpAnyH_take (i := 0) (oi := _) (v := ?_) (getop rfl) (by kernel_rfl) (by kernel_rfl) (by kernel_rfl) (fun _ _ _ h => h) (Or.inl ⟨by rfl, ?_⟩) (by assumption) ?_; rotate_left; focus (intro w hSw; (try dsimp only at hSw); go_simp; (try with_reducible rfl); done))
    | (refine wpAnyH_take (i := 0) (oi := _) (v := undef) (getop rfl) (by kernel_rfl) (by kernel_rfl) (by kernel_rfl) (fun _ _ _ h => h) (Or.inr ⟨by rfl, rfl⟩) (by assumption) ?_)
    (try simp only [Act.put, List.setIfInBounds_toArray, List.set_cons_zero, List.set_cons_succ])
    first
    | (refine wpAnyH_take (i := 2) (oi := _) (v := ?_) (getop rfl) (by kernel_rfl) (by kernel_rfl) (by kernel_rfl) (fun _ _ _ h => h) (Or.inl ⟨by rfl, ?_⟩) (by assumption) ?_; rotate_left; focus (intro w hSw; (try dsimp only at hSw); go_simp; (try with_reducible rfl); done))
    | (refine wpAnyH_take (i := 2) (oi := _) (v := undef) (getop rfl) (by kernel_rfl) (by kernel_rfl) (by kernel_rfl) (fun _ _ _ h => h) (Or.inr ⟨by rfl, rfl⟩) (by assumption) ?_)
    (try simp only [Act.put, List.setIfInBounds_toArray, List.set_cons_zero, List.set_cons_succ])
    refine wpAnyH_ready (rs := [1, 4]) (by kernel_rfl) (by simp) ?_
    refine (AllReadyH.cons (o := _) (getop rfl) (fun K hK => ?_) (AllReadyH.cons (o := _) (getop rfl) (fun K hK => ?_) AllReadyH.nil))
    · go_simp
      refine (HOW.out _ (agg_lo HL.out hL)).mono ?_
      rintro e wz0 ⟨base, u, h1, h2, rfl, hown, hb⟩
      obtain ⟨gr, cap2, rfl, hbg, hgl⟩ := hown.form hpos
      replace h1 := Nat.le_trans hs0 h1
      replace hQ := hQ.lo hb
      replace hR := hR.lo hb
      replace hT := hT.lo hb
      replace hL := lo_trans hL hb
      replace hs0 := Nat.le_trans hs0 hb.size
      clear hb
      refine hK.out _ _ ?_ (fun hHeld1 => ?_)
      focus ((try dsimp only); (have r := hQ.facts.1; exact ⟨r 0, r 1, hQ.lt⟩))
      clear hK K hHeld
      have hHeld := hHeld1
      clear hHeld1
      (try simp only [Act.put, List.setIfInBounds_toArray, List.set_cons_zero, List.set_cons_succ])
      refine wpAnyH_ready (rs := [3, 4]) (by kernel_rfl) (by simp) ?_
      refine (AllReadyH.cons (o := _) (getop rfl) (fun K hK => ?_) (AllReadyH.cons (o := _) (getop rfl) (fun K hK => ?_) AllReadyH.nil))
      · go_simp
        refine (HNX.out _ (agg_lo HL.out hL)).mono ?_
        rintro e wz1 ⟨⟨k, hk, rfl⟩, hb⟩
        replace h2 := Nat.le_trans h2 hb.size
        replace hQ := hQ.lo hb
        replace hR := hR.lo hb
        replace hT := hT.lo hb
        replace hown := own_lo hown hb
        replace hL := lo_trans hL hb
        replace hs0 := Nat.le_trans hs0 hb.size
        clear hb
        refine hK.out _ _ ?_ (fun hHeld3 => ?_)
        focus ((try dsimp only); (have r := hQ.facts.1; exact ⟨r 0, r 1, hQ.lt⟩))
        clear hK K hHeld
        have hHeld := hHeld3
        clear hHeld3
        (try simp only [Act.put, List.setIfInBounds_toArray, List.set_cons_zero, List.set_cons_succ])
        refine wpAnyH_ready (rs := [4]) (by kernel_rfl) (by simp) ?_
        refine (AllReadyH.cons (o := _) (getop rfl) (fun K hK => ?_) AllReadyH.nil)
        go_simp
        have hnG := own_ne hown (g := wz1.heap.size) (Or.inr (Nat.le_refl _))
        have hG := Blk.new wz1 58 #[.int .i64 0, .slice none 0 0]
        have zG : w.heap.size + 1 + 1 < wz1.heap.size := by omega
        replace hQ := hQ.alloc (.cells #[.int .i64 0, .slice none 0 0] 58)
        replace hR := hR.alloc (.cells #[.int .i64 0, .slice none 0 0] 58)
        replace hT := hT.alloc (.cells #[.int .i64 0, .slice none 0 0] 58)
        replace hown := hown.alloc (.cells #[.int .i64 0, .slice none 0 0] 58)
        replace h2 : base ≤ (wz1.alloc (.cells #[.int .i64 0, .slice none 0 0] 58)).heap.size := by simp; omega
        replace hL := lo_alloc hL (.cells #[.int .i64 0, .slice none 0 0] 58)
        replace hs0 : w.heap.size + 1 + 1 + 1 ≤ (wz1.alloc (.cells #[.int .i64 0, .slice none 0 0] 58)).heap.size := by simp; omega
        generalize wz1.heap.size = gG at hG zG hnG ⊢
        generalize wz1.alloc (.cells #[.int .i64 0, .slice none 0 0] 58) = wz2 at hQ hR hT hown h2 hG hL hs0 ⊢
        refine hK.out _ _ ?_ (fun hHeld4 => ?_)
        focus ((try dsimp only); (have r := hQ.facts.1; exact ⟨r 0, r 1, hQ.lt⟩))
        clear hK K hHeld
        have hHeld := hHeld4
        clear hHeld4
        (try simp only [Act.put, List.setIfInBounds_toArray, List.set_cons_zero, List.set_cons_succ])
        refine wpAnyH_ready (rs := [5]) (by kernel_rfl) (by simp) ?_
        refine (AllReadyH.cons (o := _) (getop rfl) (fun K hK => ?_) AllReadyH.nil)
        obtain ⟨cT, fT⟩ := hG.facts
        have lT := hG.lt
        go_simp
        clear cT fT lT
        replace hQ := hQ.far (p := ⟨gG, 0, none⟩) (by dsimp only; omega) (.int .i64 lim)
        replace hR := hR.far (p := ⟨gG, 0, none⟩) (by dsimp only; omega) (.int .i64 lim)
        replace hT := hT.far (p := ⟨gG, 0, none⟩) (by dsimp only; omega) (.int .i64 lim)
        replace hG := hG.set_ 0 (.int .i64 lim)
        replace hown := own_far hown (p := ⟨gG, 0, none⟩) hnG (.int .i64 lim)
        replace hL := lo_set hL (p := ⟨gG, 0, none⟩) (by dsimp only; omega) (.int .i64 lim)
        replace hQ := hQ.far (p := ⟨gG, 1, none⟩) (by dsimp only; omega) (.slice (some ⟨gr, 0, none⟩) l.length cap2)
        replace hR := hR.far (p := ⟨gG, 1, none⟩) (by dsimp only; omega) (.slice (some ⟨gr, 0, none⟩) l.length cap2)
        replace hT := hT.far (p := ⟨gG, 1, none⟩) (by dsimp only; omega) (.slice (some ⟨gr, 0, none⟩) l.length cap2)
        replace hG := hG.set_ 1 (.slice (some ⟨gr, 0, none⟩) l.length cap2)
        replace hown := own_far hown (p := ⟨gG, 1, none⟩) hnG (.slice (some ⟨gr, 0, none⟩) l.length cap2)
        replace hL := lo_set hL (p := ⟨gG, 1, none⟩) (by dsimp only; omega) (.slice (some ⟨gr, 0, none⟩) l.length cap2)
        replace hG : Blk ((wz2.setCell ⟨gG, 0, none⟩ (.int .i64 lim)).setCell ⟨gG, 1, none⟩ (.slice (some ⟨gr, 0, none⟩) l.length cap2)) gG 58 #[.int .i64 lim, .slice (some ⟨gr, 0, none⟩) l.length cap2] := by simpa using hG
        replace h2 : base ≤ ((wz2.setCell ⟨gG, 0, none⟩ (.int .i64 lim)).setCell ⟨gG, 1, none⟩ (.slice (some ⟨gr, 0, none⟩) l.length cap2)).heap.size := by simpa using h2
        generalize ((wz2.setCell ⟨gG, 0, none⟩ (.int .i64 lim)).setCell ⟨gG, 1, none⟩ (.slice (some ⟨gr, 0, none⟩) l.length cap2)) = wz3 at hQ hR hT hG hown hL h2 ⊢
        refine hK.out _ _ ?_ (fun hHeld5 => ?_)
        focus ((try dsimp only); (have r := hQ.facts.1; exact ⟨r 0, r 1, hQ.lt⟩))
        clear hK K hHeld
        have hHeld := hHeld5
        clear hHeld5
        (try simp only [Act.put, List.setIfInBounds_toArray, List.set_cons_zero, List.set_cons_succ])
        first
        | (refine wpAnyH_take (i := 6) (oi := _) (v := ?_) (getop rfl) (by kernel_rfl) (by kernel_rfl) (by kernel_rfl) (fun _ _ _ h => h) (Or.inl ⟨by rfl, ?_⟩) (by assumption) ?_; rotate_left; focus (intro w hSw; (try dsimp only at hSw); go_simp; (try with_reducible rfl); done))
        | (refine wpAnyH_take (i := 6) (oi := _) (v := undef) (getop rfl) (by kernel_rfl) (by kernel_rfl) (by kernel_rfl) (fun _ _ _ h => h) (Or.inr ⟨by rfl, rfl⟩) (by assumption) ?_)
        (try simp only [Act.put, List.setIfInBounds_toArray, List.set_cons_zero, List.set_cons_succ])
        refine wpAnyH_done (by kernel_rfl) ?_ _
        go_wp2_with fail
        go_meet
        exact ⟨gG, base, gr, cap2, k, rfl, rfl, hk, h1, h2, hbg, hown, hG, hR, hT, hnG, by omega, hL⟩
      · go_simp
        have hnG := own_ne hown (g := wz0.heap.size) (Or.inr (Nat.le_refl _))
        have hG := Blk.new wz0 58 #[.int .i64 0, .slice none 0 0]
        have zG : w.heap.size + 1 + 1 < wz0.heap.size := by omega
        replace hQ := hQ.alloc (.cells #[.int .i64 0, .slice none 0 0] 58)
        replace hR := hR.alloc (.cells #[.int .i64 0, .slice none 0 0] 58)
        replace hT := hT.alloc (.cells #[.int .i64 0, .slice none 0 0] 58)
        replace hown := hown.alloc (.cells #[.int .i64 0, .slice none 0 0] 58)
        replace h2 : base ≤ (wz0.alloc (.cells #[.int .i64 0, .slice none 0 0] 58)).heap.size := by simp; omega
        replace hL := lo_alloc hL (.cells #[.int .i64 0, .slice none 0 0] 58)
        replace hs0 : w.heap.size + 1 + 1 + 1 ≤ (wz0.alloc (.cells #[.int .i64 0, .slice none 0 0] 58)).heap.size := by simp; omega
        generalize wz0.heap.size = gG at hG zG hnG ⊢
        generalize wz0.alloc (.cells #[.int .i64 0, .slice none 0 0] 58) = wz1 at hQ hR hT hown h2 hG hL hs0 ⊢
        refine hK.out _ _ ?_ (fun hHeld4 => ?_)
        focus ((try dsimp only); (have r := hQ.facts.1; exact ⟨r 0, r 1, hQ.lt⟩))
        clear hK K hHeld
        have hHeld := hHeld4
        clear hHeld4
        (try simp only [Act.put, List.setIfInBounds_toArray, List.set_cons_zero, List.set_cons_succ])
        refine wpAnyH_ready (rs := [3]) (by kernel_rfl) (by simp) ?_
        refine (AllReadyH.cons (o := _) (getop rfl) (fun K hK => ?_) AllReadyH.nil)
        go_simp
        refine (HNX.out _ (agg_lo HL.out hL)).mono ?_
        rintro e wz2 ⟨⟨k, hk, rfl⟩, hb⟩
        replace h2 := Nat.le_trans h2 hb.size
        replace hQ := hQ.lo hb
        replace hR := hR.lo hb
        replace hT := hT.lo hb
        replace hG := hG.lo hb
        replace hown := own_lo hown hb
        replace hL := lo_trans hL hb
        replace hs0 := Nat.le_trans hs0 hb.size
        clear hb
        refine hK.out _ _ ?_ (fun hHeld3 => ?_)
        focus ((try dsimp only); (have r := hQ.facts.1; exact ⟨r 0, r 1, hQ.lt⟩))
        clear hK K hHeld
        have hHeld := hHeld3
        clear hHeld3
        (try simp only [Act.put, List.setIfInBounds_toArray, List.set_cons_zero, List.set_cons_succ])
        refine wpAnyH_ready (rs := [5]) (by kernel_rfl) (by simp) ?_
        refine (AllReadyH.cons (o := _) (getop rfl) (fun K hK => ?_) AllReadyH.nil)
        obtain ⟨cT, fT⟩ := hG.facts
        have lT := hG.lt
        go_simp
        clear cT fT lT
        replace hQ := hQ.far (p := ⟨gG, 0, none⟩) (by dsimp only; omega) (.int .i64 lim)
        replace hR := hR.far (p := ⟨gG, 0, none⟩) (by dsimp only; omega) (.int .i64 lim)
        replace hT := hT.far (p := ⟨gG, 0, none⟩) (by dsimp only; omega) (.int .i64 lim)
        replace hG := hG.set_ 0 (.int .i64 lim)
        replace hown := own_far hown (p := ⟨gG, 0, none⟩) hnG (.int .i64 lim)
        replace hL := lo_set hL (p := ⟨gG, 0, none⟩) (by dsimp only; omega) (.int .i64 lim)
        replace hQ := hQ.far (p := ⟨gG, 1, none⟩) (by dsimp only; omega) (.slice (some ⟨gr, 0, none⟩) l.length cap2)
        replace hR := hR.far (p := ⟨gG, 1, none⟩) (by dsimp only; omega) (.slice (some ⟨gr, 0, none⟩) l.length cap2)
        replace hT := hT.far (p := ⟨gG, 1, none⟩) (by dsimp only; omega) (.slice (some ⟨gr, 0, none⟩) l.length cap2)
        replace hG := hG.set_ 1 (.slice (some ⟨gr, 0, none⟩) l.length cap2)
        replace hown := own_far hown (p := ⟨gG, 1, none⟩) hnG (.slice (some ⟨gr, 0, none⟩) l.length cap2)
        replace hL := lo_set hL (p := ⟨gG, 1, none⟩) (by dsimp only; omega) (.slice (some ⟨gr, 0, none⟩) l.length cap2)
        replace hG : Blk ((wz2.setCell ⟨gG, 0, none⟩ (.int .i64 lim)).setCell ⟨gG, 1, none⟩ (.slice (some ⟨gr, 0, none⟩) l.length cap2)) gG 58 #[.int .i64 lim, .slice (some ⟨gr, 0, none⟩) l.length cap2] := by simpa using hG
        replace h2 : base ≤ ((wz2.setCell ⟨gG, 0, none⟩ (.int .i64 lim)).setCell ⟨gG, 1, none⟩ (.slice (some ⟨gr, 0, none⟩) l.length cap2)).heap.size := by simpa using h2
        generalize ((wz2.setCell ⟨gG, 0, none⟩ (.int .i64 lim)).setCell ⟨gG, 1, none⟩ (.slice (some ⟨gr, 0, none⟩) l.length cap2)) = wz3 at hQ hR hT hG hown hL h2 ⊢
        refine hK.out _ _ ?_ (fun hHeld5 => ?_)
        focus ((try dsimp only); (have r := hQ.facts.1; exact ⟨r 0, r 1, hQ.lt⟩))
        clear hK K hHeld
        have hHeld := hHeld5
        clear hHeld5
        (try simp only [Act.put, List.setIfInBounds_toArray, List.set_cons_zero, List.set_cons_succ])
        first
        | (refine wpAnyH_take (i := 6) (oi := _) (v := ?_) (getop rfl) (by kernel_rfl) (by kernel_rfl) (by kernel_rfl) (fun _ _ _ h => h) (Or.inl ⟨by rfl, ?_⟩) (by assumption) ?_; rotate_left; focus (intro w hSw; (try dsimp only at hSw); go_simp; (try with_reducible rfl); done))
        | (refine wpAnyH_take (i := 6) (oi := _) (v := undef) (getop rfl) (by kernel_rfl) (by kernel_rfl) (by kernel_rfl) (fun _ _ _ h => h) (Or.inr ⟨by rfl, rfl⟩) (by assumption) ?_)
        (try simp only [Act.put, List.setIfInBounds_toArray, List.set_cons_zero, List.set_cons_succ])
        refine wpAnyH_done (by kernel_rfl) ?_ _
        go_wp2_with fail
        go_meet
        exact ⟨gG, base, gr, cap2, k, rfl, rfl, hk, h1, h2, hbg, hown, hG, hR, hT, hnG, by omega, hL⟩
    · go_simp
      have hG := Blk.new wd 58 #[.int .i64 0, .slice none 0 0]
      have zG : w.heap.size + 1 + 1 < wd.heap.size := by omega
      replace hQ := hQ.alloc (.cells #[.int .i64 0, .slice none 0 0] 58)
      replace hR := hR.alloc (.cells #[.int .i64 0, .slice none 0 0] 58)
      replace hT := hT.alloc (.cells #[.int .i64 0, .slice none 0 0] 58)
      replace hL := lo_alloc hL (.cells #[.int .i64 0, .slice none 0 0] 58)
      replace hs0 : w.heap.size + 1 + 1 + 1 ≤ (wd.alloc (.cells #[.int .i64 0, .slice none 0 0] 58)).heap.size := by simp; omega
      generalize wd.heap.size = gG at hG zG ⊢
      generalize wd.alloc (.cells #[.int .i64 0, .slice none 0 0] 58) = wz0 at hQ hR hT hG hL hs0 ⊢
      refine hK.out _ _ ?_ (fun hHeld4 => ?_)
      focus ((try dsimp only); (have r := hQ.facts.1; exact ⟨r 0, r 1, hQ.lt⟩))
      clear hK K hHeld
      have hHeld := hHeld4
      clear hHeld4
      (try simp only [Act.put, List.setIfInBounds_toArray, List.set_cons_zero, List.set_cons_succ])
      refine wpAnyH_ready (rs := [1]) (by kernel_rfl) (by simp) ?_
      refine (AllReadyH.cons (o := _) (getop rfl) (fun K hK => ?_) AllReadyH.nil)
      go_simp
      refine (HOW.out _ (agg_lo HL.out hL)).mono ?_
      rintro e wz1 ⟨base, u, h1, h2, rfl, hown, hb⟩
      obtain ⟨gr, cap2, rfl, hbg, hgl⟩ := hown.form hpos
      have hnG := own_ne hown (g := gG) (Or.inl (Nat.lt_of_lt_of_le hG.lt h1))
      replace h1 := Nat.le_trans hs0 h1
      replace hQ := hQ.lo hb
      replace hR := hR.lo hb
      replace hT := hT.lo hb
      replace hG := hG.lo hb
      replace hL := lo_trans hL hb
      replace hs0 := Nat.le_trans hs0 hb.size
      clear hb
      refine hK.out _ _ ?_ (fun hHeld1 => ?_)
      focus ((try dsimp only); (have r := hQ.facts.1; exact ⟨r 0, r 1, hQ.lt⟩))
      clear hK K hHeld
      have hHeld := hHeld1
      clear hHeld1
      (try simp only [Act.put, List.setIfInBounds_toArray, List.set_cons_zero, List.set_cons_succ])
      refine wpAnyH_ready (rs := [3]) (by kernel_rfl) (by simp) ?_
      refine (AllReadyH.cons (o := _) (getop rfl) (fun K hK => ?_) AllReadyH.nil)
      go_simp
      refine (HNX.out _ (agg_lo HL.out hL)).mono ?_
      rintro e wz2 ⟨⟨k, hk, rfl⟩, hb⟩
      replace h2 := Nat.le_trans h2 hb.size
      replace hQ := hQ.lo hb
      replace hR := hR.lo hb
      replace hT := hT.lo hb
      replace hG := hG.lo hb
      replace hown := own_lo hown hb
      replace hL := lo_trans hL hb
      replace hs0 := Nat.le_trans hs0 hb.size
      clear hb
      refine hK.out _ _ ?_ (fun hHeld3 => ?_)
      focus ((try dsimp only); (have r := hQ.facts.1; exact ⟨r 0, r 1, hQ.lt⟩))
      clear hK K hHeld
      have hHeld := hHeld3
      clear hHeld3
      (try simp only [Act.put, List.setIfInBounds_toArray, List.set_cons_zero, List.set_cons_succ])
      refine wpAnyH_ready (rs := [5]) (by kernel_rfl) (by simp) ?_
      refine (AllReadyH.cons (o := _) (getop rfl) (fun K hK => ?_) AllReadyH.nil)
      obtain ⟨cT, fT⟩ := hG.facts
      have lT := hG.lt
      go_simp
      clear cT fT lT
      replace hQ := hQ.far (p := ⟨gG, 0, none⟩) (by dsimp only; omega) (.int .i64 lim)
      replace hR := hR.far (p := ⟨gG, 0, none⟩) (by dsimp only; omega) (.int .i64 lim)
      replace hT := hT.far (p := ⟨gG, 0, none⟩) (by dsimp only; omega) (.int .i64 lim)
      replace hG := hG.set_ 0 (.int .i64 lim)
      replace hown := own_far hown (p := ⟨gG, 0, none⟩) hnG (.int .i64 lim)
      replace hL := lo_set hL (p := ⟨gG, 0, none⟩) (by dsimp only; omega) (.int .i64 lim)
      replace hQ := hQ.far (p := ⟨gG, 1, none⟩) (by dsimp only; omega) (.slice (some ⟨gr, 0, none⟩) l.length cap2)
      replace hR := hR.far (p := ⟨gG, 1, none⟩) (by dsimp only; omega) (.slice (some ⟨gr, 0, none⟩) l.length cap2)
      replace hT := hT.far (p := ⟨gG, 1, none⟩) (by dsimp only; omega) (.slice (some ⟨gr, 0, none⟩) l.length cap2)
      replace hG := hG.set_ 1 (.slice (some ⟨gr, 0, none⟩) l.length cap2)
      replace hown := own_far hown (p := ⟨gG, 1, none⟩) hnG (.slice (some ⟨gr, 0, none⟩) l.length cap2)
      replace hL := lo_set hL (p := ⟨gG, 1, none⟩) (by dsimp only; omega) (.slice (some ⟨gr, 0, none⟩) l.length cap2)
      replace hG : Blk ((wz2.setCell ⟨gG, 0, none⟩ (.int .i64 lim)).setCell ⟨gG, 1, none⟩ (.slice (some ⟨gr, 0, none⟩) l.length cap2)) gG 58 #[.int .i64 lim, .slice (some ⟨gr, 0, none⟩) l.length cap2] := by simpa using hG
      replace h2 : base ≤ ((wz2.setCell ⟨gG, 0, none⟩ (.int .i64 lim)).setCell ⟨gG, 1, none⟩ (.slice (some ⟨gr, 0, none⟩) l.length cap2)).heap.size := by simpa using h2
      generalize ((wz2.setCell ⟨gG, 0, none⟩ (.int .i64 lim)).setCell ⟨gG, 1, none⟩ (.slice (some ⟨gr, 0, none⟩) l.length cap2)) = wz3 at hQ hR hT hG hown hL h2 ⊢
      refine hK.out _ _ ?_ (fun hHeld5 => ?_)
      focus ((try dsimp only); (have r := hQ.facts.1; exact ⟨r 0, r 1, hQ.lt⟩))
      clear hK K hHeld
      have hHeld := hHeld5
      clear hHeld5
      (try simp only [Act.put, List.setIfInBounds_toArray, List.set_cons_zero, List.set_cons_succ])
      first
      | (refine wpAnyH_take (i := 6) (oi := _) (v := ?_) (getop rfl) (by kernel_rfl) (by kernel_rfl) (by kernel_rfl) (fun _ _ _ h => h) (Or.inl ⟨by rfl, ?_⟩) (by assumption) ?_; rotate_left; focus (intro w hSw; (try dsimp only at hSw); go_simp; (try with_reducible rfl); done))
      | (refine wpAnyH_take (i := 6) (oi := _) (v := undef) (getop rfl) (by kernel_rfl) (by kernel_rfl) (by kernel_rfl) (fun _ _ _ h => h) (Or.inr ⟨by rfl, rfl⟩) (by assumption) ?_)
      (try simp only [Act.put, List.setIfInBounds_toArray, List.set_cons_zero, List.set_cons_succ])
      refine wpAnyH_done (by kernel_rfl) ?_ _
      go_wp2_with fail
      go_meet
      exact ⟨gG, base, gr, cap2, k, rfl, rfl, hk, h1, h2, hbg, hown, hG, hR, hT, hnG, by omega, hL⟩
  case rest =>
  clear hQ hR hT hL hs0 HNX HOW
  obtain ⟨gG, base, gr, cap2, k, rfl, rfl, hk, h1, h2, hbg, hown, hG, hR, hT, hnG, hgG, hL⟩ := hcut
  have hkl := hk.1
  have HK := Lib.hid hk
  have hGr : gG ≠ gr := fun e => hnG (by rw [e]; rfl)
  have HGR := Lib.hid (And.intro hGr hnG)
  have hgl : gr < wc.heap.size := (hown.lt gr rfl).2
  clear hk hnG hGr HL
  go_upto_region 5 with fail
  replace hown : wc.ownsRow base 68 4 (.slice (some ⟨gr, 0, none⟩) l.length cap2) l.length ((bumpL l 0).flatMap cellsR) := by rw [bump_zero]; exact hown
  go_loopw [9, 25] (fun _ y wr => ∃ i : Nat, i ≤ k ∧ y = .int .i64 i ∧ wr.ownsRow base 68 4 (.slice (some ⟨gr, 0, none⟩) l.length cap2) l.length ((bumpL l i).flatMap cellsR) ∧ Blk wr gG 58 #[.int .i64 lim, .slice (some ⟨gr, 0, none⟩) l.length cap2] ∧ Blk wr (w.heap.size + 1) 58 #[.int .i64 0, .slice none 0 0] ∧ Blk wr (w.heap.size + 1 + 1) 68 #[.int .i64 0, .int .i64 0, .int .i64 0, .int .i64 0] ∧ base ≤ wr.heap.size ∧ Below w.heap.size w wr) (fun _ y _ => k - (intOf y).toNat)
  case atStart => exact ⟨0, by omega, rfl, hown, hG, hR, hT, h2, hL⟩
  case round =>
  clear hown hG hR hT h2 hL hgl
  obtain ⟨i, hi, rfl, hown, hG, hR, hT, h2, hL⟩ := hrel
  have hgl := (hown.lt gr rfl).2
  by_cases hik : i < k
  · have hik' : (i : Int) < (k : Int) := by omega
    have il : i < l.length := by omega
    have hxp := (HO.out.2.2.1 l[i] (List.getElem_mem _)).2.2.2
    have hx : (bumpL l i)[i]? = some l[i] := by rw [List.getElem?_eq_getElem (by simp; omega), bump_get l i i il, if_neg (by omega)]
    have i0 : (0 : Int) ≤ (i : Int) := by omega
    have i1 : (i : Int) < (l.length : Int) := by omega
    have hy : ∀ ps : Int, ps = (if 2000 < l[i].passed + 1 then 2000 else l[i].passed + 1) → cellsR (bump l[i]) = (cellsR ((bumpL l i)[i]'(by simp; omega))).set 3 (.int .i64 ps) := fun ps h => by
      rw [bump_get l i i il, if_neg (by omega), h]
      rfl
    obtain ⟨x, hxe⟩ : ∃ x, l[i] = x := ⟨_, rfl⟩
    have HXE := Lib.hid hxe
    rw [hxe] at hxp hx
    have HX := Lib.hid hx
    have hw : IntKind.i64.wrap (x.passed + 1) = x.passed + 1 := IntWalk.i64_in _ (by omega)
    by_cases hp : 2000 < x.passed + 1
    · have HY := Lib.hid (hy 2000 (by rw [hxe, if_pos hp]))
      clear hy hxe hx hxp
      go_upto_region 7 with fail
      refine wp_region_until (S := (fun W => W.cell? ⟨gG, 0, none⟩ = some (.int .i64 lim) ∧ W.cell? ⟨gG, 1, none⟩ = some (.slice (some ⟨gr, 0, none⟩) l.length cap2) ∧ gG < W.heap.size ∧ W.cell? ⟨gr, i * 4 + 3, none⟩ = some (.int .i64 x.passed) ∧ gr < W.heap.size)) (S2 := fun _ => True) 11 (by kernel_rfl) ?_
      replace hown : wr.drew.ownsRow _ _ _ _ _ _ := hown
      replace hG : Blk wr.drew _ _ _ := hG
      replace hR : Blk wr.drew _ _ _ := hR
      replace hT : Blk wr.drew _ _ _ := hT
      replace hL := lo_drew hL
      replace h2 : base ≤ wr.drew.heap.size := h2
      replace hgl : gr < wr.drew.heap.size := hgl
      have hcx : wr.drew.cell? ⟨gr, i * 4 + 3, none⟩ = some (.int .i64 x.passed) := (hown.cellAt (i * 4 + 3) (by omega)).trans (flatMap_get cellsR_len (bumpL l i) i 3 x HX.out (by omega))
      generalize wr.drew = wd at hown hG hR hT hL h2 hgl hcx ⊢
      have hGo : True ∧ (fun W => W.cell? ⟨gG, 0, none⟩ = some (.int .i64 lim) ∧ W.cell? ⟨gG, 1, none⟩ = some (.slice (some ⟨gr, 0, none⟩) l.length cap2) ∧ gG < W.heap.size ∧ W.cell? ⟨gr, i * 4 + 3, none⟩ = some (.int .i64 x.passed) ∧ gr < W.heap.size) wd := by have q := hG.facts.1; exact ⟨trivial, q 0, q 1, hG.lt, hcx, hgl⟩
      dsimp only at hGo
      (refine until_take (i := 0) (oi := _) (op := _) (v := ?_) (getop rfl) (getop rfl) (by kernel_rfl) (by decide) (by kernel_rfl) (by kernel_rfl) (by kernel_rfl) (by kernel_rfl) (fun _ _ _ h => h) (Or.inl ⟨by rfl, ?_⟩) hGo ?_; rotate_left; focus (intro w hSw; (try dsimp only at hSw); go_simp; (try with_reducible rfl); done))
      (try simp only [Act.put, List.setIfInBounds_toArray, List.set_cons_zero, List.set_cons_succ])
      (refine until_take (i := 1) (oi := _) (op := _) (v := ?_) (getop rfl) (getop rfl) (by kernel_rfl) (by decide) (by kernel_rfl) (by kernel_rfl) (by kernel_rfl) (by kernel_rfl) (fun _ _ _ h => h) (Or.inl ⟨by rfl, ?_⟩) hGo ?_; rotate_left; focus (intro w hSw; (try dsimp only at hSw); go_simp; (try with_reducible rfl); done))
      (try simp only [Act.put, List.setIfInBounds_toArray, List.set_cons_zero, List.set_cons_succ])
      (refine until_take (i := 2) (oi := _) (op := _) (v := ?_) (getop rfl) (getop rfl) (by kernel_rfl) (by decide) (by kernel_rfl) (by kernel_rfl) (by kernel_rfl) (by kernel_rfl) (fun _ _ _ h => h) (Or.inl ⟨by rfl, ?_⟩) hGo ?_; rotate_left; focus (intro w hSw; (try dsimp only at hSw); go_simp; (try with_reducible rfl); done))
      (try simp only [Act.put, List.setIfInBounds_toArray, List.set_cons_zero, List.set_cons_succ])
      (refine until_take (i := 3) (oi := _) (op := _) (v := ?_) (getop rfl) (getop rfl) (by kernel_rfl) (by decide) (by kernel_rfl) (by kernel_rfl) (by kernel_rfl) (by kernel_rfl) (fun _ _ _ h => h) (Or.inl ⟨by rfl, ?_⟩) hGo ?_; rotate_left; focus (intro w hSw; (try dsimp only at hSw); go_simp; (try with_reducible rfl); done))
      (try simp only [Act.put, List.setIfInBounds_toArray, List.set_cons_zero, List.set_cons_succ])
      (refine until_take (i := 4) (oi := _) (op := _) (v := ?_) (getop rfl) (getop rfl) (by kernel_rfl) (by decide) (by kernel_rfl) (by kernel_rfl) (by kernel_rfl) (by kernel_rfl) (fun _ _ _ h => h) (Or.inl ⟨by rfl, ?_⟩) hGo ?_; rotate_left; focus (intro w hSw; (try dsimp only at hSw); go_simp; (try with_reducible rfl); done))
      (try simp only [Act.put, List.setIfInBounds_toArray, List.set_cons_zero, List.set_cons_succ])
      (refine until_take (i := 5) (oi := _) (op := _) (v := ?_) (getop rfl) (getop rfl) (by kernel_rfl) (by decide) (by kernel_rfl) (by kernel_rfl) (by kernel_rfl) (by kernel_rfl) (fun _ _ _ h => h) (Or.inl ⟨by rfl, ?_⟩) hGo ?_; rotate_left; focus (intro w hSw; (try dsimp only at hSw); go_simp; (try with_reducible rfl); done))
      (try simp only [Act.put, List.setIfInBounds_toArray, List.set_cons_zero, List.set_cons_succ])
      (refine until_take (i := 6) (oi := _) (op := _) (v := ?_) (getop rfl) (getop rfl) (by kernel_rfl) (by decide) (by kernel_rfl) (by kernel_rfl) (by kernel_rfl) (by kernel_rfl) (fun _ _ _ h => h) (Or.inl ⟨by rfl, ?_⟩) hGo ?_; rotate_left; focus (intro w hSw; (try dsimp only at hSw); go_simp; (try with_reducible rfl); done))
      (try simp only [Act.put, List.setIfInBounds_toArray, List.set_cons_zero, List.set_cons_succ])
      (refine until_take (i := 7) (oi := _) (op := _) (v := ?_) (getop rfl) (getop rfl) (by kernel_rfl) (by decide) (by kernel_rfl) (by kernel_rfl) (by kernel_rfl) (by kernel_rfl) (fun _ _ _ h => h) (Or.inl ⟨by rfl, ?_⟩) hGo ?_; rotate_left; focus (intro w hSw; (try dsimp only at hSw); go_simp; (try with_reducible rfl); done))
      (try simp only [Act.put, List.setIfInBounds_toArray, List.set_cons_zero, List.set_cons_succ])
      (refine until_take (i := 8) (oi := _) (op := _) (v := ?_) (getop rfl) (getop rfl) (by kernel_rfl) (by decide) (by kernel_rfl) (by kernel_rfl) (by kernel_rfl) (by kernel_rfl) (fun _ _ _ h => h) (Or.inl ⟨by rfl, ?_⟩) hGo ?_; rotate_left; focus (intro w hSw; (try dsimp only at hSw); go_simp; (try with_reducible rfl); done))
      (try simp only [Act.put, List.setIfInBounds_toArray, List.set_cons_zero, List.set_cons_succ])
      (refine until_take (i := 9) (oi := _) (op := _) (v := ?_) (getop rfl) (getop rfl) (by kernel_rfl) (by decide) (by kernel_rfl) (by kernel_rfl) (by kernel_rfl) (by kernel_rfl) (fun _ _ _ h => h) (Or.inl ⟨by rfl, ?_⟩) hGo ?_; rotate_left; focus (intro w hSw; (try dsimp only at hSw); go_simp; (try with_reducible rfl); done))
      (try simp only [Act.put, List.setIfInBounds_toArray, List.set_cons_zero, List.set_cons_succ])
      (refine until_take (i := 10) (oi := _) (op := _) (v := ?_) (getop rfl) (getop rfl) (by kernel_rfl) (by decide) (by kernel_rfl) (by kernel_rfl) (by kernel_rfl) (by kernel_rfl) (fun _ _ _ h => h) (Or.inl ⟨by rfl, ?_⟩) hGo ?_; rotate_left; focus (intro w hSw; (try dsimp only at hSw); go_simp; (try with_reducible rfl); done))
      (try simp only [Act.put, List.setIfInBounds_toArray, List.set_cons_zero, List.set_cons_succ])
      clear hGo
      refine until_step (i := 11) (o := _) (by kernel_rfl) (getop rfl) (by kernel_rfl) (fun K hK => ?_)
      go_simp
      refine hK.out _ _ trivial ?_
      clear hK K
      (try simp only [Act.put, List.setIfInBounds_toArray, List.set_cons_zero, List.set_cons_succ])
      (refine until_take2 (i := 12) (oi := _) (v := ?_) (getop rfl) (by decide) (by kernel_rfl) (by kernel_rfl) (by kernel_rfl) (fun _ _ _ h => h) (Or.inl ⟨by rfl, ?_⟩) ⟨trivial, Or.inl (by kernel_rfl)⟩ ?_; rotate_left; focus (intro w hSw; (try dsimp only at hSw); go_simp; (try with_reducible rfl); done))
      (try simp only [Act.put, List.setIfInBounds_toArray, List.set_cons_zero, List.set_cons_succ])
      refine until_step (i := 13) (o := _) (by kernel_rfl) (getop rfl) (by kernel_rfl) (fun K hK => ?_)
      have fx := hown.frozenAt (i * 4 + 3)
      go_simp
      refine hK.out _ _ trivial ?_
      clear hK K
      (try simp only [Act.put, List.setIfInBounds_toArray, List.set_cons_zero, List.set_cons_succ])
      refine until_done (by kernel_rfl) ?_ _
      have hst := (hown.stored (i * 4 + 3) (.int .i64 2000)).1
      rw [flat_set (bumpL l i) i 3 (by simp; omega) (by omega) (bump l[i]) _ HY.out, ← bump_succ l i (by omega)] at hst
      go_wp2_with fail
      go_roundw
      case rel => exact ⟨i + 1, by omega, by go_num, hst, hG.far (p := ⟨gr, i * 4 + 3, none⟩) (by dsimp only; exact HGR.out.1) _, hR.far (p := ⟨gr, i * 4 + 3, none⟩) (by dsimp only; omega) _, hT.far (p := ⟨gr, i * 4 + 3, none⟩) (by dsimp only; omega) _, by simpa using h2, lo_set hL (p := ⟨gr, i * 4 + 3, none⟩) (by dsimp only; omega) _⟩
      case measure => simp [intOf]; omega
    · have HY := Lib.hid (hy (x.passed + 1) (by rw [hxe, if_neg hp]))
      clear hy hxe hx hxp
      go_upto_region 7 with fail
      refine wp_region_until (S := (fun W => W.cell? ⟨gG, 0, none⟩ = some (.int .i64 lim) ∧ W.cell? ⟨gG, 1, none⟩ = some (.slice (some ⟨gr, 0, none⟩) l.length cap2) ∧ gG < W.heap.size ∧ W.cell? ⟨gr, i * 4 + 3, none⟩ = some (.int .i64 x.passed) ∧ gr < W.heap.size)) (S2 := fun _ => True) 11 (by kernel_rfl) ?_
      replace hown : wr.drew.ownsRow _ _ _ _ _ _ := hown
      replace hG : Blk wr.drew _ _ _ := hG
      replace hR : Blk wr.drew _ _ _ := hR
      replace hT : Blk wr.drew _ _ _ := hT
      replace hL := lo_drew hL
      replace h2 : base ≤ wr.drew.heap.size := h2
      replace hgl : gr < wr.drew.heap.size := hgl
      have hcx : wr.drew.cell? ⟨gr, i * 4 + 3, none⟩ = some (.int .i64 x.passed) := (hown.cellAt (i * 4 + 3) (by omega)).trans (flatMap_get cellsR_len (bumpL l i) i 3 x HX.out (by omega))
      generalize wr.drew = wd at hown hG hR hT hL h2 hgl hcx ⊢
      have hGo : True ∧ (fun W => W.cell? ⟨gG, 0, none⟩ = some (.int .i64 lim) ∧ W.cell? ⟨gG, 1, none⟩ = some (.slice (some ⟨gr, 0, none⟩) l.length cap2) ∧ gG < W.heap.size ∧ W.cell? ⟨gr, i * 4 + 3, none⟩ = some (.int .i64 x.passed) ∧ gr < W.heap.size) wd := by have q := hG.facts.1; exact ⟨trivial, q 0, q 1, hG.lt, hcx, hgl⟩
      dsimp only at hGo
      (refine until_take (i := 0) (oi := _) (op := _) (v := ?_) (getop rfl) (getop rfl) (by kernel_rfl) (by decide) (by kernel_rfl) (by kernel_rfl) (by kernel_rfl) (by kernel_rfl) (fun _ _ _ h => h) (Or.inl ⟨by rfl, ?_⟩) hGo ?_; rotate_left; focus (intro w hSw; (try dsimp only at hSw); go_simp; (try with_reducible rfl); done))
      (try simp only [Act.put, List.setIfInBounds_toArray, List.set_cons_zero, List.set_cons_succ])
      (refine until_take (i := 1) (oi := _) (op := _) (v := ?_) (getop rfl) (getop rfl) (by kernel_rfl) (by decide) (by kernel_rfl) (by kernel_rfl) (by kernel_rfl) (by kernel_rfl) (fun _ _ _ h => h) (Or.inl ⟨by rfl, ?_⟩) hGo ?_; rotate_left; focus (intro w hSw; (try dsimp only at hSw); go_simp; (try with_reducible rfl); done))
      (try simp only [Act.put, List.setIfInBounds_toArray, List.set_cons_zero, List.set_cons_succ])
      (refine until_take (i := 2) (oi := _) (op := _) (v := ?_) (getop rfl) (getop rfl) (by kernel_rfl) (by decide) (by kernel_rfl) (by kernel_rfl) (by kernel_rfl) (by kernel_rfl) (fun _ _ _ h => h) (Or.inl ⟨by rfl, ?_⟩) hGo ?_; rotate_left; focus (intro w hSw; (try dsimp only at hSw); go_simp; (try with_reducible rfl); done))
      (try simp only [Act.put, List.setIfInBounds_toArray, List.set_cons_zero, List.set_cons_succ])
      (refine until_take (i := 3) (oi := _) (op := _) (v := ?_) (getop rfl) (getop rfl) (by kernel_rfl) (by decide) (by kernel_rfl) (by kernel_rfl) (by kernel_rfl) (by kernel_rfl) (fun _ _ _ h => h) (Or.inl ⟨by rfl, ?_⟩) hGo ?_; rotate_left; focus (intro w hSw; (try dsimp only at hSw); go_simp; (try with_reducible rfl); done))
      (try simp only [Act.put, List.setIfInBounds_toArray, List.set_cons_zero, List.set_cons_succ])
      (refine until_take (i := 4) (oi := _) (op := _) (v := ?_) (getop rfl) (getop rfl) (by kernel_rfl) (by decide) (by kernel_rfl) (by kernel_rfl) (by kernel_rfl) (by kernel_rfl) (fun _ _ _ h => h) (Or.inl ⟨by rfl, ?_⟩) hGo ?_; rotate_left; focus (intro w hSw; (try dsimp only at hSw); go_simp; (try with_reducible rfl); done))
      (try simp only [Act.put, List.setIfInBounds_toArray, List.set_cons_zero, List.set_cons_succ])
      (refine until_take (i := 5) (oi := _) (op := _) (v := ?_) (getop rfl) (getop rfl) (by kernel_rfl) (by decide) (by kernel_rfl) (by kernel_rfl) (by kernel_rfl) (by kernel_rfl) (fun _ _ _ h => h) (Or.inl ⟨by rfl, ?_⟩) hGo ?_; rotate_left; focus (intro w hSw; (try dsimp only at hSw); go_simp; (try with_reducible rfl); done))
      (try simp only [Act.put, List.setIfInBounds_toArray, List.set_cons_zero, List.set_cons_succ])
      (refine until_take (i := 6) (oi := _) (op := _) (v := ?_) (getop rfl) (getop rfl) (by kernel_rfl) (by decide) (by kernel_rfl) (by kernel_rfl) (by kernel_rfl) (by kernel_rfl) (fun _ _ _ h => h) (Or.inl ⟨by rfl, ?_⟩) hGo ?_; rotate_left; focus (intro w hSw; (try dsimp only at hSw); go_simp; (try with_reducible rfl); done))
      (try simp only [Act.put, List.setIfInBounds_toArray, List.set_cons_zero, List.set_cons_succ])
      (refine until_take (i := 7) (oi := _) (op := _) (v := ?_) (getop rfl) (getop rfl) (by kernel_rfl) (by decide) (by kernel_rfl) (by kernel_rfl) (by kernel_rfl) (by kernel_rfl) (fun _ _ _ h => h) (Or.inl ⟨by rfl, ?_⟩) hGo ?_; rotate_left; focus (intro w hSw; (try dsimp only at hSw); go_simp; (try with_reducible rfl); done))
      (try simp only [Act.put, List.setIfInBounds_toArray, List.set_cons_zero, List.set_cons_succ])
      (refine until_take (i := 8) (oi := _) (op := _) (v := ?_) (getop rfl) (getop rfl) (by kernel_rfl) (by decide) (by kernel_rfl) (by kernel_rfl) (by kernel_rfl) (by kernel_rfl) (fun _ _ _ h => h) (Or.inl ⟨by rfl, ?_⟩) hGo ?_; rotate_left; focus (intro w hSw; (try dsimp only at hSw); go_simp; (try with_reducible rfl); done))
      (try simp only [Act.put, List.setIfInBounds_toArray, List.set_cons_zero, List.set_cons_succ])
      (refine until_take (i := 9) (oi := _) (op := _) (v := ?_) (getop rfl) (getop rfl) (by kernel_rfl) (by decide) (by kernel_rfl) (by kernel_rfl) (by kernel_rfl) (by kernel_rfl) (fun _ _ _ h => h) (Or.inl ⟨by rfl, ?_⟩) hGo ?_; rotate_left; focus (intro w hSw; (try dsimp only at hSw); go_simp; (try with_reducible rfl); done))
      (try simp only [Act.put, List.setIfInBounds_toArray, List.set_cons_zero, List.set_cons_succ])
      (refine until_take (i := 10) (oi := _) (op := _) (v := ?_) (getop rfl) (getop rfl) (by kernel_rfl) (by decide) (by kernel_rfl) (by kernel_rfl) (by kernel_rfl) (by kernel_rfl) (fun _ _ _ h => h) (Or.inl ⟨by rfl, ?_⟩) hGo ?_; rotate_left; focus (intro w hSw; (try dsimp only at hSw); go_simp; (try with_reducible rfl); done))
      (try simp only [Act.put, List.setIfInBounds_toArray, List.set_cons_zero, List.set_cons_succ])
      clear hGo
      refine until_step (i := 11) (o := _) (by kernel_rfl) (getop rfl) (by kernel_rfl) (fun K hK => ?_)
      go_simp
      refine hK.out _ _ trivial ?_
      clear hK K
      (try simp only [Act.put, List.setIfInBounds_toArray, List.set_cons_zero, List.set_cons_succ])
      (refine until_take2 (i := 12) (oi := _) (v := ?_) (getop rfl) (by decide) (by kernel_rfl) (by kernel_rfl) (by kernel_rfl) (fun _ _ _ h => h) (Or.inl ⟨by rfl, ?_⟩) ⟨trivial, Or.inl (by kernel_rfl)⟩ ?_; rotate_left; focus (intro w hSw; (try dsimp only at hSw); go_simp; (try with_reducible rfl); done))
      (try simp only [Act.put, List.setIfInBounds_toArray, List.set_cons_zero, List.set_cons_succ])
      refine until_step (i := 13) (o := _) (by kernel_rfl) (getop rfl) (by kernel_rfl) (fun K hK => ?_)
      have fx := hown.frozenAt (i * 4 + 3)
      go_simp
      refine hK.out _ _ trivial ?_
      clear hK K
      (try simp only [Act.put, List.setIfInBounds_toArray, List.set_cons_zero, List.set_cons_succ])
      refine until_done (by kernel_rfl) ?_ _
      have hst := (hown.stored (i * 4 + 3) (.int .i64 (x.passed + 1))).1
      rw [flat_set (bumpL l i) i 3 (by simp; omega) (by omega) (bump l[i]) _ HY.out, ← bump_succ l i (by omega)] at hst
      go_wp2_with fail
      go_roundw
      case rel => exact ⟨i + 1, by omega, by go_num, hst, hG.far (p := ⟨gr, i * 4 + 3, none⟩) (by dsimp only; exact HGR.out.1) _, hR.far (p := ⟨gr, i * 4 + 3, none⟩) (by dsimp only; omega) _, hT.far (p := ⟨gr, i * 4 + 3, none⟩) (by dsimp only; omega) _, by simpa using h2, lo_set hL (p := ⟨gr, i * 4 + 3, none⟩) (by dsimp only; omega) _⟩
      case measure => simp [intOf]; omega
  · have hik' : ¬ (i : Int) < (k : Int) := by omega
    obtain rfl : i = k := by omega
    have hxp := (HO.out.2.2.1 l[i] (List.getElem_mem _)).2.2.1
    have hx : (bumpL l i)[i]? = some l[i] := by rw [List.getElem?_eq_getElem (by simp; omega), bump_get l i i hkl, if_neg (by omega)]
    have hsv : serveL l i q = if (cutR l[i] q).left = 0 then ((bumpL l i).set i (cutR l[i] q)).eraseIdx i else (bumpL l i).set i (cutR l[i] q) := dif_pos hkl
    have hbx : (bumpL l i)[i]'(by simp; omega) = l[i] := by rw [bump_get l i i hkl, if_neg (by omega)]
    have i0 : (0 : Int) ≤ (i : Int) := by omega
    have i1 : (i : Int) < (l.length : Int) := by omega
    obtain ⟨x, hxe⟩ : ∃ x, l[i] = x := ⟨_, rfl⟩
    have HXE := Lib.hid hxe
    rw [hxe] at hxp hx hsv hbx
    have k0 : wr.cell? ⟨gr, i * 4, none⟩ = some (.int .i64 x.id) := (hown.cellAt (i * 4) (by omega)).trans (flatMap_get cellsR_len (bumpL l i) i 0 x hx (by omega))
    have k1 : wr.cell? ⟨gr, i * 4 + 1, none⟩ = some (.int .i64 x.rank) := (hown.cellAt (i * 4 + 1) (by omega)).trans (flatMap_get cellsR_len (bumpL l i) i 1 x hx (by omega))
    have k2 : wr.cell? ⟨gr, i * 4 + 2, none⟩ = some (.int .i64 x.left) := (hown.cellAt (i * 4 + 2) (by omega)).trans (flatMap_get cellsR_len (bumpL l i) i 2 x hx (by omega))
    have k3 : wr.cell? ⟨gr, i * 4 + 3, none⟩ = some (.int .i64 x.passed) := (hown.cellAt (i * 4 + 3) (by omega)).trans (flatMap_get cellsR_len (bumpL l i) i 3 x hx (by omega))
    have fk := hown.frozenAt (i * 4 + 2)
    have hl2 : ((bumpL l i).set i (cutR x q))[i]? = some (cutR x q) := by rw [List.getElem?_set_self (by simp; omega)]
    have HL2 := Lib.hid hl2
    have HBX := Lib.hid hbx
    clear hxe hx hbx hl2
    obtain ⟨cG, fG⟩ := hG.facts
    by_cases hq2 : q < x.left
    · have hmin : min x.left q = q := by omega
      have hw : IntKind.i64.wrap (x.left - q) = x.left - q := IntWalk.i64_in _ (by omega)
      have HM := Lib.hid hmin
      have HY : Hid (cellsR (cutR x q) = (cellsR ((bumpL l i)[i]'(by simp; omega))).set 2 (.int .i64 (x.left - q))) := Lib.hid (by rw [HBX.out]; unfold cutR; rw [hmin]; rfl)
      have HSV : Hid (serveL l i q = (bumpL l i).set i (cutR x q)) := Lib.hid (by rw [hsv, if_neg]; unfold cutR; rw [hmin]; show ¬ x.left - q = 0; omega)
      clear hsv hmin
      go_upto_region 11 with fail
      clear k0 k1 k2 k3 fk cG fG
      replace hown := (hown.stored (i * 4 + 2) (.int .i64 (x.left - q))).1
      rw [flat_set (bumpL l i) i 2 (by simp; omega) (by omega) (cutR x q) _ HY.out] at hown
      replace hG := hG.far (p := ⟨gr, i * 4 + 2, none⟩) (by dsimp only; exact HGR.out.1) (.int .i64 (x.left - q))
      replace hR := hR.far (p := ⟨gr, i * 4 + 2, none⟩) (by dsimp only; omega) (.int .i64 (x.left - q))
      replace hT := hT.far (p := ⟨gr, i * 4 + 2, none⟩) (by dsimp only; omega) (.int .i64 (x.left - q))
      replace hL := lo_set hL (p := ⟨gr, i * 4 + 2, none⟩) (by dsimp only; omega) (.int .i64 (x.left - q))
      replace h2 : base ≤ (wr.setCell ⟨gr, i * 4 + 2, none⟩ (.int .i64 (x.left - q))).heap.size := by simpa using h2
      replace hgl : gr < (wr.setCell ⟨gr, i * 4 + 2, none⟩ (.int .i64 (x.left - q))).heap.size := by simpa using hgl
      generalize wr.setCell ⟨gr, i * 4 + 2, none⟩ (.int .i64 (x.left - q)) = w5 at hown hG hR hT hL h2 hgl ⊢
      have hcut : cutR x q = ⟨x.id, x.rank, (x.left - q), x.passed⟩ := by unfold cutR; rw [HM.out]
      obtain ⟨cG5, fG5⟩ := hG.facts
      have j0 : w5.cell? ⟨gr, i * 4, none⟩ = some (.int .i64 x.id) := (hown.cellAt (i * 4) (by omega)).trans ((flatMap_get cellsR_len _ i 0 (cutR x q) HL2.out (by omega)).trans (by rw [hcut]; rfl))
      have j1 : w5.cell? ⟨gr, i * 4 + 1, none⟩ = some (.int .i64 x.rank) := (hown.cellAt (i * 4 + 1) (by omega)).trans ((flatMap_get cellsR_len _ i 1 (cutR x q) HL2.out (by omega)).trans (by rw [hcut]; rfl))
      have j2 : w5.cell? ⟨gr, i * 4 + 2, none⟩ = some (.int .i64 (x.left - q)) := (hown.cellAt (i * 4 + 2) (by omega)).trans ((flatMap_get cellsR_len _ i 2 (cutR x q) HL2.out (by omega)).trans (by rw [hcut]; rfl))
      have j3 : w5.cell? ⟨gr, i * 4 + 3, none⟩ = some (.int .i64 x.passed) := (hown.cellAt (i * 4 + 3) (by omega)).trans ((flatMap_get cellsR_len _ i 3 (cutR x q) HL2.out (by omega)).trans (by rw [hcut]; rfl))
      clear hcut
      have hX := Blk.new w5 68 #[.int .i64 x.id, .int .i64 x.rank, .int .i64 (x.left - q), .int .i64 x.passed]
      have HGL : Hid (gG < w5.heap.size) := Lib.hid hG.lt
      replace hG := hG.alloc (.cells #[.int .i64 x.id, .int .i64 x.rank, .int .i64 (x.left - q), .int .i64 x.passed] 68)
      replace hR := hR.alloc (.cells #[.int .i64 x.id, .int .i64 x.rank, .int .i64 (x.left - q), .int .i64 x.passed] 68)
      replace hT := hT.alloc (.cells #[.int .i64 x.id, .int .i64 x.rank, .int .i64 (x.left - q), .int .i64 x.passed] 68)
      replace hown := hown.alloc (.cells #[.int .i64 x.id, .int .i64 x.rank, .int .i64 (x.left - q), .int .i64 x.passed] 68)
      replace hL := lo_alloc hL (.cells #[.int .i64 x.id, .int .i64 x.rank, .int .i64 (x.left - q), .int .i64 x.passed] 68)
      replace h2 : base ≤ (w5.alloc (.cells #[.int .i64 x.id, .int .i64 x.rank, .int .i64 (x.left - q), .int .i64 x.passed] 68)).heap.size := by simp; omega
      obtain ⟨cX, fX⟩ := hX.facts
      have hne0 : ¬ x.left - q = 0 := by omega
      go_upto_region 14 with fail
      clear cX fX j0 j1 j2 j3 cG5 fG5
      have zX : w.heap.size + 1 + 1 < w5.heap.size := by omega
      generalize w5.heap.size = gX at hX zX ⊢
      generalize w5.alloc (.cells #[.int .i64 x.id, .int .i64 x.rank, .int .i64 (x.left - q), .int .i64 x.passed] 68) = ws at hown hG hR hT hX hL h2 ⊢
      refine wp_region_held_drew (S := (fun W => W.cell? ⟨gG, 0, none⟩ = some (.int .i64 lim) ∧ W.cell? ⟨gG, 1, none⟩ = some (.slice (some ⟨gr, 0, none⟩) l.length cap2) ∧ gG < W.heap.size ∧ W.cell? ⟨gX, 0, none⟩ = some (.int .i64 x.id) ∧ W.cell? ⟨gX, 1, none⟩ = some (.int .i64 x.rank) ∧ W.cell? ⟨gX, 2, none⟩ = some (.int .i64 (x.left - q)) ∧ W.cell? ⟨gX, 3, none⟩ = some (.int .i64 x.passed) ∧ gX < W.heap.size)) (by kernel_rfl) ?_ (fun hHeld => ?_)
      focus ((try dsimp only); (have r := hG.facts.1; have q := hX.facts.1; exact ⟨r 0, r 1, hG.lt, q 0, q 1, q 2, q 3, hX.lt⟩))
      replace hown : ws.drew.ownsRow _ _ _ _ _ _ := hown
      replace hG : Blk ws.drew _ _ _ := hG
      replace hX : Blk ws.drew _ _ _ := hX
      replace hR : Blk ws.drew _ _ _ := hR
      replace hT : Blk ws.drew _ _ _ := hT
      replace hL := lo_drew hL
      replace h2 : base ≤ ws.drew.heap.size := h2
      generalize ws.drew = wd at hown hG hX hR hT hL h2 hHeld ⊢
      first
      | (refine wpAnyH_take (i := 0) (oi := _) (v := ?_) (getop rfl) (by kernel_rfl) (by kernel_rfl) (by kernel_rfl) (fun _ _ _ h => h) (Or.inl ⟨by rfl, ?_⟩) (by assumption) ?_; rotate_left; focus (intro w hSw; (try dsimp only at hSw); go_simp; (try with_reducible rfl); done))
      | (refine wpAnyH_take (i := 0) (oi := _) (v := undef) (getop rfl) (by kernel_rfl) (by kernel_rfl) (by kernel_rfl) (fun _ _ _ h => h) (Or.inr ⟨by rfl, rfl⟩) (by assumption) ?_)
      (try simp only [Act.put, List.setIfInBounds_toArray, List.set_cons_zero, List.set_cons_succ])
      first
      | (refine wpAnyH_take (i := 1) (oi := _) (v := ?_) (getop rfl) (by kernel_rfl) (by kernel_rfl) (by kernel_rfl) (fun _ _ _ h => h) (Or.inl ⟨by rfl, ?_⟩) (by assumption) ?_; rotate_left; focus (intro w hSw; (try dsimp only at hSw); go_simp; (try with_reducible rfl); done))
      | (refine wpAnyH_take (i := 1) (oi := _) (v := undef) (getop rfl) (by kernel_rfl) (by kernel_rfl) (by kernel_rfl) (fun _ _ _ h => h) (Or.inr ⟨by rfl, rfl⟩) (by assumption) ?_)
      (try simp only [Act.put, List.setIfInBounds_toArray, List.set_cons_zero, List.set_cons_succ])
      first
      | (refine wpAnyH_take (i := 2) (oi := _) (v := ?_) (getop rfl) (by kernel_rfl) (by kernel_rfl) (by kernel_rfl) (fun _ _ _ h => h) (Or.inl ⟨by rfl, ?_⟩) (by assumption) ?_; rotate_left; focus (intro w hSw; (try dsimp only at hSw); go_simp; (try with_reducible rfl); done))
      | (refine wpAnyH_take (i := 2) (oi := _) (v := undef) (getop rfl) (by kernel_rfl) (by kernel_rfl) (by kernel_rfl) (fun _ _ _ h => h) (Or.inr ⟨by rfl, rfl⟩) (by assumption) ?_)
      (try simp only [Act.put, List.setIfInBounds_toArray, List.set_cons_zero, List.set_cons_succ])
      refine wpAnyH_ready (rs := [3]) (by kernel_rfl) (by simp) ?_
      refine (AllReadyH.cons (o := _) (getop rfl) (fun K hK => ?_) AllReadyH.nil)
      obtain ⟨cT, fT⟩ := hR.facts
      have lT := hR.lt
      go_simp
      clear cT fT lT
      replace hG := hG.far (p := ⟨w.heap.size + 1, 0, none⟩) (by dsimp only; omega) (.int .i64 lim)
      replace hX := hX.far (p := ⟨w.heap.size + 1, 0, none⟩) (by dsimp only; omega) (.int .i64 lim)
      replace hT := hT.far (p := ⟨w.heap.size + 1, 0, none⟩) (by dsimp only; omega) (.int .i64 lim)
      replace hR := hR.set_ 0 (.int .i64 lim)
      replace hown := own_set hown (p := ⟨w.heap.size + 1, 0, none⟩) (by dsimp only; omega) (.int .i64 lim)
      replace hL := lo_set hL (p := ⟨w.heap.size + 1, 0, none⟩) (by dsimp only; omega) (.int .i64 lim)
      replace hG := hG.far (p := ⟨w.heap.size + 1, 1, none⟩) (by dsimp only; omega) (.slice (some ⟨gr, 0, none⟩) l.length cap2)
      replace hX := hX.far (p := ⟨w.heap.size + 1, 1, none⟩) (by dsimp only; omega) (.slice (some ⟨gr, 0, none⟩) l.length cap2)
      replace hT := hT.far (p := ⟨w.heap.size + 1, 1, none⟩) (by dsimp only; omega) (.slice (some ⟨gr, 0, none⟩) l.length cap2)
      replace hR := hR.set_ 1 (.slice (some ⟨gr, 0, none⟩) l.length cap2)
      replace hown := own_set hown (p := ⟨w.heap.size + 1, 1, none⟩) (by dsimp only; omega) (.slice (some ⟨gr, 0, none⟩) l.length cap2)
      replace hL := lo_set hL (p := ⟨w.heap.size + 1, 1, none⟩) (by dsimp only; omega) (.slice (some ⟨gr, 0, none⟩) l.length cap2)
      replace hR : Blk ((wd.setCell ⟨w.heap.size + 1, 0, none⟩ (.int .i64 lim)).setCell ⟨w.heap.size + 1, 1, none⟩ (.slice (some ⟨gr, 0, none⟩) l.length cap2)) (w.heap.size + 1) 58 #[.int .i64 lim, .slice (some ⟨gr, 0, none⟩) l.length cap2] := by simpa using hR
      replace h2 : base ≤ ((wd.setCell ⟨w.heap.size + 1, 0, none⟩ (.int .i64 lim)).setCell ⟨w.heap.size + 1, 1, none⟩ (.slice (some ⟨gr, 0, none⟩) l.length cap2)).heap.size := by simpa using h2
      generalize ((wd.setCell ⟨w.heap.size + 1, 0, none⟩ (.int .i64 lim)).setCell ⟨w.heap.size + 1, 1, none⟩ (.slice (some ⟨gr, 0, none⟩) l.length cap2)) = wz0 at hown hL h2 hG hX hT hR ⊢
      refine hK.out _ _ ?_ (fun hHeld3 => ?_)
      focus ((try dsimp only); (have r := hG.facts.1; have q := hX.facts.1; exact ⟨r 0, r 1, hG.lt, q 0, q 1, q 2, q 3, hX.lt⟩))
      clear hK K hHeld
      have hHeld := hHeld3
      clear hHeld3
      (try simp only [Act.put, List.setIfInBounds_toArray, List.set_cons_zero, List.set_cons_succ])
      refine wpAnyH_ready (rs := [4]) (by kernel_rfl) (by simp) ?_
      refine (AllReadyH.cons (o := _) (getop rfl) (fun K hK => ?_) AllReadyH.nil)
      obtain ⟨cT, fT⟩ := hT.facts
      have lT := hT.lt
      go_simp
      clear cT fT lT
      replace hG := hG.far (p := ⟨w.heap.size + 1 + 1, 0, none⟩) (by dsimp only; omega) (.int .i64 x.id)
      replace hX := hX.far (p := ⟨w.heap.size + 1 + 1, 0, none⟩) (by dsimp only; omega) (.int .i64 x.id)
      replace hR := hR.far (p := ⟨w.heap.size + 1 + 1, 0, none⟩) (by dsimp only; omega) (.int .i64 x.id)
      replace hT := hT.set_ 0 (.int .i64 x.id)
      replace hown := own_set hown (p := ⟨w.heap.size + 1 + 1, 0, none⟩) (by dsimp only; omega) (.int .i64 x.id)
      replace hL := lo_set hL (p := ⟨w.heap.size + 1 + 1, 0, none⟩) (by dsimp only; omega) (.int .i64 x.id)
      replace hG := hG.far (p := ⟨w.heap.size + 1 + 1, 1, none⟩) (by dsimp only; omega) (.int .i64 x.rank)
      replace hX := hX.far (p := ⟨w.heap.size + 1 + 1, 1, none⟩) (by dsimp only; omega) (.int .i64 x.rank)
      replace hR := hR.far (p := ⟨w.heap.size + 1 + 1, 1, none⟩) (by dsimp only; omega) (.int .i64 x.rank)
      replace hT := hT.set_ 1 (.int .i64 x.rank)
      replace hown := own_set hown (p := ⟨w.heap.size + 1 + 1, 1, none⟩) (by dsimp only; omega) (.int .i64 x.rank)
      replace hL := lo_set hL (p := ⟨w.heap.size + 1 + 1, 1, none⟩) (by dsimp only; omega) (.int .i64 x.rank)
      replace hG := hG.far (p := ⟨w.heap.size + 1 + 1, 2, none⟩) (by dsimp only; omega) (.int .i64 (x.left - q))
      replace hX := hX.far (p := ⟨w.heap.size + 1 + 1, 2, none⟩) (by dsimp only; omega) (.int .i64 (x.left - q))
      replace hR := hR.far (p := ⟨w.heap.size + 1 + 1, 2, none⟩) (by dsimp only; omega) (.int .i64 (x.left - q))
      replace hT := hT.set_ 2 (.int .i64 (x.left - q))
      replace hown := own_set hown (p := ⟨w.heap.size + 1 + 1, 2, none⟩) (by dsimp only; omega) (.int .i64 (x.left - q))
      replace hL := lo_set hL (p := ⟨w.heap.size + 1 + 1, 2, none⟩) (by dsimp only; omega) (.int .i64 (x.left - q))
      replace hG := hG.far (p := ⟨w.heap.size + 1 + 1, 3, none⟩) (by dsimp only; omega) (.int .i64 x.passed)
      replace hX := hX.far (p := ⟨w.heap.size + 1 + 1, 3, none⟩) (by dsimp only; omega) (.int .i64 x.passed)
      replace hR := hR.far (p := ⟨w.heap.size + 1 + 1, 3, none⟩) (by dsimp only; omega) (.int .i64 x.passed)
      replace hT := hT.set_ 3 (.int .i64 x.passed)
      replace hown := own_set hown (p := ⟨w.heap.size + 1 + 1, 3, none⟩) (by dsimp only; omega) (.int .i64 x.passed)
      replace hL := lo_set hL (p := ⟨w.heap.size + 1 + 1, 3, none⟩) (by dsimp only; omega) (.int .i64 x.passed)
      replace hT : Blk ((((wz0.setCell ⟨w.heap.size + 1 + 1, 0, none⟩ (.int .i64 x.id)).setCell ⟨w.heap.size + 1 + 1, 1, none⟩ (.int .i64 x.rank)).setCell ⟨w.heap.size + 1 + 1, 2, none⟩ (.int .i64 (x.left - q))).setCell ⟨w.heap.size + 1 + 1, 3, none⟩ (.int .i64 x.passed)) (w.heap.size + 1 + 1) 68 #[.int .i64 x.id, .int .i64 x.rank, .int .i64 (x.left - q), .int .i64 x.passed] := by simpa using hT
      replace h2 : base ≤ ((((wz0.setCell ⟨w.heap.size + 1 + 1, 0, none⟩ (.int .i64 x.id)).setCell ⟨w.heap.size + 1 + 1, 1, none⟩ (.int .i64 x.rank)).setCell ⟨w.heap.size + 1 + 1, 2, none⟩ (.int .i64 (x.left - q))).setCell ⟨w.heap.size + 1 + 1, 3, none⟩ (.int .i64 x.passed)).heap.size := by simpa using h2
      generalize ((((wz0.setCell ⟨w.heap.size + 1 + 1, 0, none⟩ (.int .i64 x.id)).setCell ⟨w.heap.size + 1 + 1, 1, none⟩ (.int .i64 x.rank)).setCell ⟨w.heap.size + 1 + 1, 2, none⟩ (.int .i64 (x.left - q))).setCell ⟨w.heap.size + 1 + 1, 3, none⟩ (.int .i64 x.passed)) = wz1 at hown hL h2 hG hX hR hT ⊢
      refine hK.out _ _ ?_ (fun hHeld4 => ?_)
      focus ((try dsimp only); (have r := hG.facts.1; have q := hX.facts.1; exact ⟨r 0, r 1, hG.lt, q 0, q 1, q 2, q 3, hX.lt⟩))
      clear hK K hHeld
      have hHeld := hHeld4
      clear hHeld4
      (try simp only [Act.put, List.setIfInBounds_toArray, List.set_cons_zero, List.set_cons_succ])
      first
      | (refine wpAnyH_take (i := 5) (oi := _) (v := ?_) (getop rfl) (by kernel_rfl) (by kernel_rfl) (by kernel_rfl) (fun _ _ _ h => h) (Or.inl ⟨by rfl, ?_⟩) (by assumption) ?_; rotate_left; focus (intro w hSw; (try dsimp only at hSw); go_simp; (try with_reducible rfl); done))
      | (refine wpAnyH_take (i := 5) (oi := _) (v := undef) (getop rfl) (by kernel_rfl) (by kernel_rfl) (by kernel_rfl) (fun _ _ _ h => h) (Or.inr ⟨by rfl, rfl⟩) (by assumption) ?_)
      (try simp only [Act.put, List.setIfInBounds_toArray, List.set_cons_zero, List.set_cons_succ])
      refine wpAnyH_done (by kernel_rfl) ?_ _
      obtain ⟨cR, fR⟩ := hR.facts
      obtain ⟨cT, fT⟩ := hT.facts
      go_wp2_with fail
      refine bodyPost_ret (v := .tuple #[.agg #[.int .i64 lim, .slice (some ⟨gr, 0, none⟩) l.length cap2], .agg #[.int .i64 x.id, .int .i64 x.rank, .int .i64 (x.left - q), .int .i64 x.passed], .int .i64 q]) (by simp [results, Try.results17, go_sem, cR, cT] <;> rfl) rfl ?_
      refine ⟨⟨i, HK.out, hkl, base, .slice (some ⟨gr, 0, none⟩) l.length cap2, by omega, ?_, ?_, ?_⟩, ?_⟩
      · simpa using h2
      · rw [HXE.out]
        simp [cutR, HM.out]
      · rw [HSV.out]
        rw [List.length_set, bump_len]
        exact hown
      · exact hL
    · have hmin : min x.left q = x.left := by omega
      have hw : IntKind.i64.wrap (x.left - x.left) = 0 := by rw [Int.sub_self]; rfl
      have HM := Lib.hid hmin
      have HY : Hid (cellsR (cutR x q) = (cellsR ((bumpL l i)[i]'(by simp; omega))).set 2 (.int .i64 0)) := Lib.hid (by rw [HBX.out]; unfold cutR; rw [hmin, Int.sub_self]; rfl)
      have HSV : Hid (serveL l i q = ((bumpL l i).set i (cutR x q)).eraseIdx i) := Lib.hid (by rw [hsv, if_pos]; unfold cutR; rw [hmin]; exact Int.sub_self _)
      have HD : Hid (∀ w0 : World, w0.ownsRow base 68 4 (.slice (some ⟨gr, 0, none⟩) l.length cap2) l.length (((bumpL l i).set i (cutR x q)).flatMap cellsR) → Calls Try.prog 32 #[.slice (some ⟨gr, 0, none⟩) l.length cap2, .int .i64 i, .int .i64 (i + 1)] w0 fun e w' => e = .returned (.slice (some ⟨gr, 0, none⟩) (l.length - 1) cap2) ∧ w'.ownsRow base 68 4 (.slice (some ⟨gr, 0, none⟩) (l.length - 1) cap2) (l.length - 1) ((((bumpL l i).set i (cutR x q)).eraseIdx i).flatMap cellsR) ∧ w0.grownBy w' (some gr)) := Lib.hid fun w0 h0 => by
        obtain ⟨q', hq'⟩ : ∃ q', l.length = q' + 1 := ⟨l.length - 1, by omega⟩
        have hll : ((bumpL l i).set i (cutR x q)).length = q' + 1 := by simp [hq']
        rw [hq'] at h0 ⊢
        exact del_ok base gr cap2 q' _ hll i (by omega) w0 h0 (by omega)
      clear hsv hmin
      go_upto_region 11 with fail
      clear k0 k1 k2 k3 fk cG fG
      replace hown := (hown.stored (i * 4 + 2) (.int .i64 0)).1
      rw [flat_set (bumpL l i) i 2 (by simp; omega) (by omega) (cutR x q) _ HY.out] at hown
      replace hG := hG.far (p := ⟨gr, i * 4 + 2, none⟩) (by dsimp only; exact HGR.out.1) (.int .i64 0)
      replace hR := hR.far (p := ⟨gr, i * 4 + 2, none⟩) (by dsimp only; omega) (.int .i64 0)
      replace hT := hT.far (p := ⟨gr, i * 4 + 2, none⟩) (by dsimp only; omega) (.int .i64 0)
      replace hL := lo_set hL (p := ⟨gr, i * 4 + 2, none⟩) (by dsimp only; omega) (.int .i64 0)
      replace h2 : base ≤ (wr.setCell ⟨gr, i * 4 + 2, none⟩ (.int .i64 0)).heap.size := by simpa using h2
      replace hgl : gr < (wr.setCell ⟨gr, i * 4 + 2, none⟩ (.int .i64 0)).heap.size := by simpa using hgl
      generalize wr.setCell ⟨gr, i * 4 + 2, none⟩ (.int .i64 0) = w5 at hown hG hR hT hL h2 hgl ⊢
      have hcut : cutR x q = ⟨x.id, x.rank, 0, x.passed⟩ := by unfold cutR; rw [HM.out]; rw [Int.sub_self]
      obtain ⟨cG5, fG5⟩ := hG.facts
      have j0 : w5.cell? ⟨gr, i * 4, none⟩ = some (.int .i64 x.id) := (hown.cellAt (i * 4) (by omega)).trans ((flatMap_get cellsR_len _ i 0 (cutR x q) HL2.out (by omega)).trans (by rw [hcut]; rfl))
      have j1 : w5.cell? ⟨gr, i * 4 + 1, none⟩ = some (.int .i64 x.rank) := (hown.cellAt (i * 4 + 1) (by omega)).trans ((flatMap_get cellsR_len _ i 1 (cutR x q) HL2.out (by omega)).trans (by rw [hcut]; rfl))
      have j2 : w5.cell? ⟨gr, i * 4 + 2, none⟩ = some (.int .i64 0) := (hown.cellAt (i * 4 + 2) (by omega)).trans ((flatMap_get cellsR_len _ i 2 (cutR x q) HL2.out (by omega)).trans (by rw [hcut]; rfl))
      have j3 : w5.cell? ⟨gr, i * 4 + 3, none⟩ = some (.int .i64 x.passed) := (hown.cellAt (i * 4 + 3) (by omega)).trans ((flatMap_get cellsR_len _ i 3 (cutR x q) HL2.out (by omega)).trans (by rw [hcut]; rfl))
      clear hcut
      have hX := Blk.new w5 68 #[.int .i64 x.id, .int .i64 x.rank, .int .i64 0, .int .i64 x.passed]
      have HGL : Hid (gG < w5.heap.size) := Lib.hid hG.lt
      replace hG := hG.alloc (.cells #[.int .i64 x.id, .int .i64 x.rank, .int .i64 0, .int .i64 x.passed] 68)
      replace hR := hR.alloc (.cells #[.int .i64 x.id, .int .i64 x.rank, .int .i64 0, .int .i64 x.passed] 68)
      replace hT := hT.alloc (.cells #[.int .i64 x.id, .int .i64 x.rank, .int .i64 0, .int .i64 x.passed] 68)
      replace hown := hown.alloc (.cells #[.int .i64 x.id, .int .i64 x.rank, .int .i64 0, .int .i64 x.passed] 68)
      replace hL := lo_alloc hL (.cells #[.int .i64 x.id, .int .i64 x.rank, .int .i64 0, .int .i64 x.passed] 68)
      replace h2 : base ≤ (w5.alloc (.cells #[.int .i64 x.id, .int .i64 x.rank, .int .i64 0, .int .i64 x.passed] 68)).heap.size := by simp; omega
      obtain ⟨cX, fX⟩ := hX.facts
      have hw1 : IntKind.i64.wrap ((i : Int) + 1) = (i : Int) + 1 := IntWalk.i64_in _ (by omega)
      have hgx : gr < w5.heap.size := hgl
      obtain ⟨cG, fG⟩ := hG.facts
      go_wp2_with fail
      refine (HD.out _ hown).mono ?_
      rintro e w6 ⟨rfl, hown, hgr⟩
      clear cX fX j0 j1 j2 j3 cG5 fG5 cG fG
      replace hG := hG.grown hgr HGR.out.2
      replace hR := hR.grown hgr (by intro e; injection e with e; omega)
      replace hT := hT.grown hgr (by intro e; injection e with e; omega)
      replace hX := hX.grown hgr (by intro e; injection e with e; omega)
      replace hL := hL.grown hgr hL.size (fun k hk => by injection hk with hk; omega)
      replace h2 : base ≤ w6.heap.size := Nat.le_trans h2 hgr.size
      clear hgr
      obtain ⟨cG, fG⟩ := hG.facts
      have lG := hG.lt
      go_upto_region 14 with fail
      clear cG fG
      replace hX := hX.far (p := ⟨gG, 1, none⟩) (by have := HGL.out; dsimp only; omega) (.slice (some ⟨gr, 0, none⟩) (l.length - 1) cap2)
      replace hR := hR.far (p := ⟨gG, 1, none⟩) (by dsimp only; omega) (.slice (some ⟨gr, 0, none⟩) (l.length - 1) cap2)
      replace hT := hT.far (p := ⟨gG, 1, none⟩) (by dsimp only; omega) (.slice (some ⟨gr, 0, none⟩) (l.length - 1) cap2)
      replace hG := hG.set_ 1 (.slice (some ⟨gr, 0, none⟩) (l.length - 1) cap2)
      replace hown := own_far hown (p := ⟨gG, 1, none⟩) HGR.out.2 (.slice (some ⟨gr, 0, none⟩) (l.length - 1) cap2)
      replace hL := lo_set hL (p := ⟨gG, 1, none⟩) (by dsimp only; omega) (.slice (some ⟨gr, 0, none⟩) (l.length - 1) cap2)
      replace hG : Blk (w6.setCell ⟨gG, 1, none⟩ (.slice (some ⟨gr, 0, none⟩) (l.length - 1) cap2)) gG 58 #[.int .i64 lim, .slice (some ⟨gr, 0, none⟩) (l.length - 1) cap2] := by simpa using hG
      replace h2 : base ≤ (w6.setCell ⟨gG, 1, none⟩ (.slice (some ⟨gr, 0, none⟩) (l.length - 1) cap2)).heap.size := by simpa using h2
      generalize w6.setCell ⟨gG, 1, none⟩ (.slice (some ⟨gr, 0, none⟩) (l.length - 1) cap2) = ws at hown hG hR hT hX hL h2 ⊢
      have zX : w.heap.size + 1 + 1 < w5.heap.size := by omega
      generalize w5.heap.size = gX at hX zX ⊢
      refine wp_region_held_drew (S := (fun W => W.cell? ⟨gG, 0, none⟩ = some (.int .i64 lim) ∧ W.cell? ⟨gG, 1, none⟩ = some (.slice (some ⟨gr, 0, none⟩) (l.length - 1) cap2) ∧ gG < W.heap.size ∧ W.cell? ⟨gX, 0, none⟩ = some (.int .i64 x.id) ∧ W.cell? ⟨gX, 1, none⟩ = some (.int .i64 x.rank) ∧ W.cell? ⟨gX, 2, none⟩ = some (.int .i64 0) ∧ W.cell? ⟨gX, 3, none⟩ = some (.int .i64 x.passed) ∧ gX < W.heap.size)) (by kernel_rfl) ?_ (fun hHeld => ?_)
      focus ((try dsimp only); (have r := hG.facts.1; have q := hX.facts.1; exact ⟨r 0, r 1, hG.lt, q 0, q 1, q 2, q 3, hX.lt⟩))
      replace hown : ws.drew.ownsRow _ _ _ _ _ _ := hown
      replace hG : Blk ws.drew _ _ _ := hG
      replace hX : Blk ws.drew _ _ _ := hX
      replace hR : Blk ws.drew _ _ _ := hR
      replace hT : Blk ws.drew _ _ _ := hT
      replace hL := lo_drew hL
      replace h2 : base ≤ ws.drew.heap.size := h2
      generalize ws.drew = wd at hown hG hX hR hT hL h2 hHeld ⊢
      first
      | (refine wpAnyH_take (i := 0) (oi := _) (v := ?_) (getop rfl) (by kernel_rfl) (by kernel_rfl) (by kernel_rfl) (fun _ _ _ h => h) (Or.inl ⟨by rfl, ?_⟩) (by assumption) ?_; rotate_left; focus (intro w hSw; (try dsimp only at hSw); go_simp; (try with_reducible rfl); done))
      | (refine wpAnyH_take (i := 0) (oi := _) (v := undef) (getop rfl) (by kernel_rfl) (by kernel_rfl) (by kernel_rfl) (fun _ _ _ h => h) (Or.inr ⟨by rfl, rfl⟩) (by assumption) ?_)
      (try simp only [Act.put, List.setIfInBounds_toArray, List.set_cons_zero, List.set_cons_succ])
      first
      | (refine wpAnyH_take (i := 1) (oi := _) (v := ?_) (getop rfl) (by kernel_rfl) (by kernel_rfl) (by kernel_rfl) (fun _ _ _ h => h) (Or.inl ⟨by rfl, ?_⟩) (by assumption) ?_; rotate_left; focus (intro w hSw; (try dsimp only at hSw); go_simp; (try with_reducible rfl); done))
      | (refine wpAnyH_take (i := 1) (oi := _) (v := undef) (getop rfl) (by kernel_rfl) (by kernel_rfl) (by kernel_rfl) (fun _ _ _ h => h) (Or.inr ⟨by rfl, rfl⟩) (by assumption) ?_)
      (try simp only [Act.put, List.setIfInBounds_toArray, List.set_cons_zero, List.set_cons_succ])
      first
      | (refine wpAnyH_take (i := 2) (oi := _) (v := ?_) (getop rfl) (by kernel_rfl) (by kernel_rfl) (by kernel_rfl) (fun _ _ _ h => h) (Or.inl ⟨by rfl, ?_⟩) (by assumption) ?_; rotate_left; focus (intro w hSw; (try dsimp only at hSw); go_simp; (try with_reducible rfl); done))
      | (refine wpAnyH_take (i := 2) (oi := _) (v := undef) (getop rfl) (by kernel_rfl) (by kernel_rfl) (by kernel_rfl) (fun _ _ _ h => h) (Or.inr ⟨by rfl, rfl⟩) (by assumption) ?_)
      (try simp only [Act.put, List.setIfInBounds_toArray, List.set_cons_zero, List.set_cons_succ])
      refine wpAnyH_ready (rs := [3]) (by kernel_rfl) (by simp) ?_
      refine (AllReadyH.cons (o := _) (getop rfl) (fun K hK => ?_) AllReadyH.nil)
      obtain ⟨cT, fT⟩ := hR.facts
      have lT := hR.lt
      go_simp
      clear cT fT lT
      replace hG := hG.far (p := ⟨w.heap.size + 1, 0, none⟩) (by dsimp only; omega) (.int .i64 lim)
      replace hX := hX.far (p := ⟨w.heap.size + 1, 0, none⟩) (by dsimp only; omega) (.int .i64 lim)
      replace hT := hT.far (p := ⟨w.heap.size + 1, 0, none⟩) (by dsimp only; omega) (.int .i64 lim)
      replace hR := hR.set_ 0 (.int .i64 lim)
      replace hown := own_set hown (p := ⟨w.heap.size + 1, 0, none⟩) (by dsimp only; omega) (.int .i64 lim)
      replace hL := lo_set hL (p := ⟨w.heap.size + 1, 0, none⟩) (by dsimp only; omega) (.int .i64 lim)
      replace hG := hG.far (p := ⟨w.heap.size + 1, 1, none⟩) (by dsimp only; omega) (.slice (some ⟨gr, 0, none⟩) (l.length - 1) cap2)
      replace hX := hX.far (p := ⟨w.heap.size + 1, 1, none⟩) (by dsimp only; omega) (.slice (some ⟨gr, 0, none⟩) (l.length - 1) cap2)
      replace hT := hT.far (p := ⟨w.heap.size + 1, 1, none⟩) (by dsimp only; omega) (.slice (some ⟨gr, 0, none⟩) (l.length - 1) cap2)
      replace hR := hR.set_ 1 (.slice (some ⟨gr, 0, none⟩) (l.length - 1) cap2)
      replace hown := own_set hown (p := ⟨w.heap.size + 1, 1, none⟩) (by dsimp only; omega) (.slice (some ⟨gr, 0, none⟩) (l.length - 1) cap2)
      replace hL := lo_set hL (p := ⟨w.heap.size + 1, 1, none⟩) (by dsimp only; omega) (.slice (some ⟨gr, 0, none⟩) (l.length - 1) cap2)
      replace hR : Blk ((wd.setCell ⟨w.heap.size + 1, 0, none⟩ (.int .i64 lim)).setCell ⟨w.heap.size + 1, 1, none⟩ (.slice (some ⟨gr, 0, none⟩) (l.length - 1) cap2)) (w.heap.size + 1) 58 #[.int .i64 lim, .slice (some ⟨gr, 0, none⟩) (l.length - 1) cap2] := by simpa using hR
      replace h2 : base ≤ ((wd.setCell ⟨w.heap.size + 1, 0, none⟩ (.int .i64 lim)).setCell ⟨w.heap.size + 1, 1, none⟩ (.slice (some ⟨gr, 0, none⟩) (l.length - 1) cap2)).heap.size := by simpa using h2
      generalize ((wd.setCell ⟨w.heap.size + 1, 0, none⟩ (.int .i64 lim)).setCell ⟨w.heap.size + 1, 1, none⟩ (.slice (some ⟨gr, 0, none⟩) (l.length - 1) cap2)) = wz0 at hown hL h2 hG hX hT hR ⊢
      refine hK.out _ _ ?_ (fun hHeld3 => ?_)
      focus ((try dsimp only); (have r := hG.facts.1; have q := hX.facts.1; exact ⟨r 0, r 1, hG.lt, q 0, q 1, q 2, q 3, hX.lt⟩))
      clear hK K hHeld
      have hHeld := hHeld3
      clear hHeld3
      (try simp only [Act.put, List.setIfInBounds_toArray, List.set_cons_zero, List.set_cons_succ])
      refine wpAnyH_ready (rs := [4]) (by kernel_rfl) (by simp) ?_
      refine (AllReadyH.cons (o := _) (getop rfl) (fun K hK => ?_) AllReadyH.nil)
      obtain ⟨cT, fT⟩ := hT.facts
      have lT := hT.lt
      go_simp
      clear cT fT lT
      replace hG := hG.far (p := ⟨w.heap.size + 1 + 1, 0, none⟩) (by dsimp only; omega) (.int .i64 x.id)
      replace hX := hX.far (p := ⟨w.heap.size + 1 + 1, 0, none⟩) (by dsimp only; omega) (.int .i64 x.id)
      replace hR := hR.far (p := ⟨w.heap.size + 1 + 1, 0, none⟩) (by dsimp only; omega) (.int .i64 x.id)
      replace hT := hT.set_ 0 (.int .i64 x.id)
      replace hown := own_set hown (p := ⟨w.heap.size + 1 + 1, 0, none⟩) (by dsimp only; omega) (.int .i64 x.id)
      replace hL := lo_set hL (p := ⟨w.heap.size + 1 + 1, 0, none⟩) (by dsimp only; omega) (.int .i64 x.id)
      replace hG := hG.far (p := ⟨w.heap.size + 1 + 1, 1, none⟩) (by dsimp only; omega) (.int .i64 x.rank)
      replace hX := hX.far (p := ⟨w.heap.size + 1 + 1, 1, none⟩) (by dsimp only; omega) (.int .i64 x.rank)
      replace hR := hR.far (p := ⟨w.heap.size + 1 + 1, 1, none⟩) (by dsimp only; omega) (.int .i64 x.rank)
      replace hT := hT.set_ 1 (.int .i64 x.rank)
      replace hown := own_set hown (p := ⟨w.heap.size + 1 + 1, 1, none⟩) (by dsimp only; omega) (.int .i64 x.rank)
      replace hL := lo_set hL (p := ⟨w.heap.size + 1 + 1, 1, none⟩) (by dsimp only; omega) (.int .i64 x.rank)
      replace hG := hG.far (p := ⟨w.heap.size + 1 + 1, 2, none⟩) (by dsimp only; omega) (.int .i64 0)
      replace hX := hX.far (p := ⟨w.heap.size + 1 + 1, 2, none⟩) (by dsimp only; omega) (.int .i64 0)
      replace hR := hR.far (p := ⟨w.heap.size + 1 + 1, 2, none⟩) (by dsimp only; omega) (.int .i64 0)
      replace hT := hT.set_ 2 (.int .i64 0)
      replace hown := own_set hown (p := ⟨w.heap.size + 1 + 1, 2, none⟩) (by dsimp only; omega) (.int .i64 0)
      replace hL := lo_set hL (p := ⟨w.heap.size + 1 + 1, 2, none⟩) (by dsimp only; omega) (.int .i64 0)
      replace hG := hG.far (p := ⟨w.heap.size + 1 + 1, 3, none⟩) (by dsimp only; omega) (.int .i64 x.passed)
      replace hX := hX.far (p := ⟨w.heap.size + 1 + 1, 3, none⟩) (by dsimp only; omega) (.int .i64 x.passed)
      replace hR := hR.far (p := ⟨w.heap.size + 1 + 1, 3, none⟩) (by dsimp only; omega) (.int .i64 x.passed)
      replace hT := hT.set_ 3 (.int .i64 x.passed)
      replace hown := own_set hown (p := ⟨w.heap.size + 1 + 1, 3, none⟩) (by dsimp only; omega) (.int .i64 x.passed)
      replace hL := lo_set hL (p := ⟨w.heap.size + 1 + 1, 3, none⟩) (by dsimp only; omega) (.int .i64 x.passed)
      replace hT : Blk ((((wz0.setCell ⟨w.heap.size + 1 + 1, 0, none⟩ (.int .i64 x.id)).setCell ⟨w.heap.size + 1 + 1, 1, none⟩ (.int .i64 x.rank)).setCell ⟨w.heap.size + 1 + 1, 2, none⟩ (.int .i64 0)).setCell ⟨w.heap.size + 1 + 1, 3, none⟩ (.int .i64 x.passed)) (w.heap.size + 1 + 1) 68 #[.int .i64 x.id, .int .i64 x.rank, .int .i64 0, .int .i64 x.passed] := by simpa using hT
      replace h2 : base ≤ ((((wz0.setCell ⟨w.heap.size + 1 + 1, 0, none⟩ (.int .i64 x.id)).setCell ⟨w.heap.size + 1 + 1, 1, none⟩ (.int .i64 x.rank)).setCell ⟨w.heap.size + 1 + 1, 2, none⟩ (.int .i64 0)).setCell ⟨w.heap.size + 1 + 1, 3, none⟩ (.int .i64 x.passed)).heap.size := by simpa using h2
      generalize ((((wz0.setCell ⟨w.heap.size + 1 + 1, 0, none⟩ (.int .i64 x.id)).setCell ⟨w.heap.size + 1 + 1, 1, none⟩ (.int .i64 x.rank)).setCell ⟨w.heap.size + 1 + 1, 2, none⟩ (.int .i64 0)).setCell ⟨w.heap.size + 1 + 1, 3, none⟩ (.int .i64 x.passed)) = wz1 at hown hL h2 hG hX hR hT ⊢
      refine hK.out _ _ ?_ (fun hHeld4 => ?_)
      focus ((try dsimp only); (have r := hG.facts.1; have q := hX.facts.1; exact ⟨r 0, r 1, hG.lt, q 0, q 1, q 2, q 3, hX.lt⟩))
      clear hK K hHeld
      have hHeld := hHeld4
      clear hHeld4
      (try simp only [Act.put, List.setIfInBounds_toArray, List.set_cons_zero, List.set_cons_succ])
      first
      | (refine wpAnyH_take (i := 5) (oi := _) (v := ?_) (getop rfl) (by kernel_rfl) (by kernel_rfl) (by kernel_rfl) (fun _ _ _ h => h) (Or.inl ⟨by rfl, ?_⟩) (by assumption) ?_; rotate_left; focus (intro w hSw; (try dsimp only at hSw); go_simp; (try with_reducible rfl); done))
      | (refine wpAnyH_take (i := 5) (oi := _) (v := undef) (getop rfl) (by kernel_rfl) (by kernel_rfl) (by kernel_rfl) (fun _ _ _ h => h) (Or.inr ⟨by rfl, rfl⟩) (by assumption) ?_)
      (try simp only [Act.put, List.setIfInBounds_toArray, List.set_cons_zero, List.set_cons_succ])
      refine wpAnyH_done (by kernel_rfl) ?_ _
      obtain ⟨cR, fR⟩ := hR.facts
      obtain ⟨cT, fT⟩ := hT.facts
      go_wp2_with fail
      refine bodyPost_ret (v := .tuple #[.agg #[.int .i64 lim, .slice (some ⟨gr, 0, none⟩) (l.length - 1) cap2], .agg #[.int .i64 x.id, .int .i64 x.rank, .int .i64 0, .int .i64 x.passed], .int .i64 x.left]) (by simp [results, Try.results17, go_sem, cR, cT] <;> rfl) rfl ?_
      refine ⟨⟨i, HK.out, hkl, base, .slice (some ⟨gr, 0, none⟩) (l.length - 1) cap2, by omega, ?_, ?_, ?_⟩, ?_⟩
      · simpa using h2
      · rw [HXE.out]
        simp [cutR, HM.out]
      · rw [HSV.out]
        have hlen : (((bumpL l i).set i (cutR x q)).eraseIdx i).length = l.length - 1 := by rw [List.length_eraseIdx_of_lt (by simp; omega)]; simp
        rw [hlen]
        exact hown
      · exact hL
end Go.Proofs.Ytfpagiojdgdbeaa
