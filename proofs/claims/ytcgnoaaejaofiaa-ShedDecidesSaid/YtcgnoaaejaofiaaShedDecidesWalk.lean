import Derived.Test.YtcgnoaaejaofiaaRefDec
import Derived.Test.YtcgnoaaejaofiaaLib9
namespace Go.Proofs.Ytcgnoaaejaofiaa
open Go.RowKit
attribute [local go_sem ↓] Go.wp_at_zero Go.wp_at_succ

theorem code_in (n : Int) : 0 ≤ codeB n ∧ codeB n ≤ 7 := by
  unfold codeB
  split
  · decide
  · split <;> decide
set_option maxRecDepth 100000 in
set_option maxHeartbeats 6400000 in
theorem decides_walk (x : Lk) (b : Bk) (n : Int) (hcap : x.cap ≤ 9223372036854775807) (w : World) :
    Calls Try.prog 3 #[.agg #[.int .i64 x.opn, .int .i64 x.told, .int .i64 x.agreed, .bool x.away, .int .i64 x.cost, .int .i64 x.backlog, .int .i64 x.cap, .int .i64 x.tick, .int .i64 x.second], .agg #[.int .i64 b.burst, .int .i64 b.rate, .int .i64 b.per, .int .i64 b.level, .int .i64 b.now], .int .i64 n] w (BoolPost w true) := by
  have HA := Lib.hid (decide_any x b hcap)
  have HB := Lib.hid (decide_ref x b hcap)
  generalize decB x b = r at HA HB
  obtain ⟨f, c, wt⟩ := r
  have HF := Lib.hid (fits_any x hcap)
  have HF2 := Lib.hid (fits_ref x hcap)
  generalize x.fits = ft at HF HF2
  have HS := Lib.hid (status_any n)
  have HS2 := Lib.hid (status_ref n)
  generalize statusB n = sn at HS HS2
  have hcn := code_in n
  have HC1 := Lib.hid (code_any n)
  have HC2 := Lib.hid (code_ref n)
  generalize codeB n = cn at HC1 HC2 hcn
  have hw : IntKind.i64.wrap cn = cn := IntWalk.i64_in _ (by omega)
  have hX := (Blk.new w 23 #[.int .i64 x.opn, .int .i64 x.told, .int .i64 x.agreed, .bool x.away, .int .i64 x.cost, .int .i64 x.backlog, .int .i64 x.cap, .int .i64 x.tick, .int .i64 x.second]).alloc (.cells #[.int .i64 b.burst, .int .i64 b.rate, .int .i64 b.per, .int .i64 b.level, .int .i64 b.now] 25)
  have hB := Blk.new (w.alloc (.cells #[.int .i64 x.opn, .int .i64 x.told, .int .i64 x.agreed, .bool x.away, .int .i64 x.cost, .int .i64 x.backlog, .int .i64 x.cap, .int .i64 x.tick, .int .i64 x.second] 23)) 25 #[.int .i64 b.burst, .int .i64 b.rate, .int .i64 b.per, .int .i64 b.level, .int .i64 b.now]
  simp only [World.size_alloc] at hB
  have hL := lo_alloc (lo_alloc (lo_refl w) (.cells #[.int .i64 x.opn, .int .i64 x.told, .int .i64 x.agreed, .bool x.away, .int .i64 x.cost, .int .i64 x.backlog, .int .i64 x.cap, .int .i64 x.tick, .int .i64 x.second] 23)) (.cells #[.int .i64 b.burst, .int .i64 b.rate, .int .i64 b.per, .int .i64 b.level, .int .i64 b.now] 25)
  go_enter Try.func3, Try.ntmps3
  go_wp2_with fail
  refine (HA.out _).mono ?_
  rintro e w1 ⟨rfl, hb⟩
  have hX := (hX.lo hb).alloc (.cells #[.int .i64 c.burst, .int .i64 c.rate, .int .i64 c.per, .int .i64 c.level, .int .i64 c.now] 26)
  have hB := (hB.lo hb).alloc (.cells #[.int .i64 c.burst, .int .i64 c.rate, .int .i64 c.per, .int .i64 c.level, .int .i64 c.now] 26)
  have hC := Blk.new w1 26 #[.int .i64 c.burst, .int .i64 c.rate, .int .i64 c.per, .int .i64 c.level, .int .i64 c.now]
  have hL := lo_alloc (lo_trans hL hb) (.cells #[.int .i64 c.burst, .int .i64 c.rate, .int .i64 c.per, .int .i64 c.level, .int .i64 c.now] 26)
  clear hb
  go_upto_region 2 with fail
  generalize w1.heap.size = gc at hC ⊢
  generalize w1.alloc (.cells #[.int .i64 c.burst, .int .i64 c.rate, .int .i64 c.per, .int .i64 c.level, .int .i64 c.now] 26) = w2 at hX hB hC hL ⊢
  obtain ⟨cX, fX⟩ := hX.facts
  obtain ⟨cB, fB⟩ := hB.facts
  go_wp2_with fail
  refine (HB.out _).mono ?_
  rintro e w3 ⟨rfl, hb⟩
  have hX := (hX.lo hb).alloc (.cells #[.int .i64 c.burst, .int .i64 c.rate, .int .i64 c.per, .int .i64 c.level, .int .i64 c.now] 25)
  have hC := (hC.lo hb).alloc (.cells #[.int .i64 c.burst, .int .i64 c.rate, .int .i64 c.per, .int .i64 c.level, .int .i64 c.now] 25)
  have hD := Blk.new w3 25 #[.int .i64 c.burst, .int .i64 c.rate, .int .i64 c.per, .int .i64 c.level, .int .i64 c.now]
  have hL := lo_alloc (lo_trans hL hb) (.cells #[.int .i64 c.burst, .int .i64 c.rate, .int .i64 c.per, .int .i64 c.level, .int .i64 c.now] 25)
  clear hb cX fX cB fB
  go_upto_region 3 with fail
  generalize w3.heap.size = gd at hD ⊢
  generalize w3.alloc (.cells #[.int .i64 c.burst, .int .i64 c.rate, .int .i64 c.per, .int .i64 c.level, .int .i64 c.now] 25) = w5 at hX hC hD hL ⊢
  obtain ⟨gx, hgx⟩ : ∃ g, g = w.heap.size := ⟨_, rfl⟩
  rw [← hgx] at hX ⊢
  clear hgx
  refine wp_region_held_drew (S := (fun W => W.cell? ⟨gx, 0, none⟩ = some (.int .i64 x.opn) ∧ W.cell? ⟨gx, 1, none⟩ = some (.int .i64 x.told) ∧ W.cell? ⟨gx, 2, none⟩ = some (.int .i64 x.agreed) ∧ W.cell? ⟨gx, 3, none⟩ = some (.bool x.away) ∧ W.cell? ⟨gx, 4, none⟩ = some (.int .i64 x.cost) ∧ W.cell? ⟨gx, 5, none⟩ = some (.int .i64 x.backlog) ∧ W.cell? ⟨gx, 6, none⟩ = some (.int .i64 x.cap) ∧ W.cell? ⟨gx, 7, none⟩ = some (.int .i64 x.tick) ∧ W.cell? ⟨gx, 8, none⟩ = some (.int .i64 x.second) ∧ W.cell? ⟨gc, 0, none⟩ = some (.int .i64 c.burst) ∧ W.cell? ⟨gc, 1, none⟩ = some (.int .i64 c.rate) ∧ W.cell? ⟨gc, 2, none⟩ = some (.int .i64 c.per) ∧ W.cell? ⟨gc, 3, none⟩ = some (.int .i64 c.level) ∧ W.cell? ⟨gc, 4, none⟩ = some (.int .i64 c.now) ∧ W.cell? ⟨gd, 0, none⟩ = some (.int .i64 c.burst) ∧ W.cell? ⟨gd, 1, none⟩ = some (.int .i64 c.rate) ∧ W.cell? ⟨gd, 2, none⟩ = some (.int .i64 c.per) ∧ W.cell? ⟨gd, 3, none⟩ = some (.int .i64 c.level) ∧ W.cell? ⟨gd, 4, none⟩ = some (.int .i64 c.now) ∧ gx < W.heap.size ∧ gc < W.heap.size ∧ gd < W.heap.size)) (by kernel_rfl) ?_ (fun hHeld => ?_)
  focus ((try dsimp only); (have q := hX.facts.1; have r := hC.facts.1; have s := hD.facts.1; exact ⟨q 0, q 1, q 2, q 3, q 4, q 5, q 6, q 7, q 8, r 0, r 1, r 2, r 3, r 4, s 0, s 1, s 2, s 3, s 4, hX.lt, hC.lt, hD.lt⟩))
  have hX : Blk w5.drew _ _ _ := hX
  have hC : Blk w5.drew _ _ _ := hC
  have hD : Blk w5.drew _ _ _ := hD
  have hL := lo_drew hL
  generalize w5.drew = wd at *
  first
  | (refine wpAnyH_take (i := 0) (oi := _) (v := ?_) (getop rfl) (by kernel_rfl) (by kernel_rfl) (by kernel_rfl) (fun _ _ _ h => h) (Or.inl ⟨by rfl, ?_⟩) (by assumption) ?_; rotate_left; focus (intro w hSw; (try dsimp only at hSw); go_simp; (try with_reducible rfl); done))
  | (refine wpAnyH_take (i := 0) (oi := _) (v := undef) (getop rfl) (by kernel_rfl) (by kernel_rfl) (by kernel_rfl) (fun _ _ _ h => h) (Or.inr ⟨by rfl, rfl⟩) (by assumption) ?_)
  (try simp only [Act.put, List.setIfInBounds_toArray, List.set_cons_zero, List.set_cons_succ])
  first
  | (refine wpAnyH_take (i := 1) (oi := _) (v := ?_) (getop rfl) (by kernel_rfl) (by kernel_rfl) (by kernel_rfl) (fun _ _ _ h => h) (Or.inl ⟨by rfl, ?_⟩) (by assumption) ?_; rotate_left; focus (intro w hSw; (try dsimp only at hSw); go_simp; (try with_reducible rfl); done))
  | (refine wpAnyH_take (i := 1) (oi := _) (v := undef) (getop rfl) (by kernel_rfl) (by kernel_rfl) (by kernel_rfl) (fun _ _ _ h => h) (Or.inr ⟨by rfl, rfl⟩) (by assumption) ?_)
  (try simp only [Act.put, List.setIfInBounds_toArray, List.set_cons_zero, List.set_cons_succ])
  first
  | (refine wpAnyH_take (i := 2) (oi := _) (v := ?_) (getop rfl) (by kernel_rfl) (by kernel_rfl) (by kernel_rfl) (fun _ _ _ h => h) (Or.inl ⟨by rfl, ?_⟩) (by assumption) ?_; rotate_left; focus (intro w hSw; (try dsimp only at hSw); go_simp; (try with_reducible rfl); done))
  | (refine wpAnyH_take (i := 2) (oi := _) (v := undef) (getop rfl) (by kernel_rfl) (by kernel_rfl) (by kernel_rfl) (fun _ _ _ h => h) (Or.inr ⟨by rfl, rfl⟩) (by assumption) ?_)
  (try simp only [Act.put, List.setIfInBounds_toArray, List.set_cons_zero, List.set_cons_succ])
  first
  | (refine wpAnyH_take (i := 3) (oi := _) (v := ?_) (getop rfl) (by kernel_rfl) (by kernel_rfl) (by kernel_rfl) (fun _ _ _ h => h) (Or.inl ⟨by rfl, ?_⟩) (by assumption) ?_; rotate_left; focus (intro w hSw; (try dsimp only at hSw); go_simp; (try with_reducible rfl); done))
  | (refine wpAnyH_take (i := 3) (oi := _) (v := undef) (getop rfl) (by kernel_rfl) (by kernel_rfl) (by kernel_rfl) (fun _ _ _ h => h) (Or.inr ⟨by rfl, rfl⟩) (by assumption) ?_)
  (try simp only [Act.put, List.setIfInBounds_toArray, List.set_cons_zero, List.set_cons_succ])
  first
  | (refine wpAnyH_take (i := 4) (oi := _) (v := ?_) (getop rfl) (by kernel_rfl) (by kernel_rfl) (by kernel_rfl) (fun _ _ _ h => h) (Or.inl ⟨by rfl, ?_⟩) (by assumption) ?_; rotate_left; focus (intro w hSw; (try dsimp only at hSw); go_simp; (try with_reducible rfl); done))
  | (refine wpAnyH_take (i := 4) (oi := _) (v := undef) (getop rfl) (by kernel_rfl) (by kernel_rfl) (by kernel_rfl) (fun _ _ _ h => h) (Or.inr ⟨by rfl, rfl⟩) (by assumption) ?_)
  (try simp only [Act.put, List.setIfInBounds_toArray, List.set_cons_zero, List.set_cons_succ])
  first
  | (refine wpAnyH_take (i := 5) (oi := _) (v := ?_) (getop rfl) (by kernel_rfl) (by kernel_rfl) (by kernel_rfl) (fun _ _ _ h => h) (Or.inl ⟨by rfl, ?_⟩) (by assumption) ?_; rotate_left; focus (intro w hSw; (try dsimp only at hSw); go_simp; (try with_reducible rfl); done))
  | (refine wpAnyH_take (i := 5) (oi := _) (v := undef) (getop rfl) (by kernel_rfl) (by kernel_rfl) (by kernel_rfl) (fun _ _ _ h => h) (Or.inr ⟨by rfl, rfl⟩) (by assumption) ?_)
  (try simp only [Act.put, List.setIfInBounds_toArray, List.set_cons_zero, List.set_cons_succ])
  first
  | (refine wpAnyH_take (i := 6) (oi := _) (v := ?_) (getop rfl) (by kernel_rfl) (by kernel_rfl) (by kernel_rfl) (fun _ _ _ h => h) (Or.inl ⟨by rfl, ?_⟩) (by assumption) ?_; rotate_left; focus (intro w hSw; (try dsimp only at hSw); go_simp; (try with_reducible rfl); done))
  | (refine wpAnyH_take (i := 6) (oi := _) (v := undef) (getop rfl) (by kernel_rfl) (by kernel_rfl) (by kernel_rfl) (fun _ _ _ h => h) (Or.inr ⟨by rfl, rfl⟩) (by assumption) ?_)
  (try simp only [Act.put, List.setIfInBounds_toArray, List.set_cons_zero, List.set_cons_succ])
  first
  | (refine wpAnyH_take (i := 7) (oi := _) (v := ?_) (getop rfl) (by kernel_rfl) (by kernel_rfl) (by kernel_rfl) (fun _ _ _ h => h) (Or.inl ⟨by rfl, ?_⟩) (by assumption) ?_; rotate_left; focus (intro w hSw; (try dsimp only at hSw); go_simp; (try with_reducible rfl); done))
  | (refine wpAnyH_take (i := 7) (oi := _) (v := undef) (getop rfl) (by kernel_rfl) (by kernel_rfl) (by kernel_rfl) (fun _ _ _ h => h) (Or.inr ⟨by rfl, rfl⟩) (by assumption) ?_)
  (try simp only [Act.put, List.setIfInBounds_toArray, List.set_cons_zero, List.set_cons_succ])
  first
  | (refine wpAnyH_take (i := 8) (oi := _) (v := ?_) (getop rfl) (by kernel_rfl) (by kernel_rfl) (by kernel_rfl) (fun _ _ _ h => h) (Or.inl ⟨by rfl, ?_⟩) (by assumption) ?_; rotate_left; focus (intro w hSw; (try dsimp only at hSw); go_simp; (try with_reducible rfl); done))
  | (refine wpAnyH_take (i := 8) (oi := _) (v := undef) (getop rfl) (by kernel_rfl) (by kernel_rfl) (by kernel_rfl) (fun _ _ _ h => h) (Or.inr ⟨by rfl, rfl⟩) (by assumption) ?_)
  (try simp only [Act.put, List.setIfInBounds_toArray, List.set_cons_zero, List.set_cons_succ])
  first
  | (refine wpAnyH_take (i := 9) (oi := _) (v := ?_) (getop rfl) (by kernel_rfl) (by kernel_rfl) (by kernel_rfl) (fun _ _ _ h => h) (Or.inl ⟨by rfl, ?_⟩) (by assumption) ?_; rotate_left; focus (intro w hSw; (try dsimp only at hSw); go_simp; (try with_reducible rfl); done))
  | (refine wpAnyH_take (i := 9) (oi := _) (v := undef) (getop rfl) (by kernel_rfl) (by kernel_rfl) (by kernel_rfl) (fun _ _ _ h => h) (Or.inr ⟨by rfl, rfl⟩) (by assumption) ?_)
  (try simp only [Act.put, List.setIfInBounds_toArray, List.set_cons_zero, List.set_cons_succ])
  first
  | (refine wpAnyH_take (i := 10) (oi := _) (v := ?_) (getop rfl) (by kernel_rfl) (by kernel_rfl) (by kernel_rfl) (fun _ _ _ h => h) (Or.inl ⟨by rfl, ?_⟩) (by assumption) ?_; rotate_left; focus (intro w hSw; (try dsimp only at hSw); go_simp; (try with_reducible rfl); done))
  | (refine wpAnyH_take (i := 10) (oi := _) (v := undef) (getop rfl) (by kernel_rfl) (by kernel_rfl) (by kernel_rfl) (fun _ _ _ h => h) (Or.inr ⟨by rfl, rfl⟩) (by assumption) ?_)
  (try simp only [Act.put, List.setIfInBounds_toArray, List.set_cons_zero, List.set_cons_succ])
  first
  | (refine wpAnyH_take (i := 11) (oi := _) (v := ?_) (getop rfl) (by kernel_rfl) (by kernel_rfl) (by kernel_rfl) (fun _ _ _ h => h) (Or.inl ⟨by rfl, ?_⟩) (by assumption) ?_; rotate_left; focus (intro w hSw; (try dsimp only at hSw); go_simp; (try with_reducible rfl); done))
  | (refine wpAnyH_take (i := 11) (oi := _) (v := undef) (getop rfl) (by kernel_rfl) (by kernel_rfl) (by kernel_rfl) (fun _ _ _ h => h) (Or.inr ⟨by rfl, rfl⟩) (by assumption) ?_)
  (try simp only [Act.put, List.setIfInBounds_toArray, List.set_cons_zero, List.set_cons_succ])
  first
  | (refine wpAnyH_take (i := 12) (oi := _) (v := ?_) (getop rfl) (by kernel_rfl) (by kernel_rfl) (by kernel_rfl) (fun _ _ _ h => h) (Or.inl ⟨by rfl, ?_⟩) (by assumption) ?_; rotate_left; focus (intro w hSw; (try dsimp only at hSw); go_simp; (try with_reducible rfl); done))
  | (refine wpAnyH_take (i := 12) (oi := _) (v := undef) (getop rfl) (by kernel_rfl) (by kernel_rfl) (by kernel_rfl) (fun _ _ _ h => h) (Or.inr ⟨by rfl, rfl⟩) (by assumption) ?_)
  (try simp only [Act.put, List.setIfInBounds_toArray, List.set_cons_zero, List.set_cons_succ])
  first
  | (refine wpAnyH_take (i := 13) (oi := _) (v := ?_) (getop rfl) (by kernel_rfl) (by kernel_rfl) (by kernel_rfl) (fun _ _ _ h => h) (Or.inl ⟨by rfl, ?_⟩) (by assumption) ?_; rotate_left; focus (intro w hSw; (try dsimp only at hSw); go_simp; (try with_reducible rfl); done))
  | (refine wpAnyH_take (i := 13) (oi := _) (v := undef) (getop rfl) (by kernel_rfl) (by kernel_rfl) (by kernel_rfl) (fun _ _ _ h => h) (Or.inr ⟨by rfl, rfl⟩) (by assumption) ?_)
  (try simp only [Act.put, List.setIfInBounds_toArray, List.set_cons_zero, List.set_cons_succ])
  first
  | (refine wpAnyH_take (i := 14) (oi := _) (v := ?_) (getop rfl) (by kernel_rfl) (by kernel_rfl) (by kernel_rfl) (fun _ _ _ h => h) (Or.inl ⟨by rfl, ?_⟩) (by assumption) ?_; rotate_left; focus (intro w hSw; (try dsimp only at hSw); go_simp; (try with_reducible rfl); done))
  | (refine wpAnyH_take (i := 14) (oi := _) (v := undef) (getop rfl) (by kernel_rfl) (by kernel_rfl) (by kernel_rfl) (fun _ _ _ h => h) (Or.inr ⟨by rfl, rfl⟩) (by assumption) ?_)
  (try simp only [Act.put, List.setIfInBounds_toArray, List.set_cons_zero, List.set_cons_succ])
  first
  | (refine wpAnyH_take (i := 16) (oi := _) (v := ?_) (getop rfl) (by kernel_rfl) (by kernel_rfl) (by kernel_rfl) (fun _ _ _ h => h) (Or.inl ⟨by rfl, ?_⟩) (by assumption) ?_; rotate_left; focus (intro w hSw; (try dsimp only at hSw); go_simp; (try with_reducible rfl); done))
  | (refine wpAnyH_take (i := 16) (oi := _) (v := undef) (getop rfl) (by kernel_rfl) (by kernel_rfl) (by kernel_rfl) (fun _ _ _ h => h) (Or.inr ⟨by rfl, rfl⟩) (by assumption) ?_)
  (try simp only [Act.put, List.setIfInBounds_toArray, List.set_cons_zero, List.set_cons_succ])
  refine wpAnyH_ready (rs := [15]) (by kernel_rfl) (by simp) ?_
  refine AllReadyH.cons (o := _) (getop rfl) (fun K hK => ?_) AllReadyH.nil
  go_simp
  (refine (HF.out _).mono ?_; rintro e wx ⟨rfl, hb⟩; have hX := hX.lo hb; have hC := hC.lo hb; have hD := hD.lo hb; have hL := lo_trans hL hb; clear hb)
  refine hK.out _ _ ?_ (fun hHeld15 => ?_)
  focus ((try dsimp only); (have q := hX.facts.1; have r := hC.facts.1; have s := hD.facts.1; exact ⟨q 0, q 1, q 2, q 3, q 4, q 5, q 6, q 7, q 8, r 0, r 1, r 2, r 3, r 4, s 0, s 1, s 2, s 3, s 4, hX.lt, hC.lt, hD.lt⟩))
  clear hK K hHeld
  have hHeld := hHeld15
  clear hHeld15
  (try simp only [Act.put, List.setIfInBounds_toArray, List.set_cons_zero, List.set_cons_succ])
  refine wpAnyH_ready (rs := [17]) (by kernel_rfl) (by simp) ?_
  refine AllReadyH.cons (o := _) (getop rfl) (fun K hK => ?_) AllReadyH.nil
  go_simp
  (refine (HF2.out _).mono ?_; rintro e wx ⟨rfl, hb⟩; have hX := hX.lo hb; have hC := hC.lo hb; have hD := hD.lo hb; have hL := lo_trans hL hb; clear hb)
  refine hK.out _ _ ?_ (fun hHeld17 => ?_)
  focus ((try dsimp only); (have q := hX.facts.1; have r := hC.facts.1; have s := hD.facts.1; exact ⟨q 0, q 1, q 2, q 3, q 4, q 5, q 6, q 7, q 8, r 0, r 1, r 2, r 3, r 4, s 0, s 1, s 2, s 3, s 4, hX.lt, hC.lt, hD.lt⟩))
  clear hK K hHeld
  have hHeld := hHeld17
  clear hHeld17
  (try simp only [Act.put, List.setIfInBounds_toArray, List.set_cons_zero, List.set_cons_succ])
  first
  | (refine wpAnyH_take (i := 18) (oi := _) (v := ?_) (getop rfl) (by kernel_rfl) (by kernel_rfl) (by kernel_rfl) (fun _ _ _ h => h) (Or.inl ⟨by rfl, ?_⟩) (by assumption) ?_; rotate_left; focus (intro w hSw; (try dsimp only at hSw); go_simp; (try with_reducible rfl); done))
  | (refine wpAnyH_take (i := 18) (oi := _) (v := undef) (getop rfl) (by kernel_rfl) (by kernel_rfl) (by kernel_rfl) (fun _ _ _ h => h) (Or.inr ⟨by rfl, rfl⟩) (by assumption) ?_)
  (try simp only [Act.put, List.setIfInBounds_toArray, List.set_cons_zero, List.set_cons_succ])
  first
  | (refine wpAnyH_take (i := 19) (oi := _) (v := ?_) (getop rfl) (by kernel_rfl) (by kernel_rfl) (by kernel_rfl) (fun _ _ _ h => h) (Or.inl ⟨by rfl, ?_⟩) (by assumption) ?_; rotate_left; focus (intro w hSw; (try dsimp only at hSw); go_simp; (try with_reducible rfl); done))
  | (refine wpAnyH_take (i := 19) (oi := _) (v := undef) (getop rfl) (by kernel_rfl) (by kernel_rfl) (by kernel_rfl) (fun _ _ _ h => h) (Or.inr ⟨by rfl, rfl⟩) (by assumption) ?_)
  (try simp only [Act.put, List.setIfInBounds_toArray, List.set_cons_zero, List.set_cons_succ])
  first
  | (refine wpAnyH_take (i := 20) (oi := _) (v := ?_) (getop rfl) (by kernel_rfl) (by kernel_rfl) (by kernel_rfl) (fun _ _ _ h => h) (Or.inl ⟨by rfl, ?_⟩) (by assumption) ?_; rotate_left; focus (intro w hSw; (try dsimp only at hSw); go_simp; (try with_reducible rfl); done))
  | (refine wpAnyH_take (i := 20) (oi := _) (v := undef) (getop rfl) (by kernel_rfl) (by kernel_rfl) (by kernel_rfl) (fun _ _ _ h => h) (Or.inr ⟨by rfl, rfl⟩) (by assumption) ?_)
  (try simp only [Act.put, List.setIfInBounds_toArray, List.set_cons_zero, List.set_cons_succ])
  first
  | (refine wpAnyH_take (i := 21) (oi := _) (v := ?_) (getop rfl) (by kernel_rfl) (by kernel_rfl) (by kernel_rfl) (fun _ _ _ h => h) (Or.inl ⟨by rfl, ?_⟩) (by assumption) ?_; rotate_left; focus (intro w hSw; (try dsimp only at hSw); go_simp; (try with_reducible rfl); done))
  | (refine wpAnyH_take (i := 21) (oi := _) (v := undef) (getop rfl) (by kernel_rfl) (by kernel_rfl) (by kernel_rfl) (fun _ _ _ h => h) (Or.inr ⟨by rfl, rfl⟩) (by assumption) ?_)
  (try simp only [Act.put, List.setIfInBounds_toArray, List.set_cons_zero, List.set_cons_succ])
  first
  | (refine wpAnyH_take (i := 23) (oi := _) (v := ?_) (getop rfl) (by kernel_rfl) (by kernel_rfl) (by kernel_rfl) (fun _ _ _ h => h) (Or.inl ⟨by rfl, ?_⟩) (by assumption) ?_; rotate_left; focus (intro w hSw; (try dsimp only at hSw); go_simp; (try with_reducible rfl); done))
  | (refine wpAnyH_take (i := 23) (oi := _) (v := undef) (getop rfl) (by kernel_rfl) (by kernel_rfl) (by kernel_rfl) (fun _ _ _ h => h) (Or.inr ⟨by rfl, rfl⟩) (by assumption) ?_)
  (try simp only [Act.put, List.setIfInBounds_toArray, List.set_cons_zero, List.set_cons_succ])
  refine wpAnyH_ready (rs := [22]) (by kernel_rfl) (by simp) ?_
  refine AllReadyH.cons (o := _) (getop rfl) (fun K hK => ?_) AllReadyH.nil
  go_simp
  (refine (HS.out _).mono ?_; rintro e wx ⟨rfl, rfl⟩)
  refine hK.out _ _ ?_ (fun hHeld22 => ?_)
  focus ((try dsimp only); (have q := hX.facts.1; have r := hC.facts.1; have s := hD.facts.1; exact ⟨q 0, q 1, q 2, q 3, q 4, q 5, q 6, q 7, q 8, r 0, r 1, r 2, r 3, r 4, s 0, s 1, s 2, s 3, s 4, hX.lt, hC.lt, hD.lt⟩))
  clear hK K hHeld
  have hHeld := hHeld22
  clear hHeld22
  (try simp only [Act.put, List.setIfInBounds_toArray, List.set_cons_zero, List.set_cons_succ])
  refine wpAnyH_ready (rs := [24]) (by kernel_rfl) (by simp) ?_
  refine AllReadyH.cons (o := _) (getop rfl) (fun K hK => ?_) AllReadyH.nil
  go_simp
  (refine (HS2.out _).mono ?_; rintro e wx ⟨rfl, rfl⟩)
  refine hK.out _ _ ?_ (fun hHeld24 => ?_)
  focus ((try dsimp only); (have q := hX.facts.1; have r := hC.facts.1; have s := hD.facts.1; exact ⟨q 0, q 1, q 2, q 3, q 4, q 5, q 6, q 7, q 8, r 0, r 1, r 2, r 3, r 4, s 0, s 1, s 2, s 3, s 4, hX.lt, hC.lt, hD.lt⟩))
  clear hK K hHeld
  have hHeld := hHeld24
  clear hHeld24
  (try simp only [Act.put, List.setIfInBounds_toArray, List.set_cons_zero, List.set_cons_succ])
  first
  | (refine wpAnyH_take (i := 25) (oi := _) (v := ?_) (getop rfl) (by kernel_rfl) (by kernel_rfl) (by kernel_rfl) (fun _ _ _ h => h) (Or.inl ⟨by rfl, ?_⟩) (by assumption) ?_; rotate_left; focus (intro w hSw; (try dsimp only at hSw); go_simp; (try with_reducible rfl); done))
  | (refine wpAnyH_take (i := 25) (oi := _) (v := undef) (getop rfl) (by kernel_rfl) (by kernel_rfl) (by kernel_rfl) (fun _ _ _ h => h) (Or.inr ⟨by rfl, rfl⟩) (by assumption) ?_)
  (try simp only [Act.put, List.setIfInBounds_toArray, List.set_cons_zero, List.set_cons_succ])
  first
  | (refine wpAnyH_take (i := 26) (oi := _) (v := ?_) (getop rfl) (by kernel_rfl) (by kernel_rfl) (by kernel_rfl) (fun _ _ _ h => h) (Or.inl ⟨by rfl, ?_⟩) (by assumption) ?_; rotate_left; focus (intro w hSw; (try dsimp only at hSw); go_simp; (try with_reducible rfl); done))
  | (refine wpAnyH_take (i := 26) (oi := _) (v := undef) (getop rfl) (by kernel_rfl) (by kernel_rfl) (by kernel_rfl) (fun _ _ _ h => h) (Or.inr ⟨by rfl, rfl⟩) (by assumption) ?_)
  (try simp only [Act.put, List.setIfInBounds_toArray, List.set_cons_zero, List.set_cons_succ])
  first
  | (refine wpAnyH_take (i := 27) (oi := _) (v := ?_) (getop rfl) (by kernel_rfl) (by kernel_rfl) (by kernel_rfl) (fun _ _ _ h => h) (Or.inl ⟨by rfl, ?_⟩) (by assumption) ?_; rotate_left; focus (intro w hSw; (try dsimp only at hSw); go_simp; (try with_reducible rfl); done))
  | (refine wpAnyH_take (i := 27) (oi := _) (v := undef) (getop rfl) (by kernel_rfl) (by kernel_rfl) (by kernel_rfl) (fun _ _ _ h => h) (Or.inr ⟨by rfl, rfl⟩) (by assumption) ?_)
  (try simp only [Act.put, List.setIfInBounds_toArray, List.set_cons_zero, List.set_cons_succ])
  first
  | (refine wpAnyH_take (i := 28) (oi := _) (v := ?_) (getop rfl) (by kernel_rfl) (by kernel_rfl) (by kernel_rfl) (fun _ _ _ h => h) (Or.inl ⟨by rfl, ?_⟩) (by assumption) ?_; rotate_left; focus (intro w hSw; (try dsimp only at hSw); go_simp; (try with_reducible rfl); done))
  | (refine wpAnyH_take (i := 28) (oi := _) (v := undef) (getop rfl) (by kernel_rfl) (by kernel_rfl) (by kernel_rfl) (fun _ _ _ h => h) (Or.inr ⟨by rfl, rfl⟩) (by assumption) ?_)
  (try simp only [Act.put, List.setIfInBounds_toArray, List.set_cons_zero, List.set_cons_succ])
  first
  | (refine wpAnyH_take (i := 31) (oi := _) (v := ?_) (getop rfl) (by kernel_rfl) (by kernel_rfl) (by kernel_rfl) (fun _ _ _ h => h) (Or.inl ⟨by rfl, ?_⟩) (by assumption) ?_; rotate_left; focus (intro w hSw; (try dsimp only at hSw); go_simp; (try with_reducible rfl); done))
  | (refine wpAnyH_take (i := 31) (oi := _) (v := undef) (getop rfl) (by kernel_rfl) (by kernel_rfl) (by kernel_rfl) (fun _ _ _ h => h) (Or.inr ⟨by rfl, rfl⟩) (by assumption) ?_)
  (try simp only [Act.put, List.setIfInBounds_toArray, List.set_cons_zero, List.set_cons_succ])
  refine wpAnyH_ready (rs := [29]) (by kernel_rfl) (by simp) ?_
  refine AllReadyH.cons (o := _) (getop rfl) (fun K hK => ?_) AllReadyH.nil
  go_simp
  (refine (HC1.out _).mono ?_; rintro e wx ⟨rfl, rfl⟩)
  refine hK.out _ _ ?_ (fun hHeld29 => ?_)
  focus ((try dsimp only); (have q := hX.facts.1; have r := hC.facts.1; have s := hD.facts.1; exact ⟨q 0, q 1, q 2, q 3, q 4, q 5, q 6, q 7, q 8, r 0, r 1, r 2, r 3, r 4, s 0, s 1, s 2, s 3, s 4, hX.lt, hC.lt, hD.lt⟩))
  clear hK K hHeld
  have hHeld := hHeld29
  clear hHeld29
  (try simp only [Act.put, List.setIfInBounds_toArray, List.set_cons_zero, List.set_cons_succ])
  first
  | (refine wpAnyH_take (i := 30) (oi := _) (v := ?_) (getop rfl) (by kernel_rfl) (by kernel_rfl) (by kernel_rfl) (fun _ _ _ h => h) (Or.inl ⟨by rfl, ?_⟩) (by assumption) ?_; rotate_left; focus (intro w hSw; (try dsimp only at hSw); go_simp; (try with_reducible rfl); done))
  | (refine wpAnyH_take (i := 30) (oi := _) (v := undef) (getop rfl) (by kernel_rfl) (by kernel_rfl) (by kernel_rfl) (fun _ _ _ h => h) (Or.inr ⟨by rfl, rfl⟩) (by assumption) ?_)
  (try simp only [Act.put, List.setIfInBounds_toArray, List.set_cons_zero, List.set_cons_succ])
  refine wpAnyH_ready (rs := [32]) (by kernel_rfl) (by simp) ?_
  refine AllReadyH.cons (o := _) (getop rfl) (fun K hK => ?_) AllReadyH.nil
  go_simp
  (refine (HC2.out _).mono ?_; rintro e wx ⟨rfl, rfl⟩)
  refine hK.out _ _ ?_ (fun hHeld32 => ?_)
  focus ((try dsimp only); (have q := hX.facts.1; have r := hC.facts.1; have s := hD.facts.1; exact ⟨q 0, q 1, q 2, q 3, q 4, q 5, q 6, q 7, q 8, r 0, r 1, r 2, r 3, r 4, s 0, s 1, s 2, s 3, s 4, hX.lt, hC.lt, hD.lt⟩))
  clear hK K hHeld
  have hHeld := hHeld32
  clear hHeld32
  (try simp only [Act.put, List.setIfInBounds_toArray, List.set_cons_zero, List.set_cons_succ])
  first
  | (refine wpAnyH_take (i := 33) (oi := _) (v := ?_) (getop rfl) (by kernel_rfl) (by kernel_rfl) (by kernel_rfl) (fun _ _ _ h => h) (Or.inl ⟨by rfl, ?_⟩) (by assumption) ?_; rotate_left; focus (intro w hSw; (try dsimp only at hSw); go_simp; (try with_reducible rfl); done))
  | (refine wpAnyH_take (i := 33) (oi := _) (v := undef) (getop rfl) (by kernel_rfl) (by kernel_rfl) (by kernel_rfl) (fun _ _ _ h => h) (Or.inr ⟨by rfl, rfl⟩) (by assumption) ?_)
  (try simp only [Act.put, List.setIfInBounds_toArray, List.set_cons_zero, List.set_cons_succ])
  first
  | (refine wpAnyH_take (i := 34) (oi := _) (v := ?_) (getop rfl) (by kernel_rfl) (by kernel_rfl) (by kernel_rfl) (fun _ _ _ h => h) (Or.inl ⟨by rfl, ?_⟩) (by assumption) ?_; rotate_left; focus (intro w hSw; (try dsimp only at hSw); go_simp; (try with_reducible rfl); done))
  | (refine wpAnyH_take (i := 34) (oi := _) (v := undef) (getop rfl) (by kernel_rfl) (by kernel_rfl) (by kernel_rfl) (fun _ _ _ h => h) (Or.inr ⟨by rfl, rfl⟩) (by assumption) ?_)
  (try simp only [Act.put, List.setIfInBounds_toArray, List.set_cons_zero, List.set_cons_succ])
  first
  | (refine wpAnyH_take (i := 35) (oi := _) (v := ?_) (getop rfl) (by kernel_rfl) (by kernel_rfl) (by kernel_rfl) (fun _ _ _ h => h) (Or.inl ⟨by rfl, ?_⟩) (by assumption) ?_; rotate_left; focus (intro w hSw; (try dsimp only at hSw); go_simp; (try with_reducible rfl); done))
  | (refine wpAnyH_take (i := 35) (oi := _) (v := undef) (getop rfl) (by kernel_rfl) (by kernel_rfl) (by kernel_rfl) (fun _ _ _ h => h) (Or.inr ⟨by rfl, rfl⟩) (by assumption) ?_)
  (try simp only [Act.put, List.setIfInBounds_toArray, List.set_cons_zero, List.set_cons_succ])
  refine wpAnyH_ready (rs := [36]) (by kernel_rfl) (by simp) ?_
  refine AllReadyH.cons (o := _) (getop rfl) (fun K hK => ?_) AllReadyH.nil
  go_simp
  (refine (awake_any _).mono ?_; rintro e wx ⟨rfl, hb⟩; have hX := hX.lo hb; have hC := hC.lo hb; have hD := hD.lo hb; have hL := lo_trans hL hb; clear hb)
  refine hK.out _ _ ?_ (fun hHeld36 => ?_)
  focus ((try dsimp only); (have q := hX.facts.1; have r := hC.facts.1; have s := hD.facts.1; exact ⟨q 0, q 1, q 2, q 3, q 4, q 5, q 6, q 7, q 8, r 0, r 1, r 2, r 3, r 4, s 0, s 1, s 2, s 3, s 4, hX.lt, hC.lt, hD.lt⟩))
  clear hK K hHeld
  have hHeld := hHeld36
  clear hHeld36
  (try simp only [Act.put, List.setIfInBounds_toArray, List.set_cons_zero, List.set_cons_succ])
  first
  | (refine wpAnyH_take (i := 37) (oi := _) (v := ?_) (getop rfl) (by kernel_rfl) (by kernel_rfl) (by kernel_rfl) (fun _ _ _ h => h) (Or.inl ⟨by rfl, ?_⟩) (by assumption) ?_; rotate_left; focus (intro w hSw; (try dsimp only at hSw); go_simp; (try with_reducible rfl); done))
  | (refine wpAnyH_take (i := 37) (oi := _) (v := undef) (getop rfl) (by kernel_rfl) (by kernel_rfl) (by kernel_rfl) (fun _ _ _ h => h) (Or.inr ⟨by rfl, rfl⟩) (by assumption) ?_)
  (try simp only [Act.put, List.setIfInBounds_toArray, List.set_cons_zero, List.set_cons_succ])
  first
  | (refine wpAnyH_take (i := 38) (oi := _) (v := ?_) (getop rfl) (by kernel_rfl) (by kernel_rfl) (by kernel_rfl) (fun _ _ _ h => h) (Or.inl ⟨by rfl, ?_⟩) (by assumption) ?_; rotate_left; focus (intro w hSw; (try dsimp only at hSw); go_simp; (try with_reducible rfl); done))
  | (refine wpAnyH_take (i := 38) (oi := _) (v := undef) (getop rfl) (by kernel_rfl) (by kernel_rfl) (by kernel_rfl) (fun _ _ _ h => h) (Or.inr ⟨by rfl, rfl⟩) (by assumption) ?_)
  (try simp only [Act.put, List.setIfInBounds_toArray, List.set_cons_zero, List.set_cons_succ])
  refine wpAnyH_done (by kernel_rfl) ?_ _
  have hM := Lib.hid hL
  clear hX hC hD hL
  go_wp2_with fail
  go_ret
  exact ⟨rfl, hM.out⟩
theorem walk_ShedDecides (s0_0 : Int) (s0_1 : Int) (s0_2 : Int) (s0_3 : Bool) (s0_4 : Int) (s0_5 : Int) (s0_6 : Int) (s0_7 : Int) (s0_8 : Int) (s1_0 : Int) (s1_1 : Int) (s1_2 : Int) (s1_3 : Int) (s1_4 : Int) (a2 : Int) (w : World) (w0_0 : (Lit.int .i64 s0_0).wf = true) (w0_1 : (Lit.int .i64 s0_1).wf = true) (w0_2 : (Lit.int .i64 s0_2).wf = true) (w0_4 : (Lit.int .i64 s0_4).wf = true) (w0_5 : (Lit.int .i64 s0_5).wf = true) (w0_6 : (Lit.int .i64 s0_6).wf = true) (w0_7 : (Lit.int .i64 s0_7).wf = true) (w0_8 : (Lit.int .i64 s0_8).wf = true) (w1_0 : (Lit.int .i64 s1_0).wf = true) (w1_1 : (Lit.int .i64 s1_1).wf = true) (w1_2 : (Lit.int .i64 s1_2).wf = true) (w1_3 : (Lit.int .i64 s1_3).wf = true) (w1_4 : (Lit.int .i64 s1_4).wf = true) (w2 : (Lit.int .i64 a2).wf = true) :
    Calls Try.prog 3 #[.agg #[.int .i64 s0_0, .int .i64 s0_1, .int .i64 s0_2, .bool s0_3, .int .i64 s0_4, .int .i64 s0_5, .int .i64 s0_6, .int .i64 s0_7, .int .i64 s0_8], .agg #[.int .i64 s1_0, .int .i64 s1_1, .int .i64 s1_2, .int .i64 s1_3, .int .i64 s1_4], .int .i64 a2] w fun e w' => e = .returned (.bool true) ∧ Below w.heap.size w w' := by
  have b6 := bounds_i64 w0_6
  exact decides_walk ⟨s0_0, s0_1, s0_2, s0_3, s0_4, s0_5, s0_6, s0_7, s0_8⟩ ⟨s1_0, s1_1, s1_2, s1_3, s1_4⟩ a2 b6.2 w
end Go.Proofs.Ytcgnoaaejaofiaa
