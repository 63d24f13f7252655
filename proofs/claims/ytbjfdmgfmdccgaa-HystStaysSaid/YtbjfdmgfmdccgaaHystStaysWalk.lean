import Derived.Test.YtbjfdmgfmdccgaaPlain
namespace Go.Proofs.Ytbjfdmgfmdccgaa
open Go.RowKit
attribute [local go_sem ↓] Go.wp_at_zero Go.wp_at_succ

theorem row7 {w : World} {bb k : Nat} {o : Nat} {v : Int} (h : bb < w.heap.size ∧ w.cell? ⟨bb, o, none⟩ = some (.int .i64 v)) (hk : k ≠ bb) (a b c d e f i : Value) :
    bb < (((((((w.setCell ⟨k, 0, none⟩ a).setCell ⟨k, 1, none⟩ b).setCell ⟨k, 2, none⟩ c).setCell ⟨k, 3, none⟩ d).setCell ⟨k, 4, none⟩ e).setCell ⟨k, 5, none⟩ f).setCell ⟨k, 6, none⟩ i).heap.size ∧
    (((((((w.setCell ⟨k, 0, none⟩ a).setCell ⟨k, 1, none⟩ b).setCell ⟨k, 2, none⟩ c).setCell ⟨k, 3, none⟩ d).setCell ⟨k, 4, none⟩ e).setCell ⟨k, 5, none⟩ f).setCell ⟨k, 6, none⟩ i).cell? ⟨bb, o, none⟩ = some (.int .i64 v) := by
  refine ⟨by simpa using h.1, ?_⟩
  rw [World.cell?_setCell_far _ _ _ _ hk, World.cell?_setCell_far _ _ _ _ hk, World.cell?_setCell_far _ _ _ _ hk, World.cell?_setCell_far _ _ _ _ hk, World.cell?_setCell_far _ _ _ _ hk, World.cell?_setCell_far _ _ _ _ hk, World.cell?_setCell_far _ _ _ _ hk]
  exact h.2
set_option maxRecDepth 100000 in
set_option maxHeartbeats 3200000 in
theorem stays_walk (s0 : St) (A : Option Addr) (len cap : Nat) (xs : List Int) (w : World) (hrow : IntRow .i64 w A len cap xs) : Calls Try.prog 4 #[.agg #[.int .i64 s0.limit, .int .i64 s0.least, .int .i64 s0.most, .int .i64 s0.low, .int .i64 s0.high, .int .i64 s0.quiet, .int .i64 s0.calm], .slice A len cap] w (BoolPost w true) := by
  have HR := Lib.hid hrow
  have hll := hrow.1
  have hlm : len ≤ maxLen := Nat.le_trans hrow.2.1 hrow.2.2.1
  clear hrow
  have hC := check_any s0
  have hO := (Blk.new w 28 #[.int .i64 s0.limit, .int .i64 s0.least, .int .i64 s0.most, .int .i64 s0.low, .int .i64 s0.high, .int .i64 s0.quiet, .int .i64 s0.calm]).alloc (.cells #[.int .i64 s0.limit, .int .i64 s0.least, .int .i64 s0.most, .int .i64 s0.low, .int .i64 s0.high, .int .i64 s0.quiet, .int .i64 s0.calm] 24)
  have hX := Blk.new (w.alloc (.cells #[.int .i64 s0.limit, .int .i64 s0.least, .int .i64 s0.most, .int .i64 s0.low, .int .i64 s0.high, .int .i64 s0.quiet, .int .i64 s0.calm] 28)) 24 #[.int .i64 s0.limit, .int .i64 s0.least, .int .i64 s0.most, .int .i64 s0.low, .int .i64 s0.high, .int .i64 s0.quiet, .int .i64 s0.calm]
  simp only [World.size_alloc] at hX
  have hL := lo_alloc (lo_alloc (lo_refl w) (.cells #[.int .i64 s0.limit, .int .i64 s0.least, .int .i64 s0.most, .int .i64 s0.low, .int .i64 s0.high, .int .i64 s0.quiet, .int .i64 s0.calm] 28)) (.cells #[.int .i64 s0.limit, .int .i64 s0.least, .int .i64 s0.most, .int .i64 s0.low, .int .i64 s0.high, .int .i64 s0.quiet, .int .i64 s0.calm] 24)
  by_cases hbig : len > 100
  · go_enter Try.func4, Try.ntmps4
    go_wp2_with fail
    refine (awake_any _).mono ?_
    rintro e wa ⟨rfl, hb⟩
    have hM := Lib.hid (lo_trans hL hb)
    clear hb
    go_wp2_with fail
    go_ret
    exact ⟨rfl, hM.out⟩

  · rcases err_cases s0 with he | he
    case inr =>
      rw [he] at hC
      have HC := Lib.hid hC
      clear hC he
      go_enter Try.func4, Try.ntmps4
      go_wp2_with fail
      refine (HC.out _).mono ?_
      rintro e w1 ⟨rfl, hb⟩
      have hL := lo_trans hL hb
      clear hb
      go_wp2_with fail
      refine (awake_any _).mono ?_
      rintro e wa ⟨rfl, hb⟩
      have hM := Lib.hid (lo_trans hL hb)
      clear hb
      go_wp2_with fail
      go_ret
      exact ⟨rfl, hM.out⟩

    case inl =>
    have hok : s0.ok := by
      by_cases h : s0.ok
      · exact h
      · rw [show s0.err = 8 from if_neg h] at he; cases he
    rw [he] at hC
    have HC := Lib.hid hC
    clear hC he
    go_enter Try.func4, Try.ntmps4
    go_wp2_with fail
    refine (HC.out _).mono ?_
    rintro e w1 ⟨rfl, hb⟩
    have hO := hO.lo hb
    have hX := hX.lo hb
    have hL := lo_trans hL hb
    clear hb HC
    obtain ⟨gx, hgx⟩ : ∃ g, g = w.heap.size + 1 := ⟨_, rfl⟩
    obtain ⟨go, hgo⟩ : ∃ g, g = w.heap.size := ⟨_, rfl⟩
    obtain ⟨cO, fO⟩ := hO.facts
    go_upto_region 5 with fail
    rw [← hgx] at hX ⊢
    rw [← hgo] at hO ⊢
    have nox : go ≠ gx := by omega
    have lgx : w.heap.size ≤ gx := by omega
    have lgo : w.heap.size ≤ go := by omega
    clear hgx hgo cO fO
    go_wp2_with fail
    go_loopw [6, 7] (fun y z wr => ∃ (k : Nat) (s : St) (since : Int), k ≤ len ∧ y = .int .i64 since ∧ z = .int .i64 k ∧ s.ok ∧ s.quiet = s0.quiet ∧ s.calm ≤ since ∧ 0 ≤ since ∧ since ≤ 1000 + k ∧ Blk wr gx 24 #[.int .i64 s.limit, .int .i64 s.least, .int .i64 s.most, .int .i64 s.low, .int .i64 s.high, .int .i64 s.quiet, .int .i64 s.calm] ∧ Blk wr go 28 #[.int .i64 s0.limit, .int .i64 s0.least, .int .i64 s0.most, .int .i64 s0.low, .int .i64 s0.high, .int .i64 s0.quiet, .int .i64 s0.calm] ∧ Below w.heap.size w wr) (fun _ z _ => len - (intOf z).toNat)
    case atStart => exact ⟨0, s0, s0.quiet, by omega, rfl, rfl, hok, rfl, by have := hok.2.2.2.2; omega, by have := hok.2.2.1.1; omega, by have := hok.2.2.1.2; omega, hX, hO, hL⟩
    case round =>
      clear hX hO hL
      obtain ⟨k, s, since, hk, rfl, rfl, hsok, hq, hcalm, hs0, hs1, hX, hO, hL⟩ := hrel
      by_cases hkl : k < len
      · obtain ⟨bb, off, rfl, hlt, hcell⟩ := (int_lo HR.out hL).2.2.2.2.1 k xs[k] (List.getElem?_eq_getElem (by omega))
        have hkl' : (k : Int) < (len : Int) := by omega
        generalize xs[k] = v at hcell
        have hRow : bb < wr.heap.size ∧ wr.cell? ⟨bb, off + k, none⟩ = some (.int .i64 v) := ⟨hlt, hcell⟩
        clear hlt hcell
        have HS := Lib.hid (see_any s v)
        have HZ := Lib.hid (zone_any s v)
        obtain ⟨⟨y, is⟩, hr⟩ : ∃ r, seeS s v = r := ⟨_, rfl⟩
        obtain ⟨z, hz⟩ : ∃ z, zoneS s v = z := ⟨_, rfl⟩
        obtain ⟨hyok, hyq, hcase⟩ := stays_plain hsok hr hz hcalm
        rw [hr] at HS
        rw [hz] at HZ
        have HC := check_any y
        rw [show y.err = 0 from if_pos hyok] at HC
        have HC := Lib.hid HC
        have HYK := Lib.hid hyok
        have HQ := Lib.hid hyq
        have HCASE := Lib.hid hcase
        have hqb : s0.quiet ≤ 1000 := by rw [← hq]; exact hsok.2.2.1.2
        have HQ0 := Lib.hid hq
        clear hq
        clear hr hz hyok hyq hcase hsok
        go_upto_region 8 with fail
        go_cut [8, 9] (fun u u2 wz => ∃ g8, u = .pointer (some ⟨g8, 0, none⟩) ∧ u2 = .bool is ∧ Blk wz g8 24 #[.int .i64 y.limit, .int .i64 y.least, .int .i64 y.most, .int .i64 y.low, .int .i64 y.high, .int .i64 y.quiet, .int .i64 y.calm] ∧ Blk wz gx 24 #[.int .i64 s.limit, .int .i64 s.least, .int .i64 s.most, .int .i64 s.low, .int .i64 s.high, .int .i64 s.quiet, .int .i64 s.calm] ∧ Blk wz go 28 #[.int .i64 s0.limit, .int .i64 s0.least, .int .i64 s0.most, .int .i64 s0.low, .int .i64 s0.high, .int .i64 s0.quiet, .int .i64 s0.calm] ∧ (bb < wz.heap.size ∧ wz.cell? ⟨bb, off + k, none⟩ = some (.int .i64 v)) ∧ Below w.heap.size w wz)
        case first =>
          refine wp_region_held_drew (S := (fun W => W.cell? ⟨gx, 0, none⟩ = some (.int .i64 s.limit) ∧ W.cell? ⟨gx, 1, none⟩ = some (.int .i64 s.least) ∧ W.cell? ⟨gx, 2, none⟩ = some (.int .i64 s.most) ∧ W.cell? ⟨gx, 3, none⟩ = some (.int .i64 s.low) ∧ W.cell? ⟨gx, 4, none⟩ = some (.int .i64 s.high) ∧ W.cell? ⟨gx, 5, none⟩ = some (.int .i64 s.quiet) ∧ W.cell? ⟨gx, 6, none⟩ = some (.int .i64 s.calm) ∧ W.cell? ⟨bb, off + k, none⟩ = some (.int .i64 v) ∧ gx < W.heap.size ∧ bb < W.heap.size)) (by kernel_rfl) ?_ (fun hHeld => ?_)
          focus (have q := hX.facts.1; exact ⟨q 0, q 1, q 2, q 3, q 4, q 5, q 6, hRow.2, hX.lt, hRow.1⟩)
          first
          | (refine wpAnyH_take (i := 0) (oi := _) (v := ?_) (getop rfl) (by kernel_rfl) (by kernel_rfl) (by kernel_rfl) (fun _ _ _ h => h) (Or.inl ⟨by rfl, ?_⟩) (by assumption) ?_; rotate_left; focus (intro w hSw; (try dsimp only at hSw); go_simp; (try with_reducible rfl); done))
          | (refine wpAnyH_take (i := 0) (oi := _) (v := undef) (getop rfl) (by kernel_rfl) (by kernel_rfl) (by kernel_rfl) (fun _ _ _ h => h) (Or.inr ⟨by rfl, rfl⟩) (by assumption) ?_)
          (try simp only [Act.put, List.setIfInBounds_toArray, List.set_cons_zero, List.set_cons_succ])
          first
          | (refine wpAnyH_take (i := 1) (oi := _) (v := ?_) (getop rfl) (by kernel_rfl) (by kernel_rfl) (by kernel_rfl) (fun _ _ _ h => h) (Or.inl ⟨by rfl, ?_⟩) (by assumption) ?_; rotate_left; focus (intro w hSw; (try dsimp only at hSw); go_simp; (try with_reducible rfl); done))
          | (refine wpAnyH_take (i := 1) (oi := _) (v := undef) (getop rfl) (by kernel_rfl) (by kernel_rfl) (by kernel_rfl) (fun _ _ _ h => h) (Or.inr ⟨by rfl, rfl⟩) (by assumption) ?_)
          (try simp only [Act.put, List.setIfInBounds_toArray, List.set_cons_zero, List.set_cons_succ])
          first
          | (refine wpAnyH_take (i := 2) (oi := _) (v := ?_) (getop rfl) (by kernel_rfl) (by kernel_rfl) (by kernel_rfl) (fun _ _ _ h => h) (Or.inl ⟨by rfl, ?_⟩) (by assumption) ?_; rotate_left; focus (intro w hSw; (try dsimp only at hSw); go_simp; (try with_reducible rfl); done))
          | (refine wpAnyH_take (i := 2) (oi := _) (v := undef) (getop rfl) (by kernel_rfl) (by kernel_rfl) (by kernel_rfl) (fun _ _ _ h => h) (Or.inr ⟨by rfl, rfl⟩) (by assumption) ?_)
          (try simp only [Act.put, List.setIfInBounds_toArray, List.set_cons_zero, List.set_cons_succ])
          first
          | (refine wpAnyH_take (i := 3) (oi := _) (v := ?_) (getop rfl) (by kernel_rfl) (by kernel_rfl) (by kernel_rfl) (fun _ _ _ h => h) (Or.inl ⟨by rfl, ?_⟩) (by assumption) ?_; rotate_left; focus (intro w hSw; (try dsimp only at hSw); go_simp; (try with_reducible rfl); done))
          | (refine wpAnyH_take (i := 3) (oi := _) (v := undef) (getop rfl) (by kernel_rfl) (by kernel_rfl) (by kernel_rfl) (fun _ _ _ h => h) (Or.inr ⟨by rfl, rfl⟩) (by assumption) ?_)
          (try simp only [Act.put, List.setIfInBounds_toArray, List.set_cons_zero, List.set_cons_succ])
          first
          | (refine wpAnyH_take (i := 4) (oi := _) (v := ?_) (getop rfl) (by kernel_rfl) (by kernel_rfl) (by kernel_rfl) (fun _ _ _ h => h) (Or.inl ⟨by rfl, ?_⟩) (by assumption) ?_; rotate_left; focus (intro w hSw; (try dsimp only at hSw); go_simp; (try with_reducible rfl); done))
          | (refine wpAnyH_take (i := 4) (oi := _) (v := undef) (getop rfl) (by kernel_rfl) (by kernel_rfl) (by kernel_rfl) (fun _ _ _ h => h) (Or.inr ⟨by rfl, rfl⟩) (by assumption) ?_)
          (try simp only [Act.put, List.setIfInBounds_toArray, List.set_cons_zero, List.set_cons_succ])
          have hX : Blk wr.drew _ _ _ := hX
          have hO : Blk wr.drew _ _ _ := hO
          have hL := lo_drew hL
          have hRow : bb < wr.drew.heap.size ∧ wr.drew.cell? ⟨bb, off + k, none⟩ = some (.int .i64 v) := hRow
          generalize wr.drew = wd at hX hO hL hRow hHeld ⊢
          refine wpAnyH_ready (rs := [5, 9]) (by kernel_rfl) (by simp) ?_
          refine AllReadyH.cons (o := _) (getop rfl) (fun K hK => ?_) (AllReadyH.cons (o := _) (getop rfl) (fun K hK => ?_) AllReadyH.nil)
          · go_simp
            refine (HS.out _).mono ?_
            rintro e w5 ⟨rfl, hb⟩
            have hX := hX.lo hb
            have hO := hO.lo hb
            have hRow : bb < w5.heap.size ∧ w5.cell? ⟨bb, off + k, none⟩ = some (.int .i64 v) := ⟨Nat.lt_of_lt_of_le hRow.1 hb.size, (hb.cell (p := ⟨bb, off + k, none⟩) hRow.1).trans hRow.2⟩
            have hL := lo_trans hL hb
            clear hb
            refine hK.out _ _ ?_ (fun hHeld5 => ?_)
            focus (have q := hX.facts.1; exact ⟨q 0, q 1, q 2, q 3, q 4, q 5, q 6, hRow.2, hX.lt, hRow.1⟩)
            clear hK K hHeld
            have hHeld := hHeld5
            clear hHeld5
            (try simp only [Act.put, List.setIfInBounds_toArray, List.set_cons_zero, List.set_cons_succ])
            first
            | (refine wpAnyH_take (i := 6) (oi := _) (v := ?_) (getop rfl) (by kernel_rfl) (by kernel_rfl) (by kernel_rfl) (fun _ _ _ h => h) (Or.inl ⟨by rfl, ?_⟩) (by assumption) ?_; rotate_left; focus (intro w hSw; (try dsimp only at hSw); go_simp; (try with_reducible rfl); done))
            | (refine wpAnyH_take (i := 6) (oi := _) (v := undef) (getop rfl) (by kernel_rfl) (by kernel_rfl) (by kernel_rfl) (fun _ _ _ h => h) (Or.inr ⟨by rfl, rfl⟩) (by assumption) ?_)
            (try simp only [Act.put, List.setIfInBounds_toArray, List.set_cons_zero, List.set_cons_succ])
            first
            | (refine wpAnyH_take (i := 7) (oi := _) (v := ?_) (getop rfl) (by kernel_rfl) (by kernel_rfl) (by kernel_rfl) (fun _ _ _ h => h) (Or.inl ⟨by rfl, ?_⟩) (by assumption) ?_; rotate_left; focus (intro w hSw; (try dsimp only at hSw); go_simp; (try with_reducible rfl); done))
            | (refine wpAnyH_take (i := 7) (oi := _) (v := undef) (getop rfl) (by kernel_rfl) (by kernel_rfl) (by kernel_rfl) (fun _ _ _ h => h) (Or.inr ⟨by rfl, rfl⟩) (by assumption) ?_)
            (try simp only [Act.put, List.setIfInBounds_toArray, List.set_cons_zero, List.set_cons_succ])
            first
            | (refine wpAnyH_take (i := 8) (oi := _) (v := ?_) (getop rfl) (by kernel_rfl) (by kernel_rfl) (by kernel_rfl) (fun _ _ _ h => h) (Or.inl ⟨by rfl, ?_⟩) (by assumption) ?_; rotate_left; focus (intro w hSw; (try dsimp only at hSw); go_simp; (try with_reducible rfl); done))
            | (refine wpAnyH_take (i := 8) (oi := _) (v := undef) (getop rfl) (by kernel_rfl) (by kernel_rfl) (by kernel_rfl) (fun _ _ _ h => h) (Or.inr ⟨by rfl, rfl⟩) (by assumption) ?_)
            (try simp only [Act.put, List.setIfInBounds_toArray, List.set_cons_zero, List.set_cons_succ])
            refine wpAnyH_ready (rs := [9]) (by kernel_rfl) (by simp) ?_
            refine AllReadyH.cons (o := _) (getop rfl) (fun K hK => ?_) AllReadyH.nil
            go_simp
            have hb := lo_alloc (lo_refl w5) (.cells #[.int .i64 0, .int .i64 0, .int .i64 0, .int .i64 0, .int .i64 0, .int .i64 0, .int .i64 0] 24)
            have h8 := Blk.new w5 24 #[.int .i64 0, .int .i64 0, .int .i64 0, .int .i64 0, .int .i64 0, .int .i64 0, .int .i64 0]
            have n8x : w5.heap.size ≠ gx := by have := hX.lt; omega
            have n8o : w5.heap.size ≠ go := by have := hO.lt; omega
            have n8r : w5.heap.size ≠ bb := by have := hRow.1; omega
            have g8l : w.heap.size ≤ w5.heap.size := hL.size
            have hX := hX.lo hb
            have hO := hO.lo hb
            have hRow : bb < (w5.alloc (.cells #[.int .i64 0, .int .i64 0, .int .i64 0, .int .i64 0, .int .i64 0, .int .i64 0, .int .i64 0] 24)).heap.size ∧ (w5.alloc (.cells #[.int .i64 0, .int .i64 0, .int .i64 0, .int .i64 0, .int .i64 0, .int .i64 0, .int .i64 0] 24)).cell? ⟨bb, off + k, none⟩ = some (.int .i64 v) := ⟨Nat.lt_of_lt_of_le hRow.1 hb.size, (hb.cell (p := ⟨bb, off + k, none⟩) hRow.1).trans hRow.2⟩
            have hL := lo_trans hL hb
            clear hb
            generalize w5.heap.size = g8 at h8 n8x n8o n8r g8l ⊢
            generalize w5.alloc (.cells #[.int .i64 0, .int .i64 0, .int .i64 0, .int .i64 0, .int .i64 0, .int .i64 0, .int .i64 0] 24) = w9 at *
            refine hK.out _ _ ?_ (fun hHeld9 => ?_)
            focus (have q := hX.facts.1; exact ⟨q 0, q 1, q 2, q 3, q 4, q 5, q 6, hRow.2, hX.lt, hRow.1⟩)
            clear hK K hHeld
            have hHeld := hHeld9
            clear hHeld9
            (try simp only [Act.put, List.setIfInBounds_toArray, List.set_cons_zero, List.set_cons_succ])
            refine wpAnyH_ready (rs := [10]) (by kernel_rfl) (by simp) ?_
            refine AllReadyH.cons (o := _) (getop rfl) (fun K hK => ?_) AllReadyH.nil
            obtain ⟨c8, f8⟩ := h8.facts
            have l8 := h8.lt
            go_simp
            clear c8 f8 l8
            have hX := far7 hX (Ne.symm n8x) (.int .i64 y.limit) (.int .i64 y.least) (.int .i64 y.most) (.int .i64 y.low) (.int .i64 y.high) (.int .i64 y.quiet) (.int .i64 y.calm)
            have hO := far7 hO (Ne.symm n8o) (.int .i64 y.limit) (.int .i64 y.least) (.int .i64 y.most) (.int .i64 y.low) (.int .i64 y.high) (.int .i64 y.quiet) (.int .i64 y.calm)
            have h8 := put7 h8 (.int .i64 y.limit) (.int .i64 y.least) (.int .i64 y.most) (.int .i64 y.low) (.int .i64 y.high) (.int .i64 y.quiet) (.int .i64 y.calm)
            have hL := lo7 hL g8l (.int .i64 y.limit) (.int .i64 y.least) (.int .i64 y.most) (.int .i64 y.low) (.int .i64 y.high) (.int .i64 y.quiet) (.int .i64 y.calm)
            have hRow := row7 hRow n8r (.int .i64 y.limit) (.int .i64 y.least) (.int .i64 y.most) (.int .i64 y.low) (.int .i64 y.high) (.int .i64 y.quiet) (.int .i64 y.calm)
            refine hK.out _ _ ?_ (fun hHeld10 => ?_)
            focus (have q := hX.facts.1; exact ⟨q 0, q 1, q 2, q 3, q 4, q 5, q 6, hRow.2, hX.lt, hRow.1⟩)
            clear hK K hHeld
            have hHeld := hHeld10
            clear hHeld10
            (try simp only [Act.put, List.setIfInBounds_toArray, List.set_cons_zero, List.set_cons_succ])
            first
            | (refine wpAnyH_take (i := 11) (oi := _) (v := ?_) (getop rfl) (by kernel_rfl) (by kernel_rfl) (by kernel_rfl) (fun _ _ _ h => h) (Or.inl ⟨by rfl, ?_⟩) (by assumption) ?_; rotate_left; focus (intro w hSw; (try dsimp only at hSw); go_simp; (try with_reducible rfl); done))
            | (refine wpAnyH_take (i := 11) (oi := _) (v := undef) (getop rfl) (by kernel_rfl) (by kernel_rfl) (by kernel_rfl) (fun _ _ _ h => h) (Or.inr ⟨by rfl, rfl⟩) (by assumption) ?_)
            (try simp only [Act.put, List.setIfInBounds_toArray, List.set_cons_zero, List.set_cons_succ])
            refine wpAnyH_done (by kernel_rfl) ?_ _
            go_wp2_with fail
            go_meet
            exact ⟨g8, rfl, rfl, h8, hX, hO, hRow, hL⟩
          · go_simp
            have hb := lo_alloc (lo_refl wd) (.cells #[.int .i64 0, .int .i64 0, .int .i64 0, .int .i64 0, .int .i64 0, .int .i64 0, .int .i64 0] 24)
            have h8 := Blk.new wd 24 #[.int .i64 0, .int .i64 0, .int .i64 0, .int .i64 0, .int .i64 0, .int .i64 0, .int .i64 0]
            have n8x : wd.heap.size ≠ gx := by have := hX.lt; omega
            have n8o : wd.heap.size ≠ go := by have := hO.lt; omega
            have n8r : wd.heap.size ≠ bb := by have := hRow.1; omega
            have g8l : w.heap.size ≤ wd.heap.size := hL.size
            have hX := hX.lo hb
            have hO := hO.lo hb
            have hRow : bb < (wd.alloc (.cells #[.int .i64 0, .int .i64 0, .int .i64 0, .int .i64 0, .int .i64 0, .int .i64 0, .int .i64 0] 24)).heap.size ∧ (wd.alloc (.cells #[.int .i64 0, .int .i64 0, .int .i64 0, .int .i64 0, .int .i64 0, .int .i64 0, .int .i64 0] 24)).cell? ⟨bb, off + k, none⟩ = some (.int .i64 v) := ⟨Nat.lt_of_lt_of_le hRow.1 hb.size, (hb.cell (p := ⟨bb, off + k, none⟩) hRow.1).trans hRow.2⟩
            have hL := lo_trans hL hb
            clear hb
            generalize wd.heap.size = g8 at h8 n8x n8o n8r g8l ⊢
            generalize wd.alloc (.cells #[.int .i64 0, .int .i64 0, .int .i64 0, .int .i64 0, .int .i64 0, .int .i64 0, .int .i64 0] 24) = w9 at *
            refine hK.out _ _ ?_ (fun hHeld9 => ?_)
            focus (have q := hX.facts.1; exact ⟨q 0, q 1, q 2, q 3, q 4, q 5, q 6, hRow.2, hX.lt, hRow.1⟩)
            clear hK K hHeld
            have hHeld := hHeld9
            clear hHeld9
            (try simp only [Act.put, List.setIfInBounds_toArray, List.set_cons_zero, List.set_cons_succ])
            refine wpAnyH_ready (rs := [5]) (by kernel_rfl) (by simp) ?_
            refine AllReadyH.cons (o := _) (getop rfl) (fun K hK => ?_) AllReadyH.nil
            go_simp
            refine (HS.out _).mono ?_
            rintro e w5 ⟨rfl, hb⟩
            have hX := hX.lo hb
            have hO := hO.lo hb
            have h8 := h8.lo hb
            have hRow : bb < w5.heap.size ∧ w5.cell? ⟨bb, off + k, none⟩ = some (.int .i64 v) := ⟨Nat.lt_of_lt_of_le hRow.1 hb.size, (hb.cell (p := ⟨bb, off + k, none⟩) hRow.1).trans hRow.2⟩
            have hL := lo_trans hL hb
            clear hb
            refine hK.out _ _ ?_ (fun hHeld5 => ?_)
            focus (have q := hX.facts.1; exact ⟨q 0, q 1, q 2, q 3, q 4, q 5, q 6, hRow.2, hX.lt, hRow.1⟩)
            clear hK K hHeld
            have hHeld := hHeld5
            clear hHeld5
            (try simp only [Act.put, List.setIfInBounds_toArray, List.set_cons_zero, List.set_cons_succ])
            first
            | (refine wpAnyH_take (i := 6) (oi := _) (v := ?_) (getop rfl) (by kernel_rfl) (by kernel_rfl) (by kernel_rfl) (fun _ _ _ h => h) (Or.inl ⟨by rfl, ?_⟩) (by assumption) ?_; rotate_left; focus (intro w hSw; (try dsimp only at hSw); go_simp; (try with_reducible rfl); done))
            | (refine wpAnyH_take (i := 6) (oi := _) (v := undef) (getop rfl) (by kernel_rfl) (by kernel_rfl) (by kernel_rfl) (fun _ _ _ h => h) (Or.inr ⟨by rfl, rfl⟩) (by assumption) ?_)
            (try simp only [Act.put, List.setIfInBounds_toArray, List.set_cons_zero, List.set_cons_succ])
            first
            | (refine wpAnyH_take (i := 7) (oi := _) (v := ?_) (getop rfl) (by kernel_rfl) (by kernel_rfl) (by kernel_rfl) (fun _ _ _ h => h) (Or.inl ⟨by rfl, ?_⟩) (by assumption) ?_; rotate_left; focus (intro w hSw; (try dsimp only at hSw); go_simp; (try with_reducible rfl); done))
            | (refine wpAnyH_take (i := 7) (oi := _) (v := undef) (getop rfl) (by kernel_rfl) (by kernel_rfl) (by kernel_rfl) (fun _ _ _ h => h) (Or.inr ⟨by rfl, rfl⟩) (by assumption) ?_)
            (try simp only [Act.put, List.setIfInBounds_toArray, List.set_cons_zero, List.set_cons_succ])
            first
            | (refine wpAnyH_take (i := 8) (oi := _) (v := ?_) (getop rfl) (by kernel_rfl) (by kernel_rfl) (by kernel_rfl) (fun _ _ _ h => h) (Or.inl ⟨by rfl, ?_⟩) (by assumption) ?_; rotate_left; focus (intro w hSw; (try dsimp only at hSw); go_simp; (try with_reducible rfl); done))
            | (refine wpAnyH_take (i := 8) (oi := _) (v := undef) (getop rfl) (by kernel_rfl) (by kernel_rfl) (by kernel_rfl) (fun _ _ _ h => h) (Or.inr ⟨by rfl, rfl⟩) (by assumption) ?_)
            (try simp only [Act.put, List.setIfInBounds_toArray, List.set_cons_zero, List.set_cons_succ])
            refine wpAnyH_ready (rs := [10]) (by kernel_rfl) (by simp) ?_
            refine AllReadyH.cons (o := _) (getop rfl) (fun K hK => ?_) AllReadyH.nil
            obtain ⟨c8, f8⟩ := h8.facts
            have l8 := h8.lt
            go_simp
            clear c8 f8 l8
            have hX := far7 hX (Ne.symm n8x) (.int .i64 y.limit) (.int .i64 y.least) (.int .i64 y.most) (.int .i64 y.low) (.int .i64 y.high) (.int .i64 y.quiet) (.int .i64 y.calm)
            have hO := far7 hO (Ne.symm n8o) (.int .i64 y.limit) (.int .i64 y.least) (.int .i64 y.most) (.int .i64 y.low) (.int .i64 y.high) (.int .i64 y.quiet) (.int .i64 y.calm)
            have h8 := put7 h8 (.int .i64 y.limit) (.int .i64 y.least) (.int .i64 y.most) (.int .i64 y.low) (.int .i64 y.high) (.int .i64 y.quiet) (.int .i64 y.calm)
            have hL := lo7 hL g8l (.int .i64 y.limit) (.int .i64 y.least) (.int .i64 y.most) (.int .i64 y.low) (.int .i64 y.high) (.int .i64 y.quiet) (.int .i64 y.calm)
            have hRow := row7 hRow n8r (.int .i64 y.limit) (.int .i64 y.least) (.int .i64 y.most) (.int .i64 y.low) (.int .i64 y.high) (.int .i64 y.quiet) (.int .i64 y.calm)
            refine hK.out _ _ ?_ (fun hHeld10 => ?_)
            focus (have q := hX.facts.1; exact ⟨q 0, q 1, q 2, q 3, q 4, q 5, q 6, hRow.2, hX.lt, hRow.1⟩)
            clear hK K hHeld
            have hHeld := hHeld10
            clear hHeld10
            (try simp only [Act.put, List.setIfInBounds_toArray, List.set_cons_zero, List.set_cons_succ])
            first
            | (refine wpAnyH_take (i := 11) (oi := _) (v := ?_) (getop rfl) (by kernel_rfl) (by kernel_rfl) (by kernel_rfl) (fun _ _ _ h => h) (Or.inl ⟨by rfl, ?_⟩) (by assumption) ?_; rotate_left; focus (intro w hSw; (try dsimp only at hSw); go_simp; (try with_reducible rfl); done))
            | (refine wpAnyH_take (i := 11) (oi := _) (v := undef) (getop rfl) (by kernel_rfl) (by kernel_rfl) (by kernel_rfl) (fun _ _ _ h => h) (Or.inr ⟨by rfl, rfl⟩) (by assumption) ?_)
            (try simp only [Act.put, List.setIfInBounds_toArray, List.set_cons_zero, List.set_cons_succ])
            refine wpAnyH_done (by kernel_rfl) ?_ _
            go_wp2_with fail
            go_meet
            exact ⟨g8, rfl, rfl, h8, hX, hO, hRow, hL⟩
        case rest =>
        obtain ⟨g8, rfl, rfl, h8, hX, hO, hRow, hL⟩ := hcut
        clear HS
        go_upto_region 10 with fail
        refine wp_region_held_drew (S := (fun W => W.cell? ⟨gx, 0, none⟩ = some (.int .i64 s.limit) ∧ W.cell? ⟨gx, 1, none⟩ = some (.int .i64 s.least) ∧ W.cell? ⟨gx, 2, none⟩ = some (.int .i64 s.most) ∧ W.cell? ⟨gx, 3, none⟩ = some (.int .i64 s.low) ∧ W.cell? ⟨gx, 4, none⟩ = some (.int .i64 s.high) ∧ W.cell? ⟨gx, 5, none⟩ = some (.int .i64 s.quiet) ∧ W.cell? ⟨gx, 6, none⟩ = some (.int .i64 s.calm) ∧ W.cell? ⟨bb, off + k, none⟩ = some (.int .i64 v) ∧ gx < W.heap.size ∧ bb < W.heap.size)) (by kernel_rfl) ?_ (fun hHeld => ?_)
        focus ((try dsimp only); (have q := hX.facts.1; exact ⟨q 0, q 1, q 2, q 3, q 4, q 5, q 6, hRow.2, hX.lt, hRow.1⟩))
        have hX : Blk wc.drew _ _ _ := hX
        have hO : Blk wc.drew _ _ _ := hO
        have h8 : Blk wc.drew _ _ _ := h8
        have hL := lo_drew hL
        have hRow : bb < wc.drew.heap.size ∧ wc.drew.cell? ⟨bb, off + k, none⟩ = some (.int .i64 v) := hRow
        generalize wc.drew = wd at hX hO h8 hL hRow hHeld ⊢
        first
        | (refine wpAnyH_take (i := 0) (oi := _) (v := ?_) (getop rfl) (by kernel_rfl) (by kernel_rfl) (by kernel_rfl) (fun _ _ _ h => h) (Or.inl ⟨by rfl, ?_⟩) (by assumption) ?_; rotate_left; focus (intro w hSw; (try dsimp only at hSw); go_simp; (try with_reducible rfl); done))
        | (refine wpAnyH_take (i := 0) (oi := _) (v := undef) (getop rfl) (by kernel_rfl) (by kernel_rfl) (by kernel_rfl) (fun _ _ _ h => h) (Or.inr ⟨by rfl, rfl⟩) (by assumption) ?_)
        (try simp only [Act.put, List.setIfInBounds_toArray, List.set_cons_zero, List.set_cons_succ])
        first
        | (refine wpAnyH_take (i := 1) (oi := _) (v := ?_) (getop rfl) (by kernel_rfl) (by kernel_rfl) (by kernel_rfl) (fun _ _ _ h => h) (Or.inl ⟨by rfl, ?_⟩) (by assumption) ?_; rotate_left; focus (intro w hSw; (try dsimp only at hSw); go_simp; (try with_reducible rfl); done))
        | (refine wpAnyH_take (i := 1) (oi := _) (v := undef) (getop rfl) (by kernel_rfl) (by kernel_rfl) (by kernel_rfl) (fun _ _ _ h => h) (Or.inr ⟨by rfl, rfl⟩) (by assumption) ?_)
        (try simp only [Act.put, List.setIfInBounds_toArray, List.set_cons_zero, List.set_cons_succ])
        first
        | (refine wpAnyH_take (i := 2) (oi := _) (v := ?_) (getop rfl) (by kernel_rfl) (by kernel_rfl) (by kernel_rfl) (fun _ _ _ h => h) (Or.inl ⟨by rfl, ?_⟩) (by assumption) ?_; rotate_left; focus (intro w hSw; (try dsimp only at hSw); go_simp; (try with_reducible rfl); done))
        | (refine wpAnyH_take (i := 2) (oi := _) (v := undef) (getop rfl) (by kernel_rfl) (by kernel_rfl) (by kernel_rfl) (fun _ _ _ h => h) (Or.inr ⟨by rfl, rfl⟩) (by assumption) ?_)
        (try simp only [Act.put, List.setIfInBounds_toArray, List.set_cons_zero, List.set_cons_succ])
        first
        | (refine wpAnyH_take (i := 3) (oi := _) (v := ?_) (getop rfl) (by kernel_rfl) (by kernel_rfl) (by kernel_rfl) (fun _ _ _ h => h) (Or.inl ⟨by rfl, ?_⟩) (by assumption) ?_; rotate_left; focus (intro w hSw; (try dsimp only at hSw); go_simp; (try with_reducible rfl); done))
        | (refine wpAnyH_take (i := 3) (oi := _) (v := undef) (getop rfl) (by kernel_rfl) (by kernel_rfl) (by kernel_rfl) (fun _ _ _ h => h) (Or.inr ⟨by rfl, rfl⟩) (by assumption) ?_)
        (try simp only [Act.put, List.setIfInBounds_toArray, List.set_cons_zero, List.set_cons_succ])
        first
        | (refine wpAnyH_take (i := 4) (oi := _) (v := ?_) (getop rfl) (by kernel_rfl) (by kernel_rfl) (by kernel_rfl) (fun _ _ _ h => h) (Or.inl ⟨by rfl, ?_⟩) (by assumption) ?_; rotate_left; focus (intro w hSw; (try dsimp only at hSw); go_simp; (try with_reducible rfl); done))
        | (refine wpAnyH_take (i := 4) (oi := _) (v := undef) (getop rfl) (by kernel_rfl) (by kernel_rfl) (by kernel_rfl) (fun _ _ _ h => h) (Or.inr ⟨by rfl, rfl⟩) (by assumption) ?_)
        (try simp only [Act.put, List.setIfInBounds_toArray, List.set_cons_zero, List.set_cons_succ])
        refine wpAnyH_ready (rs := [5]) (by kernel_rfl) (by simp) ?_
        refine AllReadyH.cons (o := _) (getop rfl) (fun K hK => ?_) AllReadyH.nil
        go_simp
        (refine (HZ.out _).mono ?_; rintro e wx ⟨rfl, hb⟩; have hX := hX.lo hb; have hO := hO.lo hb; have h8 := h8.lo hb; have hRow : bb < wx.heap.size ∧ wx.cell? ⟨bb, off + k, none⟩ = some (.int .i64 v) := ⟨Nat.lt_of_lt_of_le hRow.1 hb.size, (hb.cell (p := ⟨bb, off + k, none⟩) hRow.1).trans hRow.2⟩; have hL := lo_trans hL hb; clear hb)
        refine hK.out _ _ ?_ (fun hHeld5 => ?_)
        focus ((try dsimp only); (have q := hX.facts.1; exact ⟨q 0, q 1, q 2, q 3, q 4, q 5, q 6, hRow.2, hX.lt, hRow.1⟩))
        clear hK K hHeld
        have hHeld := hHeld5
        clear hHeld5
        (try simp only [Act.put, List.setIfInBounds_toArray, List.set_cons_zero, List.set_cons_succ])
        first
        | (refine wpAnyH_take (i := 6) (oi := _) (v := ?_) (getop rfl) (by kernel_rfl) (by kernel_rfl) (by kernel_rfl) (fun _ _ _ h => h) (Or.inl ⟨by rfl, ?_⟩) (by assumption) ?_; rotate_left; focus (intro w hSw; (try dsimp only at hSw); go_simp; (try with_reducible rfl); done))
        | (refine wpAnyH_take (i := 6) (oi := _) (v := undef) (getop rfl) (by kernel_rfl) (by kernel_rfl) (by kernel_rfl) (fun _ _ _ h => h) (Or.inr ⟨by rfl, rfl⟩) (by assumption) ?_)
        (try simp only [Act.put, List.setIfInBounds_toArray, List.set_cons_zero, List.set_cons_succ])
        refine wpAnyH_done (by kernel_rfl) ?_ _
        go_upto_region 11 with fail
        clear hRow HZ
        obtain ⟨cX, fX⟩ := hX.facts
        obtain ⟨cO, fO⟩ := hO.facts
        obtain ⟨c8, f8⟩ := h8.facts
        have lX := hX.lt
        have hqq := HQ0.out
        rcases HCASE.out with ⟨e1, rfl, hz3, hcl⟩ | ⟨hlt, rfl, rfl, hcl⟩ | ⟨hgt, rfl, rfl, hcl, hqs⟩
        · have f1 : (y.limit != s.limit) = false := by simpa using e1
          have f2 : ¬ y.limit < s.limit := by omega
          have f3 : ¬ s.limit < y.limit := by omega
          clear HCASE e1 hqq
          rcases hz3 with rfl | rfl | rfl
          all_goals
            go_wp2_with fail
            refine (HC.out _).mono ?_
            rintro e v5 ⟨rfl, hb⟩
            have hX := hX.lo hb
            have hO := hO.lo hb
            have h8 := h8.lo hb
            have hL := lo_trans hL hb
            clear hb cX fX cO fO c8 f8 lX
            obtain ⟨cX, fX⟩ := hX.facts
            obtain ⟨cO, fO⟩ := hO.facts
            obtain ⟨c8, f8⟩ := h8.facts
            have lX := hX.lt
            go_wp2_with fail
            clear cX fX cO fO c8 f8 lX
            have hX2 := put7 hX (.int .i64 y.limit) (.int .i64 y.least) (.int .i64 y.most) (.int .i64 y.low) (.int .i64 y.high) (.int .i64 y.quiet) (.int .i64 y.calm)
            have hO2 := far7 hO nox (.int .i64 y.limit) (.int .i64 y.least) (.int .i64 y.most) (.int .i64 y.low) (.int .i64 y.high) (.int .i64 y.quiet) (.int .i64 y.calm)
            have hL2 := lo7 hL lgx (.int .i64 y.limit) (.int .i64 y.least) (.int .i64 y.most) (.int .i64 y.low) (.int .i64 y.high) (.int .i64 y.quiet) (.int .i64 y.calm)
            go_roundw
            case rel => exact ⟨k + 1, y, since + 1, by omega, by go_num, by go_num, HYK.out, by rw [← HQ0.out]; exact HQ.out, by omega, by omega, by omega, hX2, hO2, hL2⟩
            case measure => simp [intOf]; omega

        · have f1 : (y.limit != s.limit) = true := by have h : ¬ y.limit = s.limit := by omega
                                                      simpa using h
          have f3 : ¬ s.limit < y.limit := by omega
          clear HCASE hqq
          go_wp2_with fail
          refine (HC.out _).mono ?_
          rintro e v5 ⟨rfl, hb⟩
          have hX := hX.lo hb
          have hO := hO.lo hb
          have h8 := h8.lo hb
          have hL := lo_trans hL hb
          clear hb cX fX cO fO c8 f8 lX
          obtain ⟨cX, fX⟩ := hX.facts
          obtain ⟨cO, fO⟩ := hO.facts
          obtain ⟨c8, f8⟩ := h8.facts
          have lX := hX.lt
          go_wp2_with fail
          clear cX fX cO fO c8 f8 lX
          have hX2 := put7 hX (.int .i64 y.limit) (.int .i64 y.least) (.int .i64 y.most) (.int .i64 y.low) (.int .i64 y.high) (.int .i64 y.quiet) (.int .i64 y.calm)
          have hO2 := far7 hO nox (.int .i64 y.limit) (.int .i64 y.least) (.int .i64 y.most) (.int .i64 y.low) (.int .i64 y.high) (.int .i64 y.quiet) (.int .i64 y.calm)
          have hL2 := lo7 hL lgx (.int .i64 y.limit) (.int .i64 y.least) (.int .i64 y.most) (.int .i64 y.low) (.int .i64 y.high) (.int .i64 y.quiet) (.int .i64 y.calm)
          go_roundw
          case rel => exact ⟨k + 1, y, since + 1, by omega, by go_num, by go_num, HYK.out, by rw [← HQ0.out]; exact HQ.out, by omega, by omega, by omega, hX2, hO2, hL2⟩
          case measure => simp [intOf]; omega

        · have f1 : (y.limit != s.limit) = true := by have h : ¬ y.limit = s.limit := by omega
                                                      simpa using h
          have f2 : ¬ y.limit < s.limit := by omega
          have f4 : ¬ since + 1 < s0.quiet := by omega
          have hcy : y.calm ≤ 0 := by omega
          clear HCASE hqq hqs hcl
          go_wp2_with fail
          refine (HC.out _).mono ?_
          rintro e v5 ⟨rfl, hb⟩
          have hX := hX.lo hb
          have hO := hO.lo hb
          have h8 := h8.lo hb
          have hL := lo_trans hL hb
          clear hb cX fX cO fO c8 f8 lX
          obtain ⟨cX, fX⟩ := hX.facts
          obtain ⟨cO, fO⟩ := hO.facts
          obtain ⟨c8, f8⟩ := h8.facts
          have lX := hX.lt
          go_wp2_with fail
          clear cX fX cO fO c8 f8 lX
          have hX2 := put7 hX (.int .i64 y.limit) (.int .i64 y.least) (.int .i64 y.most) (.int .i64 y.low) (.int .i64 y.high) (.int .i64 y.quiet) (.int .i64 y.calm)
          have hO2 := far7 hO nox (.int .i64 y.limit) (.int .i64 y.least) (.int .i64 y.most) (.int .i64 y.low) (.int .i64 y.high) (.int .i64 y.quiet) (.int .i64 y.calm)
          have hL2 := lo7 hL lgx (.int .i64 y.limit) (.int .i64 y.least) (.int .i64 y.most) (.int .i64 y.low) (.int .i64 y.high) (.int .i64 y.quiet) (.int .i64 y.calm)
          go_roundw
          case rel => exact ⟨k + 1, y, 0, by omega, by go_num, by go_num, HYK.out, by rw [← HQ0.out]; exact HQ.out, by omega, by omega, by omega, hX2, hO2, hL2⟩
          case measure => simp [intOf]; omega

      · have hkl' : ¬ (k : Int) < (len : Int) := by omega
        go_wp2_with fail
        refine (awake_any _).mono ?_
        rintro e wa ⟨rfl, hb⟩
        have hM := Lib.hid (lo_trans hL hb)
        clear hb
        go_wp2_with fail
        go_ret
        exact ⟨rfl, hM.out⟩

theorem walk_HystStays (s0_0 : Int) (s0_1 : Int) (s0_2 : Int) (s0_3 : Int) (s0_4 : Int) (s0_5 : Int) (s0_6 : Int) (a1 : Option Addr) (len1 cap1 : Nat) (xs1 : List Int) (w : World) (w0_0 : (Lit.int .i64 s0_0).wf = true) (w0_1 : (Lit.int .i64 s0_1).wf = true) (w0_2 : (Lit.int .i64 s0_2).wf = true) (w0_3 : (Lit.int .i64 s0_3).wf = true) (w0_4 : (Lit.int .i64 s0_4).wf = true) (w0_5 : (Lit.int .i64 s0_5).wf = true) (w0_6 : (Lit.int .i64 s0_6).wf = true) (w1 : IntRow .i64 w a1 len1 cap1 xs1) :
    Calls Try.prog 4 #[.agg #[.int .i64 s0_0, .int .i64 s0_1, .int .i64 s0_2, .int .i64 s0_3, .int .i64 s0_4, .int .i64 s0_5, .int .i64 s0_6], .slice a1 len1 cap1] w fun e w' => e = .returned (.bool true) ∧ Below w.heap.size w w' := stays_walk ⟨s0_0, s0_1, s0_2, s0_3, s0_4, s0_5, s0_6⟩ a1 len1 cap1 xs1 w w1
end Go.Proofs.Ytbjfdmgfmdccgaa
