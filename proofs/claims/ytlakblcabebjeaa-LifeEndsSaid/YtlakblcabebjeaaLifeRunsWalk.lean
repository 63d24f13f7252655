import Derived.Test.YtlakblcabebjeaaLifeStepsWalk
import Derived.Laws.OwnMore
namespace Go.Proofs.Ytlakblcabebjeaa
open Go.RowKit
attribute [local go_sem ↓] Go.wp_at_zero Go.wp_at_succ

theorem run_code : ∀ (l : List (Int × Bool)) (s : Int) (i : Nat), 0 ≤ (runL l s i).2.1.1 ∧ (runL l s i).2.1.1 ≤ 7
  | [], _, _ => by simp [runL]
  | x :: t, s, i => by
    unfold runL
    split
    · exact run_code t _ _
    · exact step_code _ _ _
theorem info30 : (Try.prog.info? 30).map (fun i => (i.zero, i.size, i.bytes)) = some (some (.agg #[.int .u8 0, .bool false]), 2, 2) := by kernel_rfl
def cellsE (x : Int × Bool) : List Value := [Value.int .u8 x.1, Value.bool x.2]
theorem take_flat (l : List (Int × Bool)) (k : Nat) (h : k < l.length) : (l.take k).flatMap cellsE ++ cellsE l[k] = (l.take (k + 1)).flatMap cellsE := by
  rw [← List.take_append_getElem h, List.flatMap_append]
  simp
set_option maxRecDepth 100000 in
set_option maxHeartbeats 3200000 in
theorem walk_LifeRuns (a0 : Int) (a1 : Option Addr) (len1 cap1 : Nat) (xs1 : List (Int × Bool)) (w : World) (w0 : (Lit.int .u8 a0).wf = true) (w1 : AggRow 2 (fun x : Int × Bool => [Value.int .u8 x.1, Value.bool x.2]) (fun x : Int × Bool => (Lit.int .u8 x.1).wf = true) w a1 len1 cap1 xs1) :
    Calls Try.prog 4 #[.int .u8 a0, .slice a1 len1 cap1] w fun e w' => e = .returned (.bool true) ∧ Below w.heap.size w w' := by
  have b0 := bounds_u8 w0
  clear w0
  have HL := Lib.hid w1
  have hll := w1.1
  have hlm : len1 ≤ maxLen := Nat.le_trans w1.2.1 w1.2.2.1
  obtain ⟨i0, hi, hz0, hz1, hz2⟩ := info_parts info30
  clear w1
  by_cases hbig : len1 > 60
  · go_enter Try.func4, Try.ntmps4
    go_wp2_with fail
    refine (awake_any _).mono ?_
    rintro e w2 ⟨rfl, hb2⟩
    have hM := Lib.hid hb2
    go_wp2_with fail
    go_ret
    exact ⟨rfl, hM.out⟩
  · go_enter Try.func4, Try.ntmps4
    go_wp2_with fail
    go_loopw [5, 6] (fun v y wr => ∃ (k : Nat), k ≤ len1 ∧ y = .int .i64 k ∧ wr.ownsRow w.heap.size 30 2 v k ((xs1.take k).flatMap cellsE) ∧ Below w.heap.size w wr) (fun _ y _ => len1 - (intOf y).toNat)
    case atStart => exact ⟨0, by omega, rfl, World.ownsRow_nil _ _ _ _, lo_refl w⟩
    case round =>
      obtain ⟨k, hk, rfl, hown, hbel⟩ := hrel
      by_cases hkl : k < len1
      · obtain ⟨b, off, rfl, hlt, hc⟩ := (agg_lo HL.out hbel).2.2.2.2.1 k xs1[k] (List.getElem?_eq_getElem (by omega))
        have ht := take_flat xs1 k (by omega)
        generalize xs1[k] = x at hc ht
        obtain ⟨kd, n⟩ := x
        have hc0 := hc 0 _ rfl
        have hc1 := hc 1 _ rfl
        simp only [Nat.add_zero] at hc0 hc1
        have hkl' : (k : Int) < (len1 : Int) := by omega
        have hsz : w.heap.size ≤ wr.heap.size := hbel.size
        have HT := Lib.hid ht
        clear hc ht
        go_wp2_with (at_builtin; refine wp_append_box rfl _ _ 40 rfl w.heap.size 30 i0 _ 2 2 Try.underlying40 hi hz0 hz1 hz2 rfl (by decide) _ _ _ rfl hown 1 _ rfl rfl (by intro u hu; simp at hu; rcases hu with rfl | rfl <;> rfl) (by omega) (by decide) hsz ?_; intro v' w1 hown1 hbel1)
        go_roundw
        case rel =>
          refine ⟨k + 1, by omega, by go_num, ?_, hbel.trans hbel1⟩
          rw [← HT.out]
          exact hown1
        case measure => simp [intOf]; omega
      · have hkl' : ¬ (k : Int) < (len1 : Int) := by omega
        have hke : k = len1 := by omega
        subst hke
        have hfull : xs1.take k = xs1 := List.take_of_length_le (by omega)
        rw [hfull] at hown
        obtain ⟨A, cap, rfl, hcap, hnil⟩ := own_shape hown
        have hA : Evs wr A k cap xs1 := agg_own (C := cellsE) (fun _ => rfl) (by decide) hown HL.out.2.2.2.2.2
        have H1 := Lib.hid (run_any a0 A k cap xs1 wr b0.1 hA (by omega))
        have H2 := Lib.hid fun (w2 : World) (hb : Below wr.heap.size wr w2) => run_ref a0 a1 k cap1 xs1 w2 b0.1 (agg_lo HL.out (lo_trans hbel hb)) (by omega)
        have hr := run_code xs1 a0 0
        generalize runL xs1 a0 0 = R at H1 H2 hr
        obtain ⟨r1, ⟨c, va, vb⟩, n⟩ := R
        obtain ⟨hr1, hr2⟩ := hr
        simp only at hr1 hr2
        have H3 := Lib.hid (verdict_any c va vb hr1 hr2)
        have hbel' := Lib.hid hbel
        clear hbel hown hA hfull hcap hnil hlm HL
        go_wp2_with fail
        refine H1.out.mono ?_
        rintro e w2 ⟨rfl, hb1⟩
        have hV := Blk.new w2 27 #[.int .u32 c, .bool va, .bool vb]
        have hL2 := Lib.hid (lo_alloc (lo_trans hbel'.out hb1) (.cells #[.int .u32 c, .bool va, .bool vb] 27))
        have H5 := Lib.hid (H2.out (w2.alloc (.cells #[.int .u32 c, .bool va, .bool vb] 27)) (lo_alloc hb1 _))
        clear hb1 hbel' H2 H1
        go_wp2_with fail
        refine H5.out.mono ?_
        rintro e w3 ⟨rfl, hb3⟩
        have hV := (hV.lo hb3).alloc (.cells #[.int .i64 c, .bool va, .bool vb] 32)
        have hW := Blk.new w3 32 #[.int .i64 c, .bool va, .bool vb]
        have hL := Lib.hid (lo_alloc (lo_trans hL2.out hb3) (.cells #[.int .i64 c, .bool va, .bool vb] 32))
        clear hb3 hL2 H5
        go_upto_region 10 with fail
        generalize w2.heap.size = gv at *
        generalize w3.heap.size = gw at *
        generalize w3.alloc (.cells #[.int .i64 c, .bool va, .bool vb] 32) = w4 at *
        obtain ⟨cV, fV⟩ := hV.facts
        obtain ⟨cW, fW⟩ := hW.facts
        have lV := hV.lt
        have lW := hW.lt
        clear hV hW
        refine wp_region_held_drew (S := (fun W => W.cell? ⟨gv, 0, none⟩ = some (.int .u32 c) ∧ W.cell? ⟨gv, 1, none⟩ = some (.bool va) ∧ W.cell? ⟨gv, 2, none⟩ = some (.bool vb) ∧ W.cell? ⟨gw, 0, none⟩ = some (.int .i64 c) ∧ W.cell? ⟨gw, 1, none⟩ = some (.bool va) ∧ W.cell? ⟨gw, 2, none⟩ = some (.bool vb) ∧ gv < W.heap.size ∧ gw < W.heap.size)) (by kernel_rfl) ?_ (fun hHeld => ?_)
        focus ((try dsimp only); (first | exact keep6 hb1 (by assumption) | exact keep6 hb2 (by assumption) | (simp [*]; done) | go_keep))
        first
        | (refine wpAnyH_take (i := 0) (oi := _) (v := ?_) (getop rfl) (by kernel_rfl) (by kernel_rfl) (by kernel_rfl) (fun _ _ _ h => h) (Or.inl ⟨by rfl, ?_⟩) (by assumption) ?_; rotate_left; focus (intro w hSw; (try dsimp only at hSw); go_simp; (try with_reducible rfl); done))
        | (refine wpAnyH_take (i := 0) (oi := _) (v := undef) (getop rfl) (by kernel_rfl) (by kernel_rfl) (by kernel_rfl) (fun _ _ _ h => h) (Or.inr ⟨by rfl, rfl⟩) (by assumption) ?_)
        (try simp only [Act.put, List.setIfInBounds_toArray, List.set_cons_zero, List.set_cons_succ])
        first
        | (refine wpAnyH_take (i := 1) (oi := _) (v := ?_) (getop rfl) (by kernel_rfl) (by kernel_rfl) (by kernel_rfl) (fun _ _ _ h => h) (Or.inl ⟨by rfl, ?_⟩) (by assumption) ?_; rotate_left; focus (intro w hSw; (try dsimp only at hSw); go_simp; (try with_reducible rfl); done))
        | (refine wpAnyH_take (i := 1) (oi := _) (v := undef) (getop rfl) (by kernel_rfl) (by kernel_rfl) (by kernel_rfl) (fun _ _ _ h => h) (Or.inr ⟨by rfl, rfl⟩) (by assumption) ?_)
        (try simp only [Act.put, List.setIfInBounds_toArray, List.set_cons_zero, List.set_cons_succ])
        first
        | (refine wpAnyH_take (i := 2) (oi := _) (v := ?_) (getop rfl) (by kernel_rfl) (by kernel_rfl) (by kernel_rfl) (fun _ _ _ h => h) (Or.inl ⟨by rfl, ?_⟩) (by assumption) ?_; rotate_left; focus (intro w hSw; (try dsimp only at hSw); go_simp; (try with_reducible rfl); done))
        | (refine wpAnyH_take (i := 2) (oi := _) (v := undef) (getop rfl) (by kernel_rfl) (by kernel_rfl) (by kernel_rfl) (fun _ _ _ h => h) (Or.inr ⟨by rfl, rfl⟩) (by assumption) ?_)
        (try simp only [Act.put, List.setIfInBounds_toArray, List.set_cons_zero, List.set_cons_succ])
        first
        | (refine wpAnyH_take (i := 3) (oi := _) (v := ?_) (getop rfl) (by kernel_rfl) (by kernel_rfl) (by kernel_rfl) (fun _ _ _ h => h) (Or.inl ⟨by rfl, ?_⟩) (by assumption) ?_; rotate_left; focus (intro w hSw; (try dsimp only at hSw); go_simp; (try with_reducible rfl); done))
        | (refine wpAnyH_take (i := 3) (oi := _) (v := undef) (getop rfl) (by kernel_rfl) (by kernel_rfl) (by kernel_rfl) (fun _ _ _ h => h) (Or.inr ⟨by rfl, rfl⟩) (by assumption) ?_)
        (try simp only [Act.put, List.setIfInBounds_toArray, List.set_cons_zero, List.set_cons_succ])
        first
        | (refine wpAnyH_take (i := 4) (oi := _) (v := ?_) (getop rfl) (by kernel_rfl) (by kernel_rfl) (by kernel_rfl) (fun _ _ _ h => h) (Or.inl ⟨by rfl, ?_⟩) (by assumption) ?_; rotate_left; focus (intro w hSw; (try dsimp only at hSw); go_simp; (try with_reducible rfl); done))
        | (refine wpAnyH_take (i := 4) (oi := _) (v := undef) (getop rfl) (by kernel_rfl) (by kernel_rfl) (by kernel_rfl) (fun _ _ _ h => h) (Or.inr ⟨by rfl, rfl⟩) (by assumption) ?_)
        (try simp only [Act.put, List.setIfInBounds_toArray, List.set_cons_zero, List.set_cons_succ])
        first
        | (refine wpAnyH_take (i := 6) (oi := _) (v := ?_) (getop rfl) (by kernel_rfl) (by kernel_rfl) (by kernel_rfl) (fun _ _ _ h => h) (Or.inl ⟨by rfl, ?_⟩) (by assumption) ?_; rotate_left; focus (intro w hSw; (try dsimp only at hSw); go_simp; (try with_reducible rfl); done))
        | (refine wpAnyH_take (i := 6) (oi := _) (v := undef) (getop rfl) (by kernel_rfl) (by kernel_rfl) (by kernel_rfl) (fun _ _ _ h => h) (Or.inr ⟨by rfl, rfl⟩) (by assumption) ?_)
        (try simp only [Act.put, List.setIfInBounds_toArray, List.set_cons_zero, List.set_cons_succ])
        refine wpAnyH_ready (rs := [5]) (by kernel_rfl) (by simp) ?_
        refine AllReadyH.cons (o := _) (getop rfl) (fun K hK => ?_) AllReadyH.nil
        go_simp
        (refine (H3.out _).mono ?_; rintro e wx ⟨rfl, hb1⟩)
        refine hK.out _ _ ?_ (fun hHeld5 => ?_)
        focus ((try dsimp only); (first | exact keep6 hb1 (by assumption) | exact keep6 hb2 (by assumption) | (simp [*]; done) | go_keep))
        clear hK K hHeld
        have hHeld := hHeld5
        clear hHeld5
        (try simp only [Act.put, List.setIfInBounds_toArray, List.set_cons_zero, List.set_cons_succ])
        first
        | (refine wpAnyH_take (i := 7) (oi := _) (v := ?_) (getop rfl) (by kernel_rfl) (by kernel_rfl) (by kernel_rfl) (fun _ _ _ h => h) (Or.inl ⟨by rfl, ?_⟩) (by assumption) ?_; rotate_left; focus (intro w hSw; (try dsimp only at hSw); go_simp; (try with_reducible rfl); done))
        | (refine wpAnyH_take (i := 7) (oi := _) (v := undef) (getop rfl) (by kernel_rfl) (by kernel_rfl) (by kernel_rfl) (fun _ _ _ h => h) (Or.inr ⟨by rfl, rfl⟩) (by assumption) ?_)
        (try simp only [Act.put, List.setIfInBounds_toArray, List.set_cons_zero, List.set_cons_succ])
        first
        | (refine wpAnyH_take (i := 8) (oi := _) (v := ?_) (getop rfl) (by kernel_rfl) (by kernel_rfl) (by kernel_rfl) (fun _ _ _ h => h) (Or.inl ⟨by rfl, ?_⟩) (by assumption) ?_; rotate_left; focus (intro w hSw; (try dsimp only at hSw); go_simp; (try with_reducible rfl); done))
        | (refine wpAnyH_take (i := 8) (oi := _) (v := undef) (getop rfl) (by kernel_rfl) (by kernel_rfl) (by kernel_rfl) (fun _ _ _ h => h) (Or.inr ⟨by rfl, rfl⟩) (by assumption) ?_)
        (try simp only [Act.put, List.setIfInBounds_toArray, List.set_cons_zero, List.set_cons_succ])
        first
        | (refine wpAnyH_take (i := 9) (oi := _) (v := ?_) (getop rfl) (by kernel_rfl) (by kernel_rfl) (by kernel_rfl) (fun _ _ _ h => h) (Or.inl ⟨by rfl, ?_⟩) (by assumption) ?_; rotate_left; focus (intro w hSw; (try dsimp only at hSw); go_simp; (try with_reducible rfl); done))
        | (refine wpAnyH_take (i := 9) (oi := _) (v := undef) (getop rfl) (by kernel_rfl) (by kernel_rfl) (by kernel_rfl) (fun _ _ _ h => h) (Or.inr ⟨by rfl, rfl⟩) (by assumption) ?_)
        (try simp only [Act.put, List.setIfInBounds_toArray, List.set_cons_zero, List.set_cons_succ])
        first
        | (refine wpAnyH_take (i := 10) (oi := _) (v := ?_) (getop rfl) (by kernel_rfl) (by kernel_rfl) (by kernel_rfl) (fun _ _ _ h => h) (Or.inl ⟨by rfl, ?_⟩) (by assumption) ?_; rotate_left; focus (intro w hSw; (try dsimp only at hSw); go_simp; (try with_reducible rfl); done))
        | (refine wpAnyH_take (i := 10) (oi := _) (v := undef) (getop rfl) (by kernel_rfl) (by kernel_rfl) (by kernel_rfl) (fun _ _ _ h => h) (Or.inr ⟨by rfl, rfl⟩) (by assumption) ?_)
        (try simp only [Act.put, List.setIfInBounds_toArray, List.set_cons_zero, List.set_cons_succ])
        first
        | (refine wpAnyH_take (i := 11) (oi := _) (v := ?_) (getop rfl) (by kernel_rfl) (by kernel_rfl) (by kernel_rfl) (fun _ _ _ h => h) (Or.inl ⟨by rfl, ?_⟩) (by assumption) ?_; rotate_left; focus (intro w hSw; (try dsimp only at hSw); go_simp; (try with_reducible rfl); done))
        | (refine wpAnyH_take (i := 11) (oi := _) (v := undef) (getop rfl) (by kernel_rfl) (by kernel_rfl) (by kernel_rfl) (fun _ _ _ h => h) (Or.inr ⟨by rfl, rfl⟩) (by assumption) ?_)
        (try simp only [Act.put, List.setIfInBounds_toArray, List.set_cons_zero, List.set_cons_succ])
        first
        | (refine wpAnyH_take (i := 12) (oi := _) (v := ?_) (getop rfl) (by kernel_rfl) (by kernel_rfl) (by kernel_rfl) (fun _ _ _ h => h) (Or.inl ⟨by rfl, ?_⟩) (by assumption) ?_; rotate_left; focus (intro w hSw; (try dsimp only at hSw); go_simp; (try with_reducible rfl); done))
        | (refine wpAnyH_take (i := 12) (oi := _) (v := undef) (getop rfl) (by kernel_rfl) (by kernel_rfl) (by kernel_rfl) (fun _ _ _ h => h) (Or.inr ⟨by rfl, rfl⟩) (by assumption) ?_)
        (try simp only [Act.put, List.setIfInBounds_toArray, List.set_cons_zero, List.set_cons_succ])
        first
        | (refine wpAnyH_take (i := 13) (oi := _) (v := ?_) (getop rfl) (by kernel_rfl) (by kernel_rfl) (by kernel_rfl) (fun _ _ _ h => h) (Or.inl ⟨by rfl, ?_⟩) (by assumption) ?_; rotate_left; focus (intro w hSw; (try dsimp only at hSw); go_simp; (try with_reducible rfl); done))
        | (refine wpAnyH_take (i := 13) (oi := _) (v := undef) (getop rfl) (by kernel_rfl) (by kernel_rfl) (by kernel_rfl) (fun _ _ _ h => h) (Or.inr ⟨by rfl, rfl⟩) (by assumption) ?_)
        (try simp only [Act.put, List.setIfInBounds_toArray, List.set_cons_zero, List.set_cons_succ])
        first
        | (refine wpAnyH_take (i := 14) (oi := _) (v := ?_) (getop rfl) (by kernel_rfl) (by kernel_rfl) (by kernel_rfl) (fun _ _ _ h => h) (Or.inl ⟨by rfl, ?_⟩) (by assumption) ?_; rotate_left; focus (intro w hSw; (try dsimp only at hSw); go_simp; (try with_reducible rfl); done))
        | (refine wpAnyH_take (i := 14) (oi := _) (v := undef) (getop rfl) (by kernel_rfl) (by kernel_rfl) (by kernel_rfl) (fun _ _ _ h => h) (Or.inr ⟨by rfl, rfl⟩) (by assumption) ?_)
        (try simp only [Act.put, List.setIfInBounds_toArray, List.set_cons_zero, List.set_cons_succ])
        refine wpAnyH_ready (rs := [15]) (by kernel_rfl) (by simp) ?_
        refine AllReadyH.cons (o := _) (getop rfl) (fun K hK => ?_) AllReadyH.nil
        go_simp
        (refine (awake_any _).mono ?_; rintro e wx ⟨rfl, hb2⟩)
        refine hK.out _ _ ?_ (fun hHeld15 => ?_)
        focus ((try dsimp only); (first | exact keep6 hb1 (by assumption) | exact keep6 hb2 (by assumption) | (simp [*]; done) | go_keep))
        clear hK K hHeld
        have hHeld := hHeld15
        clear hHeld15
        (try simp only [Act.put, List.setIfInBounds_toArray, List.set_cons_zero, List.set_cons_succ])
        first
        | (refine wpAnyH_take (i := 16) (oi := _) (v := ?_) (getop rfl) (by kernel_rfl) (by kernel_rfl) (by kernel_rfl) (fun _ _ _ h => h) (Or.inl ⟨by rfl, ?_⟩) (by assumption) ?_; rotate_left; focus (intro w hSw; (try dsimp only at hSw); go_simp; (try with_reducible rfl); done))
        | (refine wpAnyH_take (i := 16) (oi := _) (v := undef) (getop rfl) (by kernel_rfl) (by kernel_rfl) (by kernel_rfl) (fun _ _ _ h => h) (Or.inr ⟨by rfl, rfl⟩) (by assumption) ?_)
        (try simp only [Act.put, List.setIfInBounds_toArray, List.set_cons_zero, List.set_cons_succ])
        first
        | (refine wpAnyH_take (i := 17) (oi := _) (v := ?_) (getop rfl) (by kernel_rfl) (by kernel_rfl) (by kernel_rfl) (fun _ _ _ h => h) (Or.inl ⟨by rfl, ?_⟩) (by assumption) ?_; rotate_left; focus (intro w hSw; (try dsimp only at hSw); go_simp; (try with_reducible rfl); done))
        | (refine wpAnyH_take (i := 17) (oi := _) (v := undef) (getop rfl) (by kernel_rfl) (by kernel_rfl) (by kernel_rfl) (fun _ _ _ h => h) (Or.inr ⟨by rfl, rfl⟩) (by assumption) ?_)
        (try simp only [Act.put, List.setIfInBounds_toArray, List.set_cons_zero, List.set_cons_succ])
        refine wpAnyH_done (by kernel_rfl) ?_ _
        have hM := lo_trans (lo_trans (lo_drew hL.out) hb1) hb2
        clear hb1 hb2
        go_wp2_with fail
        go_ret
        exact ⟨rfl, hM⟩
end Go.Proofs.Ytlakblcabebjeaa
