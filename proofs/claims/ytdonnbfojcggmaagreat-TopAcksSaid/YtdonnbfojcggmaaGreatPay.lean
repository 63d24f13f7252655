import Derived.Test.YtdonnbfojcggmaaGreatPay0
namespace Go.Proofs.YtdonnbfojcggmaaGreat
open Go.RowKit
attribute [local go_sem ↓] Go.wp_at_zero Go.wp_at_succ

/-- A row of bytes of a call's own. -/
def BytesPost (w : World) (m : Nat) (e : Ending) (w' : World) : Prop := ∃ u, ∃ bs : List Int, bs.length = m ∧ e = .returned u ∧ w'.ownsRow w.heap.size 5 1 u m (bs.map (Value.int .u8)) ∧ Below w.heap.size w w'
theorem own_cast {w : World} {base : Nat} {e : TypeId} {size : Nat} {v : Value} {n n' : Nat} {xs xs' : List Value} (h : w.ownsRow base e size v n xs) (hn : n = n') (hx : xs = xs') : w.ownsRow base e size v n' xs' := by
  subst hn hx
  exact h
set_option maxRecDepth 100000 in
set_option maxHeartbeats 1600000 in
theorem payload_h (fl : Int) (A : Option Addr) (n cap : Nat) (l : List (Int × Int)) (w : World) (hl : Prs w A n cap l) (hn : n ≤ 8) : Calls Tryz.prog 23 #[.agg #[.int .u8 4, .int .u8 fl, .int .i64 0, .string ⟨#[]⟩, .int .i64 0, .int .i64 0, .bool false, .int .u8 0, .int .u32 0, .int .i64 0, .int .i64 0, .slice A n cap]] w (BytesPost w (6 * n)) := by
  have HP : Hid (∀ w0, Calls Tryz.prog 44 #[.agg #[.int .u8 4, .int .u8 fl, .int .i64 0, .string ⟨#[]⟩, .int .i64 0, .int .i64 0, .bool false, .int .u8 0, .int .u32 0, .int .i64 0, .int .i64 0, .slice A n cap]] w0 (BoolPost w0 false)) := Lib.hid fun w0 => padded_any _ (by decide) _ _ _ _ _ _ _ _ _ _ _ w0
  have HW : Hid (∀ w0, Calls Tryz.prog 45 #[.agg #[.int .u8 4, .int .u8 fl, .int .i64 0, .string ⟨#[]⟩, .int .i64 0, .int .i64 0, .bool false, .int .u8 0, .int .u32 0, .int .i64 0, .int .i64 0, .slice A n cap]] w0 (BoolPost w0 false)) := Lib.hid fun w0 => weighed_any _ (by decide) _ _ _ _ _ _ _ _ _ _ _ w0
  have hA := Blk.new w 58 #[.int .u8 4, .int .u8 fl, .int .i64 0, .string ⟨#[]⟩, .int .i64 0, .int .i64 0, .bool false, .int .u8 0, .int .u32 0, .int .i64 0, .int .i64 0, .slice A n cap]
  have hL := lo_alloc (lo_refl w) (.cells #[.int .u8 4, .int .u8 fl, .int .i64 0, .string ⟨#[]⟩, .int .i64 0, .int .i64 0, .bool false, .int .u8 0, .int .u32 0, .int .i64 0, .int .i64 0, .slice A n cap] 58)
  obtain ⟨cA, fA⟩ := hA.facts
  obtain rfl := hl.1
  have HL := Lib.hid hl
  clear hl
  obtain ⟨i0, hi, hz0, hz1, hz2⟩ := info_parts info5
  go_enter Tryz.func23, Tryz.ntmps23
  go_wp2_with fail
  refine (HP.out _).mono ?_
  rintro e w1 ⟨rfl, hb⟩
  clear cA fA
  replace hA := hA.lo hb
  replace hL := lo_trans hL hb
  clear hb
  obtain ⟨cA, fA⟩ := hA.facts
  go_wp2_with fail
  refine (HW.out _).mono ?_
  rintro e w1 ⟨rfl, hb⟩
  clear cA fA
  replace hA := hA.lo hb
  replace hL := lo_trans hL hb
  clear hb
  obtain ⟨cA, fA⟩ := hA.facts
  go_upto_region 18 with fail
  clear cA fA
  go_loopw [3, 6, 65] (fun u _ y wr => ∃ (k : Nat) (bs : List Int), k ≤ l.length ∧ y = .int .i64 k ∧ bs.length = 6 * k ∧ Blk wr w.heap.size 58 #[.int .u8 4, .int .u8 fl, .int .i64 0, .string ⟨#[]⟩, .int .i64 0, .int .i64 0, .bool false, .int .u8 0, .int .u32 0, .int .i64 0, .int .i64 0, .slice A l.length cap] ∧ wr.ownsRow w.heap.size 5 1 u (6 * k) (bs.map (Value.int .u8)) ∧ Below w.heap.size w wr) (fun _ _ y _ => l.length - (intOf y).toNat)
  case atStart => exact ⟨0, [], by omega, rfl, rfl, hA, World.ownsRow_nil _ _ _ _, hL⟩
  case round =>
  clear hA hL
  obtain ⟨k, bs, hk, rfl, hbl, hA, hown, hL⟩ := hrel
  by_cases hkl : k < l.length
  · have hkl' : (k : Int) < (l.length : Int) := by omega
    obtain ⟨b, off, rfl, hlt, hc⟩ := HL.out.2.2.2.2.1 k l[k] (List.getElem?_eq_getElem (by omega))
    have hc0 := ((lo_cell hL).1 b _ hlt).trans (hc 0 _ rfl)
    have hc1 := ((lo_cell hL).1 b _ hlt).trans (hc 1 _ rfl)
    simp only [Nat.add_zero] at hc0 hc1
    have hxr := HL.out.2.2.2.2.2 l[k] (List.getElem_mem _)
    have hbs : b < wr.heap.size := Nat.lt_of_lt_of_le hlt hL.size
    generalize l[k] = x at hc0 hc1 hxr
    obtain ⟨id, v⟩ := x
    clear hc hlt
    obtain ⟨hid, hv⟩ := hxr
    dsimp only at hid hv hc0 hc1
    rcases hid with rfl | rfl
    · have hP := Blk.new wr 104 #[.int .u16 3, .int .u32 v]
      replace hA := hA.alloc (.cells #[.int .u16 3, .int .u32 v] 104)
      replace hown := hown.alloc (.cells #[.int .u16 3, .int .u32 v] 104)
      replace hL := lo_alloc hL (.cells #[.int .u16 3, .int .u32 v] 104)
      go_upto_region 20 with fail
      clear hc0 hc1 hv
      generalize wr.heap.size = gP at hP ⊢
      generalize wr.alloc (.cells #[.int .u16 3, .int .u32 v] 104) = w2 at hA hP hown hL ⊢
      refine wp_region_held_drew (S := (fun W => W.cell? ⟨gP, 0, none⟩ = some (.int .u16 3) ∧ W.cell? ⟨gP, 1, none⟩ = some (.int .u32 v) ∧ gP < W.heap.size)) (by kernel_rfl) ?_ (fun hHeld => ?_)
      focus ((try dsimp only); (have r := hP.facts.1; exact ⟨r 0, r 1, hP.lt⟩))
      replace hA : Blk w2.drew _ _ _ := hA
      replace hP : Blk w2.drew _ _ _ := hP
      replace hown : w2.drew.ownsRow _ _ _ _ _ _ := hown
      replace hL := lo_drew hL
      generalize w2.drew = wd at hA hP hown hL hHeld ⊢
      first
      | (refine wpAnyH_take (i := 0) (oi := _) (v := ?_) (getop rfl) (by kernel_rfl) (by kernel_rfl) (by kernel_rfl) (fun _ _ _ h => h) (Or.inl ⟨by rfl, ?_⟩) (by assumption) ?_; rotate_left; focus (intro w hSw; (try dsimp only at hSw); go_simp; (try with_reducible rfl); done))
      | (refine wpAnyH_take (i := 0) (oi := _) (v := undef) (getop rfl) (by kernel_rfl) (by kernel_rfl) (by kernel_rfl) (fun _ _ _ h => h) (Or.inr ⟨by rfl, rfl⟩) (by assumption) ?_)
      (try simp only [Act.put, List.setIfInBounds_toArray, List.set_cons_zero, List.set_cons_succ])
      first
      | (refine wpAnyH_take (i := 1) (oi := _) (v := ?_) (getop rfl) (by kernel_rfl) (by kernel_rfl) (by kernel_rfl) (fun _ _ _ h => h) (Or.inl ⟨by rfl, ?_⟩) (by assumption) ?_; rotate_left; focus (intro w hSw; (try dsimp only at hSw); go_simp; (try with_reducible rfl); done))
      | (refine wpAnyH_take (i := 1) (oi := _) (v := undef) (getop rfl) (by kernel_rfl) (by kernel_rfl) (by kernel_rfl) (fun _ _ _ h => h) (Or.inr ⟨by rfl, rfl⟩) (by assumption) ?_)
      (try simp only [Act.put, List.setIfInBounds_toArray, List.set_cons_zero, List.set_cons_succ])
      first
      | (refine wpAnyH_take (i := 5) (oi := _) (v := ?_) (getop rfl) (by kernel_rfl) (by kernel_rfl) (by kernel_rfl) (fun _ _ _ h => h) (Or.inl ⟨by rfl, ?_⟩) (by assumption) ?_; rotate_left; focus (intro w hSw; (try dsimp only at hSw); go_simp; (try with_reducible rfl); done))
      | (refine wpAnyH_take (i := 5) (oi := _) (v := undef) (getop rfl) (by kernel_rfl) (by kernel_rfl) (by kernel_rfl) (fun _ _ _ h => h) (Or.inr ⟨by rfl, rfl⟩) (by assumption) ?_)
      (try simp only [Act.put, List.setIfInBounds_toArray, List.set_cons_zero, List.set_cons_succ])
      first
      | (refine wpAnyH_take (i := 10) (oi := _) (v := ?_) (getop rfl) (by kernel_rfl) (by kernel_rfl) (by kernel_rfl) (fun _ _ _ h => h) (Or.inl ⟨by rfl, ?_⟩) (by assumption) ?_; rotate_left; focus (intro w hSw; (try dsimp only at hSw); go_simp; (try with_reducible rfl); done))
      | (refine wpAnyH_take (i := 10) (oi := _) (v := undef) (getop rfl) (by kernel_rfl) (by kernel_rfl) (by kernel_rfl) (fun _ _ _ h => h) (Or.inr ⟨by rfl, rfl⟩) (by assumption) ?_)
      (try simp only [Act.put, List.setIfInBounds_toArray, List.set_cons_zero, List.set_cons_succ])
      first
      | (refine wpAnyH_take (i := 2) (oi := _) (v := ?_) (getop rfl) (by kernel_rfl) (by kernel_rfl) (by kernel_rfl) (fun _ _ _ h => h) (Or.inl ⟨by rfl, ?_⟩) (by assumption) ?_; rotate_left; focus (intro w hSw; (try dsimp only at hSw); go_simp; (try with_reducible rfl); done))
      | (refine wpAnyH_take (i := 2) (oi := _) (v := undef) (getop rfl) (by kernel_rfl) (by kernel_rfl) (by kernel_rfl) (fun _ _ _ h => h) (Or.inr ⟨by rfl, rfl⟩) (by assumption) ?_)
      (try simp only [Act.put, List.setIfInBounds_toArray, List.set_cons_zero, List.set_cons_succ])
      first
      | (refine wpAnyH_take (i := 6) (oi := _) (v := ?_) (getop rfl) (by kernel_rfl) (by kernel_rfl) (by kernel_rfl) (fun _ _ _ h => h) (Or.inl ⟨by rfl, ?_⟩) (by assumption) ?_; rotate_left; focus (intro w hSw; (try dsimp only at hSw); go_simp; (try with_reducible rfl); done))
      | (refine wpAnyH_take (i := 6) (oi := _) (v := undef) (getop rfl) (by kernel_rfl) (by kernel_rfl) (by kernel_rfl) (fun _ _ _ h => h) (Or.inr ⟨by rfl, rfl⟩) (by assumption) ?_)
      (try simp only [Act.put, List.setIfInBounds_toArray, List.set_cons_zero, List.set_cons_succ])
      first
      | (refine wpAnyH_take (i := 11) (oi := _) (v := ?_) (getop rfl) (by kernel_rfl) (by kernel_rfl) (by kernel_rfl) (fun _ _ _ h => h) (Or.inl ⟨by rfl, ?_⟩) (by assumption) ?_; rotate_left; focus (intro w hSw; (try dsimp only at hSw); go_simp; (try with_reducible rfl); done))
      | (refine wpAnyH_take (i := 11) (oi := _) (v := undef) (getop rfl) (by kernel_rfl) (by kernel_rfl) (by kernel_rfl) (fun _ _ _ h => h) (Or.inr ⟨by rfl, rfl⟩) (by assumption) ?_)
      (try simp only [Act.put, List.setIfInBounds_toArray, List.set_cons_zero, List.set_cons_succ])
      first
      | (refine wpAnyH_take (i := 3) (oi := _) (v := ?_) (getop rfl) (by kernel_rfl) (by kernel_rfl) (by kernel_rfl) (fun _ _ _ h => h) (Or.inl ⟨by rfl, ?_⟩) (by assumption) ?_; rotate_left; focus (intro w hSw; (try dsimp only at hSw); go_simp; (try with_reducible rfl); done))
      | (refine wpAnyH_take (i := 3) (oi := _) (v := undef) (getop rfl) (by kernel_rfl) (by kernel_rfl) (by kernel_rfl) (fun _ _ _ h => h) (Or.inr ⟨by rfl, rfl⟩) (by assumption) ?_)
      (try simp only [Act.put, List.setIfInBounds_toArray, List.set_cons_zero, List.set_cons_succ])
      first
      | (refine wpAnyH_take (i := 7) (oi := _) (v := ?_) (getop rfl) (by kernel_rfl) (by kernel_rfl) (by kernel_rfl) (fun _ _ _ h => h) (Or.inl ⟨by rfl, ?_⟩) (by assumption) ?_; rotate_left; focus (intro w hSw; (try dsimp only at hSw); go_simp; (try with_reducible rfl); done))
      | (refine wpAnyH_take (i := 7) (oi := _) (v := undef) (getop rfl) (by kernel_rfl) (by kernel_rfl) (by kernel_rfl) (fun _ _ _ h => h) (Or.inr ⟨by rfl, rfl⟩) (by assumption) ?_)
      (try simp only [Act.put, List.setIfInBounds_toArray, List.set_cons_zero, List.set_cons_succ])
      first
      | (refine wpAnyH_take (i := 4) (oi := _) (v := ?_) (getop rfl) (by kernel_rfl) (by kernel_rfl) (by kernel_rfl) (fun _ _ _ h => h) (Or.inl ⟨by rfl, ?_⟩) (by assumption) ?_; rotate_left; focus (intro w hSw; (try dsimp only at hSw); go_simp; (try with_reducible rfl); done))
      | (refine wpAnyH_take (i := 4) (oi := _) (v := undef) (getop rfl) (by kernel_rfl) (by kernel_rfl) (by kernel_rfl) (fun _ _ _ h => h) (Or.inr ⟨by rfl, rfl⟩) (by assumption) ?_)
      (try simp only [Act.put, List.setIfInBounds_toArray, List.set_cons_zero, List.set_cons_succ])
      refine wpAnyH_ready (rs := [8]) (by kernel_rfl) (by simp) ?_
      refine (AllReadyH.cons (o := _) (getop rfl) (fun K hK => ?_) AllReadyH.nil)
      go_simp
      try simp only [show IntKind.u8.wrap 0 = 0 from by decide, show IntKind.u8.wrap 3 = 3 from by decide]
      have hN := Blk.new wd 5 #[.int .u8 0, .int .u8 3]
      replace hA := hA.alloc (.cells #[.int .u8 0, .int .u8 3] 5)
      replace hP := hP.alloc (.cells #[.int .u8 0, .int .u8 3] 5)
      replace hown := hown.alloc (.cells #[.int .u8 0, .int .u8 3] 5)
      replace hL := lo_alloc hL (.cells #[.int .u8 0, .int .u8 3] 5)
      generalize wd.heap.size = gN at hN ⊢
      generalize wd.alloc (.cells #[.int .u8 0, .int .u8 3] 5) = wz0 at hN hA hP hown hL ⊢
      refine hK.out _ _ ?_ (fun hHeld8 => ?_)
      focus ((try dsimp only); (have r := hP.facts.1; exact ⟨r 0, r 1, hP.lt⟩))
      clear hK K hHeld
      have hHeld := hHeld8
      clear hHeld8
      (try simp only [Act.put, List.setIfInBounds_toArray, List.set_cons_zero, List.set_cons_succ])
      refine wpAnyH_ready (rs := [9]) (by kernel_rfl) (by simp) ?_
      refine (AllReadyH.cons (o := _) (getop rfl) (fun K hK => ?_) AllReadyH.nil)
      refine step_append_lies wz0 rfl (.tmp 69) (.tmp 77) 53 rfl w.heap.size 5 i0 _ 1 1 Tryz.underlying53 hi hz0 hz1 hz2 rfl (by decide) _ _ _ rfl hown ⟨gN, 0, none⟩ 2 2 (#[.int .u8 0, .int .u8 3] : Array Value).toList rfl rfl (hN.at rfl) (by intro u hu; simp at hu; rcases hu with rfl | rfl <;> rfl) (by decide) (by unfold maxLen; omega) (by omega) hL.size _ rfl ?_
      intro gNx cNx wz1 hwn hgr hat hltx
      have hA2 := hA.grown hgr (blk_ne_own hown hA (by decide))
      have hP2 := hP.grown hgr (blk_ne_own hown hP (by decide))
      replace hL := hL.grown hgr hL.size (fun k hk => (hown.lt k hk).1)
      clear hA hP hown hgr hat hN hltx
      have hA := hA2
      have hP := hP2
      have hown := hwn
      clear hA2 hP2 hwn
      refine hK.out _ _ ?_ (fun hHeld9 => ?_)
      focus ((try dsimp only); (have r := hP.facts.1; exact ⟨r 0, r 1, hP.lt⟩))
      clear hK K hHeld
      have hHeld := hHeld9
      clear hHeld9
      (try simp only [Act.put, List.setIfInBounds_toArray, List.set_cons_zero, List.set_cons_succ])
      refine wpAnyH_ready (rs := [12]) (by kernel_rfl) (by simp) ?_
      refine (AllReadyH.cons (o := _) (getop rfl) (fun K hK => ?_) AllReadyH.nil)
      go_simp
      refine (wide_any _ _).mono ?_
      rintro e _ ⟨b0, b1, b2, b3, rfl, rfl⟩
      have hW := Blk.new wz1 5 #[.int .u8 b0, .int .u8 b1, .int .u8 b2, .int .u8 b3]
      replace hA := hA.alloc (.cells #[.int .u8 b0, .int .u8 b1, .int .u8 b2, .int .u8 b3] 5)
      replace hP := hP.alloc (.cells #[.int .u8 b0, .int .u8 b1, .int .u8 b2, .int .u8 b3] 5)
      replace hown := hown.alloc (.cells #[.int .u8 b0, .int .u8 b1, .int .u8 b2, .int .u8 b3] 5)
      replace hL := lo_alloc hL (.cells #[.int .u8 b0, .int .u8 b1, .int .u8 b2, .int .u8 b3] 5)
      generalize wz1.heap.size = gW at hW ⊢
      generalize wz1.alloc (.cells #[.int .u8 b0, .int .u8 b1, .int .u8 b2, .int .u8 b3] 5) = wz2 at hW hA hP hown hL ⊢
      refine hK.out _ _ ?_ (fun hHeld12 => ?_)
      focus ((try dsimp only); (have r := hP.facts.1; exact ⟨r 0, r 1, hP.lt⟩))
      clear hK K hHeld
      have hHeld := hHeld12
      clear hHeld12
      (try simp only [Act.put, List.setIfInBounds_toArray, List.set_cons_zero, List.set_cons_succ])
      refine wpAnyH_ready (rs := [13]) (by kernel_rfl) (by simp) ?_
      refine (AllReadyH.cons (o := _) (getop rfl) (fun K hK => ?_) AllReadyH.nil)
      refine step_append_lies wz2 rfl (.tmp 78) (.tmp 81) 53 rfl w.heap.size 5 i0 _ 1 1 Tryz.underlying53 hi hz0 hz1 hz2 rfl (by decide) _ _ _ rfl hown ⟨gW, 0, none⟩ 4 4 (#[.int .u8 b0, .int .u8 b1, .int .u8 b2, .int .u8 b3] : Array Value).toList rfl rfl (hW.at rfl) (by intro u hu; simp at hu; rcases hu with rfl | rfl | rfl | rfl <;> rfl) (by decide) (by unfold maxLen; omega) (by omega) hL.size _ rfl ?_
      intro gWx cWx wz3 hwn hgr hat hltx
      have hA2 := hA.grown hgr (blk_ne_own hown hA (by decide))
      have hP2 := hP.grown hgr (blk_ne_own hown hP (by decide))
      replace hL := hL.grown hgr hL.size (fun k hk => (hown.lt k hk).1)
      clear hA hP hown hgr hat hW hltx
      have hA := hA2
      have hP := hP2
      have hown := hwn
      clear hA2 hP2 hwn
      refine hK.out _ _ ?_ (fun hHeld13 => ?_)
      focus ((try dsimp only); (have r := hP.facts.1; exact ⟨r 0, r 1, hP.lt⟩))
      clear hK K hHeld
      have hHeld := hHeld13
      clear hHeld13
      (try simp only [Act.put, List.setIfInBounds_toArray, List.set_cons_zero, List.set_cons_succ])
      first
      | (refine wpAnyH_take (i := 14) (oi := _) (v := ?_) (getop rfl) (by kernel_rfl) (by kernel_rfl) (by kernel_rfl) (fun _ _ _ h => h) (Or.inl ⟨by rfl, ?_⟩) (by assumption) ?_; rotate_left; focus (intro w hSw; (try dsimp only at hSw); go_simp; (try with_reducible rfl); done))
      | (refine wpAnyH_take (i := 14) (oi := _) (v := undef) (getop rfl) (by kernel_rfl) (by kernel_rfl) (by kernel_rfl) (fun _ _ _ h => h) (Or.inr ⟨by rfl, rfl⟩) (by assumption) ?_)
      (try simp only [Act.put, List.setIfInBounds_toArray, List.set_cons_zero, List.set_cons_succ])
      refine wpAnyH_done (by kernel_rfl) ?_ _
      have HR := Lib.hid (And.intro hA (And.intro hown hL))
      clear hA hown hL hP hHeld
      go_wp2_with fail
      go_roundw
      case rel => exact ⟨k + 1, bs ++ [0, 3, b0, b1, b2, b3], by omega, by go_num, by simp [hbl]; omega, HR.out.1, own_cast HR.out.2.1 (by omega) (by simp), HR.out.2.2⟩
      case measure => simp [intOf]; omega
    · have hP := Blk.new wr 104 #[.int .u16 6, .int .u32 v]
      replace hA := hA.alloc (.cells #[.int .u16 6, .int .u32 v] 104)
      replace hown := hown.alloc (.cells #[.int .u16 6, .int .u32 v] 104)
      replace hL := lo_alloc hL (.cells #[.int .u16 6, .int .u32 v] 104)
      go_upto_region 20 with fail
      clear hc0 hc1 hv
      generalize wr.heap.size = gP at hP ⊢
      generalize wr.alloc (.cells #[.int .u16 6, .int .u32 v] 104) = w2 at hA hP hown hL ⊢
      refine wp_region_held_drew (S := (fun W => W.cell? ⟨gP, 0, none⟩ = some (.int .u16 6) ∧ W.cell? ⟨gP, 1, none⟩ = some (.int .u32 v) ∧ gP < W.heap.size)) (by kernel_rfl) ?_ (fun hHeld => ?_)
      focus ((try dsimp only); (have r := hP.facts.1; exact ⟨r 0, r 1, hP.lt⟩))
      replace hA : Blk w2.drew _ _ _ := hA
      replace hP : Blk w2.drew _ _ _ := hP
      replace hown : w2.drew.ownsRow _ _ _ _ _ _ := hown
      replace hL := lo_drew hL
      generalize w2.drew = wd at hA hP hown hL hHeld ⊢
      first
      | (refine wpAnyH_take (i := 0) (oi := _) (v := ?_) (getop rfl) (by kernel_rfl) (by kernel_rfl) (by kernel_rfl) (fun _ _ _ h => h) (Or.inl ⟨by rfl, ?_⟩) (by assumption) ?_; rotate_left; focus (intro w hSw; (try dsimp only at hSw); go_simp; (try with_reducible rfl); done))
      | (refine wpAnyH_take (i := 0) (oi := _) (v := undef) (getop rfl) (by kernel_rfl) (by kernel_rfl) (by kernel_rfl) (fun _ _ _ h => h) (Or.inr ⟨by rfl, rfl⟩) (by assumption) ?_)
      (try simp only [Act.put, List.setIfInBounds_toArray, List.set_cons_zero, List.set_cons_succ])
      first
      | (refine wpAnyH_take (i := 1) (oi := _) (v := ?_) (getop rfl) (by kernel_rfl) (by kernel_rfl) (by kernel_rfl) (fun _ _ _ h => h) (Or.inl ⟨by rfl, ?_⟩) (by assumption) ?_; rotate_left; focus (intro w hSw; (try dsimp only at hSw); go_simp; (try with_reducible rfl); done))
      | (refine wpAnyH_take (i := 1) (oi := _) (v := undef) (getop rfl) (by kernel_rfl) (by kernel_rfl) (by kernel_rfl) (fun _ _ _ h => h) (Or.inr ⟨by rfl, rfl⟩) (by assumption) ?_)
      (try simp only [Act.put, List.setIfInBounds_toArray, List.set_cons_zero, List.set_cons_succ])
      first
      | (refine wpAnyH_take (i := 5) (oi := _) (v := ?_) (getop rfl) (by kernel_rfl) (by kernel_rfl) (by kernel_rfl) (fun _ _ _ h => h) (Or.inl ⟨by rfl, ?_⟩) (by assumption) ?_; rotate_left; focus (intro w hSw; (try dsimp only at hSw); go_simp; (try with_reducible rfl); done))
      | (refine wpAnyH_take (i := 5) (oi := _) (v := undef) (getop rfl) (by kernel_rfl) (by kernel_rfl) (by kernel_rfl) (fun _ _ _ h => h) (Or.inr ⟨by rfl, rfl⟩) (by assumption) ?_)
      (try simp only [Act.put, List.setIfInBounds_toArray, List.set_cons_zero, List.set_cons_succ])
      first
      | (refine wpAnyH_take (i := 10) (oi := _) (v := ?_) (getop rfl) (by kernel_rfl) (by kernel_rfl) (by kernel_rfl) (fun _ _ _ h => h) (Or.inl ⟨by rfl, ?_⟩) (by assumption) ?_; rotate_left; focus (intro w hSw; (try dsimp only at hSw); go_simp; (try with_reducible rfl); done))
      | (refine wpAnyH_take (i := 10) (oi := _) (v := undef) (getop rfl) (by kernel_rfl) (by kernel_rfl) (by kernel_rfl) (fun _ _ _ h => h) (Or.inr ⟨by rfl, rfl⟩) (by assumption) ?_)
      (try simp only [Act.put, List.setIfInBounds_toArray, List.set_cons_zero, List.set_cons_succ])
      first
      | (refine wpAnyH_take (i := 2) (oi := _) (v := ?_) (getop rfl) (by kernel_rfl) (by kernel_rfl) (by kernel_rfl) (fun _ _ _ h => h) (Or.inl ⟨by rfl, ?_⟩) (by assumption) ?_; rotate_left; focus (intro w hSw; (try dsimp only at hSw); go_simp; (try with_reducible rfl); done))
      | (refine wpAnyH_take (i := 2) (oi := _) (v := undef) (getop rfl) (by kernel_rfl) (by kernel_rfl) (by kernel_rfl) (fun _ _ _ h => h) (Or.inr ⟨by rfl, rfl⟩) (by assumption) ?_)
      (try simp only [Act.put, List.setIfInBounds_toArray, List.set_cons_zero, List.set_cons_succ])
      first
      | (refine wpAnyH_take (i := 6) (oi := _) (v := ?_) (getop rfl) (by kernel_rfl) (by kernel_rfl) (by kernel_rfl) (fun _ _ _ h => h) (Or.inl ⟨by rfl, ?_⟩) (by assumption) ?_; rotate_left; focus (intro w hSw; (try dsimp only at hSw); go_simp; (try with_reducible rfl); done))
      | (refine wpAnyH_take (i := 6) (oi := _) (v := undef) (getop rfl) (by kernel_rfl) (by kernel_rfl) (by kernel_rfl) (fun _ _ _ h => h) (Or.inr ⟨by rfl, rfl⟩) (by assumption) ?_)
      (try simp only [Act.put, List.setIfInBounds_toArray, List.set_cons_zero, List.set_cons_succ])
      first
      | (refine wpAnyH_take (i := 11) (oi := _) (v := ?_) (getop rfl) (by kernel_rfl) (by kernel_rfl) (by kernel_rfl) (fun _ _ _ h => h) (Or.inl ⟨by rfl, ?_⟩) (by assumption) ?_; rotate_left; focus (intro w hSw; (try dsimp only at hSw); go_simp; (try with_reducible rfl); done))
      | (refine wpAnyH_take (i := 11) (oi := _) (v := undef) (getop rfl) (by kernel_rfl) (by kernel_rfl) (by kernel_rfl) (fun _ _ _ h => h) (Or.inr ⟨by rfl, rfl⟩) (by assumption) ?_)
      (try simp only [Act.put, List.setIfInBounds_toArray, List.set_cons_zero, List.set_cons_succ])
      first
      | (refine wpAnyH_take (i := 3) (oi := _) (v := ?_) (getop rfl) (by kernel_rfl) (by kernel_rfl) (by kernel_rfl) (fun _ _ _ h => h) (Or.inl ⟨by rfl, ?_⟩) (by assumption) ?_; rotate_left; focus (intro w hSw; (try dsimp only at hSw); go_simp; (try with_reducible rfl); done))
      | (refine wpAnyH_take (i := 3) (oi := _) (v := undef) (getop rfl) (by kernel_rfl) (by kernel_rfl) (by kernel_rfl) (fun _ _ _ h => h) (Or.inr ⟨by rfl, rfl⟩) (by assumption) ?_)
      (try simp only [Act.put, List.setIfInBounds_toArray, List.set_cons_zero, List.set_cons_succ])
      first
      | (refine wpAnyH_take (i := 7) (oi := _) (v := ?_) (getop rfl) (by kernel_rfl) (by kernel_rfl) (by kernel_rfl) (fun _ _ _ h => h) (Or.inl ⟨by rfl, ?_⟩) (by assumption) ?_; rotate_left; focus (intro w hSw; (try dsimp only at hSw); go_simp; (try with_reducible rfl); done))
      | (refine wpAnyH_take (i := 7) (oi := _) (v := undef) (getop rfl) (by kernel_rfl) (by kernel_rfl) (by kernel_rfl) (fun _ _ _ h => h) (Or.inr ⟨by rfl, rfl⟩) (by assumption) ?_)
      (try simp only [Act.put, List.setIfInBounds_toArray, List.set_cons_zero, List.set_cons_succ])
      first
      | (refine wpAnyH_take (i := 4) (oi := _) (v := ?_) (getop rfl) (by kernel_rfl) (by kernel_rfl) (by kernel_rfl) (fun _ _ _ h => h) (Or.inl ⟨by rfl, ?_⟩) (by assumption) ?_; rotate_left; focus (intro w hSw; (try dsimp only at hSw); go_simp; (try with_reducible rfl); done))
      | (refine wpAnyH_take (i := 4) (oi := _) (v := undef) (getop rfl) (by kernel_rfl) (by kernel_rfl) (by kernel_rfl) (fun _ _ _ h => h) (Or.inr ⟨by rfl, rfl⟩) (by assumption) ?_)
      (try simp only [Act.put, List.setIfInBounds_toArray, List.set_cons_zero, List.set_cons_succ])
      refine wpAnyH_ready (rs := [8]) (by kernel_rfl) (by simp) ?_
      refine (AllReadyH.cons (o := _) (getop rfl) (fun K hK => ?_) AllReadyH.nil)
      go_simp
      try simp only [show IntKind.u8.wrap 0 = 0 from by decide, show IntKind.u8.wrap 6 = 6 from by decide]
      have hN := Blk.new wd 5 #[.int .u8 0, .int .u8 6]
      replace hA := hA.alloc (.cells #[.int .u8 0, .int .u8 6] 5)
      replace hP := hP.alloc (.cells #[.int .u8 0, .int .u8 6] 5)
      replace hown := hown.alloc (.cells #[.int .u8 0, .int .u8 6] 5)
      replace hL := lo_alloc hL (.cells #[.int .u8 0, .int .u8 6] 5)
      generalize wd.heap.size = gN at hN ⊢
      generalize wd.alloc (.cells #[.int .u8 0, .int .u8 6] 5) = wz0 at hN hA hP hown hL ⊢
      refine hK.out _ _ ?_ (fun hHeld8 => ?_)
      focus ((try dsimp only); (have r := hP.facts.1; exact ⟨r 0, r 1, hP.lt⟩))
      clear hK K hHeld
      have hHeld := hHeld8
      clear hHeld8
      (try simp only [Act.put, List.setIfInBounds_toArray, List.set_cons_zero, List.set_cons_succ])
      refine wpAnyH_ready (rs := [9]) (by kernel_rfl) (by simp) ?_
      refine (AllReadyH.cons (o := _) (getop rfl) (fun K hK => ?_) AllReadyH.nil)
      refine step_append_lies wz0 rfl (.tmp 69) (.tmp 77) 53 rfl w.heap.size 5 i0 _ 1 1 Tryz.underlying53 hi hz0 hz1 hz2 rfl (by decide) _ _ _ rfl hown ⟨gN, 0, none⟩ 2 2 (#[.int .u8 0, .int .u8 6] : Array Value).toList rfl rfl (hN.at rfl) (by intro u hu; simp at hu; rcases hu with rfl | rfl <;> rfl) (by decide) (by unfold maxLen; omega) (by omega) hL.size _ rfl ?_
      intro gNx cNx wz1 hwn hgr hat hltx
      have hA2 := hA.grown hgr (blk_ne_own hown hA (by decide))
      have hP2 := hP.grown hgr (blk_ne_own hown hP (by decide))
      replace hL := hL.grown hgr hL.size (fun k hk => (hown.lt k hk).1)
      clear hA hP hown hgr hat hN hltx
      have hA := hA2
      have hP := hP2
      have hown := hwn
      clear hA2 hP2 hwn
      refine hK.out _ _ ?_ (fun hHeld9 => ?_)
      focus ((try dsimp only); (have r := hP.facts.1; exact ⟨r 0, r 1, hP.lt⟩))
      clear hK K hHeld
      have hHeld := hHeld9
      clear hHeld9
      (try simp only [Act.put, List.setIfInBounds_toArray, List.set_cons_zero, List.set_cons_succ])
      refine wpAnyH_ready (rs := [12]) (by kernel_rfl) (by simp) ?_
      refine (AllReadyH.cons (o := _) (getop rfl) (fun K hK => ?_) AllReadyH.nil)
      go_simp
      refine (wide_any _ _).mono ?_
      rintro e _ ⟨b0, b1, b2, b3, rfl, rfl⟩
      have hW := Blk.new wz1 5 #[.int .u8 b0, .int .u8 b1, .int .u8 b2, .int .u8 b3]
      replace hA := hA.alloc (.cells #[.int .u8 b0, .int .u8 b1, .int .u8 b2, .int .u8 b3] 5)
      replace hP := hP.alloc (.cells #[.int .u8 b0, .int .u8 b1, .int .u8 b2, .int .u8 b3] 5)
      replace hown := hown.alloc (.cells #[.int .u8 b0, .int .u8 b1, .int .u8 b2, .int .u8 b3] 5)
      replace hL := lo_alloc hL (.cells #[.int .u8 b0, .int .u8 b1, .int .u8 b2, .int .u8 b3] 5)
      generalize wz1.heap.size = gW at hW ⊢
      generalize wz1.alloc (.cells #[.int .u8 b0, .int .u8 b1, .int .u8 b2, .int .u8 b3] 5) = wz2 at hW hA hP hown hL ⊢
      refine hK.out _ _ ?_ (fun hHeld12 => ?_)
      focus ((try dsimp only); (have r := hP.facts.1; exact ⟨r 0, r 1, hP.lt⟩))
      clear hK K hHeld
      have hHeld := hHeld12
      clear hHeld12
      (try simp only [Act.put, List.setIfInBounds_toArray, List.set_cons_zero, List.set_cons_succ])
      refine wpAnyH_ready (rs := [13]) (by kernel_rfl) (by simp) ?_
      refine (AllReadyH.cons (o := _) (getop rfl) (fun K hK => ?_) AllReadyH.nil)
      refine step_append_lies wz2 rfl (.tmp 78) (.tmp 81) 53 rfl w.heap.size 5 i0 _ 1 1 Tryz.underlying53 hi hz0 hz1 hz2 rfl (by decide) _ _ _ rfl hown ⟨gW, 0, none⟩ 4 4 (#[.int .u8 b0, .int .u8 b1, .int .u8 b2, .int .u8 b3] : Array Value).toList rfl rfl (hW.at rfl) (by intro u hu; simp at hu; rcases hu with rfl | rfl | rfl | rfl <;> rfl) (by decide) (by unfold maxLen; omega) (by omega) hL.size _ rfl ?_
      intro gWx cWx wz3 hwn hgr hat hltx
      have hA2 := hA.grown hgr (blk_ne_own hown hA (by decide))
      have hP2 := hP.grown hgr (blk_ne_own hown hP (by decide))
      replace hL := hL.grown hgr hL.size (fun k hk => (hown.lt k hk).1)
      clear hA hP hown hgr hat hW hltx
      have hA := hA2
      have hP := hP2
      have hown := hwn
      clear hA2 hP2 hwn
      refine hK.out _ _ ?_ (fun hHeld13 => ?_)
      focus ((try dsimp only); (have r := hP.facts.1; exact ⟨r 0, r 1, hP.lt⟩))
      clear hK K hHeld
      have hHeld := hHeld13
      clear hHeld13
      (try simp only [Act.put, List.setIfInBounds_toArray, List.set_cons_zero, List.set_cons_succ])
      first
      | (refine wpAnyH_take (i := 14) (oi := _) (v := ?_) (getop rfl) (by kernel_rfl) (by kernel_rfl) (by kernel_rfl) (fun _ _ _ h => h) (Or.inl ⟨by rfl, ?_⟩) (by assumption) ?_; rotate_left; focus (intro w hSw; (try dsimp only at hSw); go_simp; (try with_reducible rfl); done))
      | (refine wpAnyH_take (i := 14) (oi := _) (v := undef) (getop rfl) (by kernel_rfl) (by kernel_rfl) (by kernel_rfl) (fun _ _ _ h => h) (Or.inr ⟨by rfl, rfl⟩) (by assumption) ?_)
      (try simp only [Act.put, List.setIfInBounds_toArray, List.set_cons_zero, List.set_cons_succ])
      refine wpAnyH_done (by kernel_rfl) ?_ _
      have HR := Lib.hid (And.intro hA (And.intro hown hL))
      clear hA hown hL hP hHeld
      go_wp2_with fail
      go_roundw
      case rel => exact ⟨k + 1, bs ++ [0, 6, b0, b1, b2, b3], by omega, by go_num, by simp [hbl]; omega, HR.out.1, own_cast HR.out.2.1 (by omega) (by simp), HR.out.2.2⟩
      case measure => simp [intOf]; omega
  · have hkl' : ¬ (k : Int) < (l.length : Int) := by omega
    obtain rfl : k = l.length := by omega
    have HBL := Lib.hid hbl
    clear hbl
    go_upto_region 22 with fail
    generalize wr = w2 at hA hown hL ⊢
    refine wp_region_held_drew (S := (fun W => W.cell? ⟨w.heap.size, 3, none⟩ = some (.string ⟨#[]⟩) ∧ W.cell? ⟨w.heap.size, 4, none⟩ = some (.int .i64 0) ∧ w.heap.size < W.heap.size)) (by kernel_rfl) ?_ (fun hHeld => ?_)
    focus ((try dsimp only); (have r := hA.facts.1; exact ⟨r 3, r 4, hA.lt⟩))
    replace hA : Blk w2.drew _ _ _ := hA
    replace hown : w2.drew.ownsRow _ _ _ _ _ _ := hown
    replace hL := lo_drew hL
    generalize w2.drew = wd at hA hown hL hHeld ⊢
    first
    | (refine wpAnyH_take (i := 0) (oi := _) (v := ?_) (getop rfl) (by kernel_rfl) (by kernel_rfl) (by kernel_rfl) (fun _ _ _ h => h) (Or.inl ⟨by rfl, ?_⟩) (by assumption) ?_; rotate_left; focus (intro w hSw; (try dsimp only at hSw); go_simp; (try with_reducible rfl); done))
    | (refine wpAnyH_take (i := 0) (oi := _) (v := undef) (getop rfl) (by kernel_rfl) (by kernel_rfl) (by kernel_rfl) (fun _ _ _ h => h) (Or.inr ⟨by rfl, rfl⟩) (by assumption) ?_)
    (try simp only [Act.put, List.setIfInBounds_toArray, List.set_cons_zero, List.set_cons_succ])
    first
    | (refine wpAnyH_take (i := 1) (oi := _) (v := ?_) (getop rfl) (by kernel_rfl) (by kernel_rfl) (by kernel_rfl) (fun _ _ _ h => h) (Or.inl ⟨by rfl, ?_⟩) (by assumption) ?_; rotate_left; focus (intro w hSw; (try dsimp only at hSw); go_simp; (try with_reducible rfl); done))
    | (refine wpAnyH_take (i := 1) (oi := _) (v := undef) (getop rfl) (by kernel_rfl) (by kernel_rfl) (by kernel_rfl) (fun _ _ _ h => h) (Or.inr ⟨by rfl, rfl⟩) (by assumption) ?_)
    (try simp only [Act.put, List.setIfInBounds_toArray, List.set_cons_zero, List.set_cons_succ])
    first
    | (refine wpAnyH_take (i := 4) (oi := _) (v := ?_) (getop rfl) (by kernel_rfl) (by kernel_rfl) (by kernel_rfl) (fun _ _ _ h => h) (Or.inl ⟨by rfl, ?_⟩) (by assumption) ?_; rotate_left; focus (intro w hSw; (try dsimp only at hSw); go_simp; (try with_reducible rfl); done))
    | (refine wpAnyH_take (i := 4) (oi := _) (v := undef) (getop rfl) (by kernel_rfl) (by kernel_rfl) (by kernel_rfl) (fun _ _ _ h => h) (Or.inr ⟨by rfl, rfl⟩) (by assumption) ?_)
    (try simp only [Act.put, List.setIfInBounds_toArray, List.set_cons_zero, List.set_cons_succ])
    first
    | (refine wpAnyH_take (i := 2) (oi := _) (v := ?_) (getop rfl) (by kernel_rfl) (by kernel_rfl) (by kernel_rfl) (fun _ _ _ h => h) (Or.inl ⟨by rfl, ?_⟩) (by assumption) ?_; rotate_left; focus (intro w hSw; (try dsimp only at hSw); go_simp; (try with_reducible rfl); done))
    | (refine wpAnyH_take (i := 2) (oi := _) (v := undef) (getop rfl) (by kernel_rfl) (by kernel_rfl) (by kernel_rfl) (fun _ _ _ h => h) (Or.inr ⟨by rfl, rfl⟩) (by assumption) ?_)
    (try simp only [Act.put, List.setIfInBounds_toArray, List.set_cons_zero, List.set_cons_succ])
    first
    | (refine wpAnyH_take (i := 5) (oi := _) (v := ?_) (getop rfl) (by kernel_rfl) (by kernel_rfl) (by kernel_rfl) (fun _ _ _ h => h) (Or.inl ⟨by rfl, ?_⟩) (by assumption) ?_; rotate_left; focus (intro w hSw; (try dsimp only at hSw); go_simp; (try with_reducible rfl); done))
    | (refine wpAnyH_take (i := 5) (oi := _) (v := undef) (getop rfl) (by kernel_rfl) (by kernel_rfl) (by kernel_rfl) (fun _ _ _ h => h) (Or.inr ⟨by rfl, rfl⟩) (by assumption) ?_)
    (try simp only [Act.put, List.setIfInBounds_toArray, List.set_cons_zero, List.set_cons_succ])
    refine wpAnyH_ready (rs := [3]) (by kernel_rfl) (by simp) ?_
    refine (AllReadyH.cons (o := _) (getop rfl) (fun K hK => ?_) AllReadyH.nil)
    refine Hlp.step_append_string rfl (.tmp 84) (.tmp 86) 53 9 rfl w.heap.size 5 i0 Tryz.underlying53 Tryz.underlying9 hi hz0 hz1 hz2 _ _ _ rfl hown ⟨#[]⟩ rfl (by simp [ByteArray.size, maxLen]; omega) (by simp [ByteArray.size]; omega) hL.size ?_
    intro v4 wz0 hwn hgr _
    have hA2 := hA.grown hgr (blk_ne_own hown hA (by decide))
    replace hL := hL.grown hgr hL.size (fun k hk => (hown.lt k hk).1)
    clear hA hown hgr
    have hA := hA2
    have hown : wz0.ownsRow w.heap.size 5 1 v4 (6 * l.length) (bs.map (Value.int .u8)) := by simpa [Lib.strCells, ByteArray.size] using hwn
    clear hA2 hwn
    refine hK.out _ _ ?_ (fun hHeld3 => ?_)
    focus ((try dsimp only); (have r := hA.facts.1; exact ⟨r 3, r 4, hA.lt⟩))
    clear hK K hHeld
    have hHeld := hHeld3
    clear hHeld3
    (try simp only [Act.put, List.setIfInBounds_toArray, List.set_cons_zero, List.set_cons_succ])
    refine wpAnyH_ready (rs := [6]) (by kernel_rfl) (by simp) ?_
    refine (AllReadyH.cons (o := _) (getop rfl) (fun K hK => ?_) AllReadyH.nil)
    refine Hlp.step_append_zero rfl (.tmp 87) (.tmp 89) 53 3 rfl w.heap.size 5 .i64 i0 1 Tryz.underlying53 Tryz.underlying3 hi _ _ _ rfl hown rfl ?_
    refine hK.out _ _ ?_ (fun hHeld6 => ?_)
    focus ((try dsimp only); (have r := hA.facts.1; exact ⟨r 3, r 4, hA.lt⟩))
    clear hK K hHeld
    have hHeld := hHeld6
    clear hHeld6
    (try simp only [Act.put, List.setIfInBounds_toArray, List.set_cons_zero, List.set_cons_succ])
    first
    | (refine wpAnyH_take (i := 7) (oi := _) (v := ?_) (getop rfl) (by kernel_rfl) (by kernel_rfl) (by kernel_rfl) (fun _ _ _ h => h) (Or.inl ⟨by rfl, ?_⟩) (by assumption) ?_; rotate_left; focus (intro w hSw; (try dsimp only at hSw); go_simp; (try with_reducible rfl); done))
    | (refine wpAnyH_take (i := 7) (oi := _) (v := undef) (getop rfl) (by kernel_rfl) (by kernel_rfl) (by kernel_rfl) (fun _ _ _ h => h) (Or.inr ⟨by rfl, rfl⟩) (by assumption) ?_)
    (try simp only [Act.put, List.setIfInBounds_toArray, List.set_cons_zero, List.set_cons_succ])
    refine wpAnyH_done (by kernel_rfl) ?_ _
    have HR := Lib.hid (And.intro hown hL)
    clear hown hL hA hHeld
    go_wp2_with fail
    go_ret
    exact ⟨v4, bs, HBL.out, rfl, HR.out.1, HR.out.2⟩
end Go.Proofs.YtdonnbfojcggmaaGreat
