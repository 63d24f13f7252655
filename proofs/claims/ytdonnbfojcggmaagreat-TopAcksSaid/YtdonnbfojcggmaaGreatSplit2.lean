import Derived.Test.YtdonnbfojcggmaaGreatSplit1
namespace Go.Proofs.YtdonnbfojcggmaaGreat
open Go.RowKit
attribute [local go_sem ↓] Go.wp_at_zero Go.wp_at_succ

theorem info99 : (Tryz.prog.info? 99).map (fun i => (i.zero, i.size, i.bytes)) = some (some (.agg #[.int .i64 0, .int .u8 0, .int .u8 0, .int .i64 0, .string ⟨#[]⟩]), 5, 40) := by kernel_rfl
/-- One frame taken off, nothing left. -/
def CutPost (w : World) (fl : Int) (e : Ending) (w' : World) : Prop := ∃ v, e = .returned (.tuple #[v, .string ⟨#[]⟩, .int .u32 0]) ∧ w'.ownsRow w.heap.size 99 5 v 1 [.int .i64 0, .int .u8 4, .int .u8 fl, .int .i64 0, .string ⟨#[]⟩] ∧ Below w.heap.size w w'
set_option maxRecDepth 100000 in
set_option maxHeartbeats 1600000 in
theorem cut_0 (w : World) : Calls Tryz.prog 50 #[.string (⟨#[0, 0, 0, 4, 0, 0, 0, 0, 0]⟩ : ByteArray)] w (CutPost w 0) := by
  have HZ : Hid (∀ w0, Calls Tryz.prog 79 #[.string ⟨#[]⟩] w0 (HeadIs w0 (.agg #[.int .i64 0, .int .u8 0, .int .u8 0, .int .i64 0]) (.bool false))) := Lib.hid fun w0 => shead_0 w0
  have HH : Hid (∀ w0, Calls Tryz.prog 79 #[.string (⟨#[0, 0, 0, 4, 0, 0, 0, 0, 0]⟩ : ByteArray)] w0 (HeadIs w0 (.agg #[.int .i64 0, .int .u8 4, .int .u8 0, .int .i64 0]) (.bool true))) := Lib.hid fun w0 => shead_09 w0
  obtain ⟨i0, hi, hz0, hz1, hz2⟩ := info_parts info99
  have hL := lo_refl w
  have hex : ByteArray.extract (⟨#[0, 0, 0, 4, 0, 0, 0, 0, 0]⟩ : ByteArray) 9 9 = ⟨#[]⟩ := by decide
  go_enter Tryz.func50, Tryz.ntmps50
  go_wp2_with fail
  go_loopw [0, 5, 6, 7, 8, 9] (fun s u _ _ _ _ wr => (s = .string (⟨#[0, 0, 0, 4, 0, 0, 0, 0, 0]⟩ : ByteArray) ∧ u = .slice none 0 0 ∨ s = .string ⟨#[]⟩ ∧ wr.ownsRow w.heap.size 99 5 u 1 [.int .i64 0, .int .u8 4, .int .u8 0, .int .i64 0, .string ⟨#[]⟩]) ∧ Below w.heap.size w wr) (fun s _ _ _ _ _ _ => match s with | .string b => b.size | _ => 0)
  case atStart => exact ⟨.inl ⟨rfl, rfl⟩, hL⟩
  case round =>
  clear hL
  obtain ⟨⟨rfl, rfl⟩ | ⟨rfl, hown⟩, hL⟩ := hrel
  · go_wp2_with fail
    refine (HH.out _).mono ?_
    rintro e w1 ⟨rfl, hb⟩
    replace hL := lo_trans hL hb
    clear hb
    have h6 := Blk.new w1 94 #[.int .i64 0, .int .u8 4, .int .u8 0, .int .i64 0]
    replace hL := lo_alloc hL (.cells #[.int .i64 0, .int .u8 4, .int .u8 0, .int .i64 0] 94)
    go_upto_region 3 with fail
    generalize w1.heap.size = g6 at h6 ⊢
    generalize w1.alloc (.cells #[.int .i64 0, .int .u8 4, .int .u8 0, .int .i64 0] 94) = w6 at h6 hL ⊢
    obtain ⟨c6, f6⟩ := h6.facts
    have l6 := h6.lt
    go_upto_region 10 with fail
    clear c6 f6 l6
    refine wp_region_held_drew (S := (fun W => W.cell? ⟨g6, 0, none⟩ = some (.int .i64 0) ∧ W.cell? ⟨g6, 1, none⟩ = some (.int .u8 4) ∧ W.cell? ⟨g6, 2, none⟩ = some (.int .u8 0) ∧ W.cell? ⟨g6, 3, none⟩ = some (.int .i64 0) ∧ g6 < W.heap.size)) (by kernel_rfl) ?_ (fun hHeld => ?_)
    focus ((try dsimp only); (have r := h6.facts.1; exact ⟨r 0, r 1, r 2, r 3, h6.lt⟩))
    replace h6 : Blk w6.drew _ _ _ := h6
    replace hL := lo_drew hL
    generalize w6.drew = wd at h6 hL hHeld ⊢
    first
    | (refine wpAnyH_take (i := 0) (oi := _) (v := ?_) (getop rfl) (by kernel_rfl) (by kernel_rfl) (by kernel_rfl) (fun _ _ _ h => h) (Or.inl ⟨by rfl, ?_⟩) (by assumption) ?_; rotate_left; focus (intro w hSw; (try dsimp only at hSw); go_simp; (try with_reducible rfl); done))
    | (refine wpAnyH_take (i := 0) (oi := _) (v := undef) (getop rfl) (by kernel_rfl) (by kernel_rfl) (by kernel_rfl) (fun _ _ _ h => h) (Or.inr ⟨by rfl, rfl⟩) (by assumption) ?_)
    (try simp only [Act.put, List.setIfInBounds_toArray, List.set_cons_zero, List.set_cons_succ])
    first
    | (refine wpAnyH_take (i := 1) (oi := _) (v := ?_) (getop rfl) (by kernel_rfl) (by kernel_rfl) (by kernel_rfl) (fun _ _ _ h => h) (Or.inl ⟨by rfl, ?_⟩) (by assumption) ?_; rotate_left; focus (intro w hSw; (try dsimp only at hSw); go_simp; (try with_reducible rfl); done))
    | (refine wpAnyH_take (i := 1) (oi := _) (v := undef) (getop rfl) (by kernel_rfl) (by kernel_rfl) (by kernel_rfl) (fun _ _ _ h => h) (Or.inr ⟨by rfl, rfl⟩) (by assumption) ?_)
    (try simp only [Act.put, List.setIfInBounds_toArray, List.set_cons_zero, List.set_cons_succ])
    first
    | (refine wpAnyH_take (i := 2) (oi := _) (v := ?_) (getop rfl) (by kernel_rfl) (by kernel_rfl) (by kernel_rfl) (fun _ _ _ h => h) (Or.inl ⟨by rfl, ?_⟩) (by assumption) ?_; rotate_left; focus (intro w hSw; (try dsimp only at hSw); go_simp; (try with_reducible rfl); done))
    | (refine wpAnyH_take (i := 2) (oi := _) (v := undef) (getop rfl) (by kernel_rfl) (by kernel_rfl) (by kernel_rfl) (fun _ _ _ h => h) (Or.inr ⟨by rfl, rfl⟩) (by assumption) ?_)
    (try simp only [Act.put, List.setIfInBounds_toArray, List.set_cons_zero, List.set_cons_succ])
    first
    | (refine wpAnyH_take (i := 3) (oi := _) (v := ?_) (getop rfl) (by kernel_rfl) (by kernel_rfl) (by kernel_rfl) (fun _ _ _ h => h) (Or.inl ⟨by rfl, ?_⟩) (by assumption) ?_; rotate_left; focus (intro w hSw; (try dsimp only at hSw); go_simp; (try with_reducible rfl); done))
    | (refine wpAnyH_take (i := 3) (oi := _) (v := undef) (getop rfl) (by kernel_rfl) (by kernel_rfl) (by kernel_rfl) (fun _ _ _ h => h) (Or.inr ⟨by rfl, rfl⟩) (by assumption) ?_)
    (try simp only [Act.put, List.setIfInBounds_toArray, List.set_cons_zero, List.set_cons_succ])
    first
    | (refine wpAnyH_take (i := 4) (oi := _) (v := ?_) (getop rfl) (by kernel_rfl) (by kernel_rfl) (by kernel_rfl) (fun _ _ _ h => h) (Or.inl ⟨by rfl, ?_⟩) (by assumption) ?_; rotate_left; focus (intro w hSw; (try dsimp only at hSw); go_simp; (try with_reducible rfl); done))
    | (refine wpAnyH_take (i := 4) (oi := _) (v := undef) (getop rfl) (by kernel_rfl) (by kernel_rfl) (by kernel_rfl) (fun _ _ _ h => h) (Or.inr ⟨by rfl, rfl⟩) (by assumption) ?_)
    (try simp only [Act.put, List.setIfInBounds_toArray, List.set_cons_zero, List.set_cons_succ])
    first
    | (refine wpAnyH_take (i := 5) (oi := _) (v := ?_) (getop rfl) (by kernel_rfl) (by kernel_rfl) (by kernel_rfl) (fun _ _ _ h => h) (Or.inl ⟨by rfl, ?_⟩) (by assumption) ?_; rotate_left; focus (intro w hSw; (try dsimp only at hSw); go_simp; (try with_reducible rfl); done))
    | (refine wpAnyH_take (i := 5) (oi := _) (v := undef) (getop rfl) (by kernel_rfl) (by kernel_rfl) (by kernel_rfl) (fun _ _ _ h => h) (Or.inr ⟨by rfl, rfl⟩) (by assumption) ?_)
    (try simp only [Act.put, List.setIfInBounds_toArray, List.set_cons_zero, List.set_cons_succ])
    refine wpAnyH_ready (rs := [6]) (by kernel_rfl) (by simp) ?_
    refine (AllReadyH.cons (o := _) (getop rfl) (fun K hK => ?_) AllReadyH.nil)
    go_simp
    rw [show ByteArray.empty = (⟨#[]⟩ : ByteArray) from rfl]
    have hN := Blk.new wd 99 #[.int .i64 0, .int .u8 4, .int .u8 0, .int .i64 0, .string ⟨#[]⟩]
    replace h6 := h6.alloc (.cells #[.int .i64 0, .int .u8 4, .int .u8 0, .int .i64 0, .string ⟨#[]⟩] 99)
    replace hL := lo_alloc hL (.cells #[.int .i64 0, .int .u8 4, .int .u8 0, .int .i64 0, .string ⟨#[]⟩] 99)
    generalize wd.heap.size = gN at hN ⊢
    generalize wd.alloc (.cells #[.int .i64 0, .int .u8 4, .int .u8 0, .int .i64 0, .string ⟨#[]⟩] 99) = wz0 at hN h6 hL ⊢
    refine hK.out _ _ ?_ (fun hHeld6 => ?_)
    focus ((try dsimp only); (have r := h6.facts.1; exact ⟨r 0, r 1, r 2, r 3, h6.lt⟩))
    clear hK K hHeld
    have hHeld := hHeld6
    clear hHeld6
    (try simp only [Act.put, List.setIfInBounds_toArray, List.set_cons_zero, List.set_cons_succ])
    refine wpAnyH_ready (rs := [7]) (by kernel_rfl) (by simp) ?_
    refine (AllReadyH.cons (o := _) (getop rfl) (fun K hK => ?_) AllReadyH.nil)
    refine step_append_lies wz0 rfl (.tmp 31) (.tmp 37) 95 rfl w.heap.size 99 i0 _ 5 40 Tryz.underlying95 hi hz0 hz1 hz2 rfl (by decide) _ _ _ rfl (World.ownsRow_nil _ _ _ _) ⟨gN, 0, none⟩ 1 1 (#[.int .i64 0, .int .u8 4, .int .u8 0, .int .i64 0, .string ⟨#[]⟩] : Array Value).toList rfl rfl (hN.at rfl) (by intro u hu; simp at hu; rcases hu with rfl | rfl | rfl | rfl | rfl <;> rfl) (by decide) (by unfold maxLen; omega) (by omega) hL.size _ rfl ?_
    intro g8 c8 wz1 hwn hgr hat hltx
    replace hgr : World.grownBy wz0 wz1 none := hgr
    replace h6 := h6.grown hgr (by simp)
    replace hL := hL.grown hgr hL.size (fun k hk => by cases hk)
    simp only [Nat.zero_add, List.nil_append] at hwn ⊢
    clear hgr hat hN hltx
    refine hK.out _ _ ?_ (fun hHeld7 => ?_)
    focus ((try dsimp only); (have r := h6.facts.1; exact ⟨r 0, r 1, r 2, r 3, h6.lt⟩))
    clear hK K hHeld
    have hHeld := hHeld7
    clear hHeld7
    (try simp only [Act.put, List.setIfInBounds_toArray, List.set_cons_zero, List.set_cons_succ])
    first
    | (refine wpAnyH_take (i := 8) (oi := _) (v := ?_) (getop rfl) (by kernel_rfl) (by kernel_rfl) (by kernel_rfl) (fun _ _ _ h => h) (Or.inl ⟨by rfl, ?_⟩) (by assumption) ?_; rotate_left; focus (intro w hSw; (try dsimp only at hSw); go_simp; (try with_reducible rfl); done))
    | (refine wpAnyH_take (i := 8) (oi := _) (v := undef) (getop rfl) (by kernel_rfl) (by kernel_rfl) (by kernel_rfl) (fun _ _ _ h => h) (Or.inr ⟨by rfl, rfl⟩) (by assumption) ?_)
    (try simp only [Act.put, List.setIfInBounds_toArray, List.set_cons_zero, List.set_cons_succ])
    refine wpAnyH_done (by kernel_rfl) ?_ _
    clear h6 hHeld
    go_wp2_with fail
    go_roundw
    case rel => exact ⟨.inr ⟨rfl, hwn⟩, hL⟩
    case measure => decide
  · obtain ⟨A2, cap2, rfl, _, _⟩ := own_shape hown
    go_wp2_with fail
    refine (HZ.out _).mono ?_
    rintro e w1 ⟨rfl, hb⟩
    replace hL := lo_trans hL hb
    replace hown := own_lo hown hb
    clear hb
    have h6 := Blk.new w1 94 #[.int .i64 0, .int .u8 0, .int .u8 0, .int .i64 0]
    replace hL := lo_alloc hL (.cells #[.int .i64 0, .int .u8 0, .int .u8 0, .int .i64 0] 94)
    replace hown := hown.alloc (.cells #[.int .i64 0, .int .u8 0, .int .u8 0, .int .i64 0] 94)
    go_wp2_with fail
    exact bodyPost_ret (v := .tuple #[.slice A2 1 cap2, .string ⟨#[]⟩, .int .u32 0]) (by simp [results, Tryz.results50, go_sem]) rfl ⟨_, rfl, hown, hL⟩
set_option maxRecDepth 100000 in
set_option maxHeartbeats 1600000 in
theorem cut_1 (w : World) : Calls Tryz.prog 50 #[.string (⟨#[0, 0, 0, 4, 1, 0, 0, 0, 0]⟩ : ByteArray)] w (CutPost w 1) := by
  have HZ : Hid (∀ w0, Calls Tryz.prog 79 #[.string ⟨#[]⟩] w0 (HeadIs w0 (.agg #[.int .i64 0, .int .u8 0, .int .u8 0, .int .i64 0]) (.bool false))) := Lib.hid fun w0 => shead_0 w0
  have HH : Hid (∀ w0, Calls Tryz.prog 79 #[.string (⟨#[0, 0, 0, 4, 1, 0, 0, 0, 0]⟩ : ByteArray)] w0 (HeadIs w0 (.agg #[.int .i64 0, .int .u8 4, .int .u8 1, .int .i64 0]) (.bool true))) := Lib.hid fun w0 => shead_19 w0
  obtain ⟨i0, hi, hz0, hz1, hz2⟩ := info_parts info99
  have hL := lo_refl w
  have hex : ByteArray.extract (⟨#[0, 0, 0, 4, 1, 0, 0, 0, 0]⟩ : ByteArray) 9 9 = ⟨#[]⟩ := by decide
  go_enter Tryz.func50, Tryz.ntmps50
  go_wp2_with fail
  go_loopw [0, 5, 6, 7, 8, 9] (fun s u _ _ _ _ wr => (s = .string (⟨#[0, 0, 0, 4, 1, 0, 0, 0, 0]⟩ : ByteArray) ∧ u = .slice none 0 0 ∨ s = .string ⟨#[]⟩ ∧ wr.ownsRow w.heap.size 99 5 u 1 [.int .i64 0, .int .u8 4, .int .u8 1, .int .i64 0, .string ⟨#[]⟩]) ∧ Below w.heap.size w wr) (fun s _ _ _ _ _ _ => match s with | .string b => b.size | _ => 0)
  case atStart => exact ⟨.inl ⟨rfl, rfl⟩, hL⟩
  case round =>
  clear hL
  obtain ⟨⟨rfl, rfl⟩ | ⟨rfl, hown⟩, hL⟩ := hrel
  · go_wp2_with fail
    refine (HH.out _).mono ?_
    rintro e w1 ⟨rfl, hb⟩
    replace hL := lo_trans hL hb
    clear hb
    have h6 := Blk.new w1 94 #[.int .i64 0, .int .u8 4, .int .u8 1, .int .i64 0]
    replace hL := lo_alloc hL (.cells #[.int .i64 0, .int .u8 4, .int .u8 1, .int .i64 0] 94)
    go_upto_region 3 with fail
    generalize w1.heap.size = g6 at h6 ⊢
    generalize w1.alloc (.cells #[.int .i64 0, .int .u8 4, .int .u8 1, .int .i64 0] 94) = w6 at h6 hL ⊢
    obtain ⟨c6, f6⟩ := h6.facts
    have l6 := h6.lt
    go_upto_region 10 with fail
    clear c6 f6 l6
    refine wp_region_held_drew (S := (fun W => W.cell? ⟨g6, 0, none⟩ = some (.int .i64 0) ∧ W.cell? ⟨g6, 1, none⟩ = some (.int .u8 4) ∧ W.cell? ⟨g6, 2, none⟩ = some (.int .u8 1) ∧ W.cell? ⟨g6, 3, none⟩ = some (.int .i64 0) ∧ g6 < W.heap.size)) (by kernel_rfl) ?_ (fun hHeld => ?_)
    focus ((try dsimp only); (have r := h6.facts.1; exact ⟨r 0, r 1, r 2, r 3, h6.lt⟩))
    replace h6 : Blk w6.drew _ _ _ := h6
    replace hL := lo_drew hL
    generalize w6.drew = wd at h6 hL hHeld ⊢
    first
    | (refine wpAnyH_take (i := 0) (oi := _) (v := ?_) (getop rfl) (by kernel_rfl) (by kernel_rfl) (by kernel_rfl) (fun _ _ _ h => h) (Or.inl ⟨by rfl, ?_⟩) (by assumption) ?_; rotate_left; focus (intro w hSw; (try dsimp only at hSw); go_simp; (try with_reducible rfl); done))
    | (refine wpAnyH_take (i := 0) (oi := _) (v := undef) (getop rfl) (by kernel_rfl) (by kernel_rfl) (by kernel_rfl) (fun _ _ _ h => h) (Or.inr ⟨by rfl, rfl⟩) (by assumption) ?_)
    (try simp only [Act.put, List.setIfInBounds_toArray, List.set_cons_zero, List.set_cons_succ])
    first
    | (refine wpAnyH_take (i := 1) (oi := _) (v := ?_) (getop rfl) (by kernel_rfl) (by kernel_rfl) (by kernel_rfl) (fun _ _ _ h => h) (Or.inl ⟨by rfl, ?_⟩) (by assumption) ?_; rotate_left; focus (intro w hSw; (try dsimp only at hSw); go_simp; (try with_reducible rfl); done))
    | (refine wpAnyH_take (i := 1) (oi := _) (v := undef) (getop rfl) (by kernel_rfl) (by kernel_rfl) (by kernel_rfl) (fun _ _ _ h => h) (Or.inr ⟨by rfl, rfl⟩) (by assumption) ?_)
    (try simp only [Act.put, List.setIfInBounds_toArray, List.set_cons_zero, List.set_cons_succ])
    first
    | (refine wpAnyH_take (i := 2) (oi := _) (v := ?_) (getop rfl) (by kernel_rfl) (by kernel_rfl) (by kernel_rfl) (fun _ _ _ h => h) (Or.inl ⟨by rfl, ?_⟩) (by assumption) ?_; rotate_left; focus (intro w hSw; (try dsimp only at hSw); go_simp; (try with_reducible rfl); done))
    | (refine wpAnyH_take (i := 2) (oi := _) (v := undef) (getop rfl) (by kernel_rfl) (by kernel_rfl) (by kernel_rfl) (fun _ _ _ h => h) (Or.inr ⟨by rfl, rfl⟩) (by assumption) ?_)
    (try simp only [Act.put, List.setIfInBounds_toArray, List.set_cons_zero, List.set_cons_succ])
    first
    | (refine wpAnyH_take (i := 3) (oi := _) (v := ?_) (getop rfl) (by kernel_rfl) (by kernel_rfl) (by kernel_rfl) (fun _ _ _ h => h) (Or.inl ⟨by rfl, ?_⟩) (by assumption) ?_; rotate_left; focus (intro w hSw; (try dsimp only at hSw); go_simp; (try with_reducible rfl); done))
    | (refine wpAnyH_take (i := 3) (oi := _) (v := undef) (getop rfl) (by kernel_rfl) (by kernel_rfl) (by kernel_rfl) (fun _ _ _ h => h) (Or.inr ⟨by rfl, rfl⟩) (by assumption) ?_)
    (try simp only [Act.put, List.setIfInBounds_toArray, List.set_cons_zero, List.set_cons_succ])
    first
    | (refine wpAnyH_take (i := 4) (oi := _) (v := ?_) (getop rfl) (by kernel_rfl) (by kernel_rfl) (by kernel_rfl) (fun _ _ _ h => h) (Or.inl ⟨by rfl, ?_⟩) (by assumption) ?_; rotate_left; focus (intro w hSw; (try dsimp only at hSw); go_simp; (try with_reducible rfl); done))
    | (refine wpAnyH_take (i := 4) (oi := _) (v := undef) (getop rfl) (by kernel_rfl) (by kernel_rfl) (by kernel_rfl) (fun _ _ _ h => h) (Or.inr ⟨by rfl, rfl⟩) (by assumption) ?_)
    (try simp only [Act.put, List.setIfInBounds_toArray, List.set_cons_zero, List.set_cons_succ])
    first
    | (refine wpAnyH_take (i := 5) (oi := _) (v := ?_) (getop rfl) (by kernel_rfl) (by kernel_rfl) (by kernel_rfl) (fun _ _ _ h => h) (Or.inl ⟨by rfl, ?_⟩) (by assumption) ?_; rotate_left; focus (intro w hSw; (try dsimp only at hSw); go_simp; (try with_reducible rfl); done))
    | (refine wpAnyH_take (i := 5) (oi := _) (v := undef) (getop rfl) (by kernel_rfl) (by kernel_rfl) (by kernel_rfl) (fun _ _ _ h => h) (Or.inr ⟨by rfl, rfl⟩) (by assumption) ?_)
    (try simp only [Act.put, List.setIfInBounds_toArray, List.set_cons_zero, List.set_cons_succ])
    refine wpAnyH_ready (rs := [6]) (by kernel_rfl) (by simp) ?_
    refine (AllReadyH.cons (o := _) (getop rfl) (fun K hK => ?_) AllReadyH.nil)
    go_simp
    rw [show ByteArray.empty = (⟨#[]⟩ : ByteArray) from rfl]
    have hN := Blk.new wd 99 #[.int .i64 0, .int .u8 4, .int .u8 1, .int .i64 0, .string ⟨#[]⟩]
    replace h6 := h6.alloc (.cells #[.int .i64 0, .int .u8 4, .int .u8 1, .int .i64 0, .string ⟨#[]⟩] 99)
    replace hL := lo_alloc hL (.cells #[.int .i64 0, .int .u8 4, .int .u8 1, .int .i64 0, .string ⟨#[]⟩] 99)
    generalize wd.heap.size = gN at hN ⊢
    generalize wd.alloc (.cells #[.int .i64 0, .int .u8 4, .int .u8 1, .int .i64 0, .string ⟨#[]⟩] 99) = wz0 at hN h6 hL ⊢
    refine hK.out _ _ ?_ (fun hHeld6 => ?_)
    focus ((try dsimp only); (have r := h6.facts.1; exact ⟨r 0, r 1, r 2, r 3, h6.lt⟩))
    clear hK K hHeld
    have hHeld := hHeld6
    clear hHeld6
    (try simp only [Act.put, List.setIfInBounds_toArray, List.set_cons_zero, List.set_cons_succ])
    refine wpAnyH_ready (rs := [7]) (by kernel_rfl) (by simp) ?_
    refine (AllReadyH.cons (o := _) (getop rfl) (fun K hK => ?_) AllReadyH.nil)
    refine step_append_lies wz0 rfl (.tmp 31) (.tmp 37) 95 rfl w.heap.size 99 i0 _ 5 40 Tryz.underlying95 hi hz0 hz1 hz2 rfl (by decide) _ _ _ rfl (World.ownsRow_nil _ _ _ _) ⟨gN, 0, none⟩ 1 1 (#[.int .i64 0, .int .u8 4, .int .u8 1, .int .i64 0, .string ⟨#[]⟩] : Array Value).toList rfl rfl (hN.at rfl) (by intro u hu; simp at hu; rcases hu with rfl | rfl | rfl | rfl | rfl <;> rfl) (by decide) (by unfold maxLen; omega) (by omega) hL.size _ rfl ?_
    intro g8 c8 wz1 hwn hgr hat hltx
    replace hgr : World.grownBy wz0 wz1 none := hgr
    replace h6 := h6.grown hgr (by simp)
    replace hL := hL.grown hgr hL.size (fun k hk => by cases hk)
    simp only [Nat.zero_add, List.nil_append] at hwn ⊢
    clear hgr hat hN hltx
    refine hK.out _ _ ?_ (fun hHeld7 => ?_)
    focus ((try dsimp only); (have r := h6.facts.1; exact ⟨r 0, r 1, r 2, r 3, h6.lt⟩))
    clear hK K hHeld
    have hHeld := hHeld7
    clear hHeld7
    (try simp only [Act.put, List.setIfInBounds_toArray, List.set_cons_zero, List.set_cons_succ])
    first
    | (refine wpAnyH_take (i := 8) (oi := _) (v := ?_) (getop rfl) (by kernel_rfl) (by kernel_rfl) (by kernel_rfl) (fun _ _ _ h => h) (Or.inl ⟨by rfl, ?_⟩) (by assumption) ?_; rotate_left; focus (intro w hSw; (try dsimp only at hSw); go_simp; (try with_reducible rfl); done))
    | (refine wpAnyH_take (i := 8) (oi := _) (v := undef) (getop rfl) (by kernel_rfl) (by kernel_rfl) (by kernel_rfl) (fun _ _ _ h => h) (Or.inr ⟨by rfl, rfl⟩) (by assumption) ?_)
    (try simp only [Act.put, List.setIfInBounds_toArray, List.set_cons_zero, List.set_cons_succ])
    refine wpAnyH_done (by kernel_rfl) ?_ _
    clear h6 hHeld
    go_wp2_with fail
    go_roundw
    case rel => exact ⟨.inr ⟨rfl, hwn⟩, hL⟩
    case measure => decide
  · obtain ⟨A2, cap2, rfl, _, _⟩ := own_shape hown
    go_wp2_with fail
    refine (HZ.out _).mono ?_
    rintro e w1 ⟨rfl, hb⟩
    replace hL := lo_trans hL hb
    replace hown := own_lo hown hb
    clear hb
    have h6 := Blk.new w1 94 #[.int .i64 0, .int .u8 0, .int .u8 0, .int .i64 0]
    replace hL := lo_alloc hL (.cells #[.int .i64 0, .int .u8 0, .int .u8 0, .int .i64 0] 94)
    replace hown := hown.alloc (.cells #[.int .i64 0, .int .u8 0, .int .u8 0, .int .i64 0] 94)
    go_wp2_with fail
    exact bodyPost_ret (v := .tuple #[.slice A2 1 cap2, .string ⟨#[]⟩, .int .u32 0]) (by simp [results, Tryz.results50, go_sem]) rfl ⟨_, rfl, hown, hL⟩
end Go.Proofs.YtdonnbfojcggmaaGreat
