import Derived.Test.YtdonnbfojcggmaaGreatPay
import Derived.Test.YtdonnbfojcggmaaGreatHead
import Derived.Test.YtdonnbfojcggmaaGreatOutq
namespace Go.Proofs.YtdonnbfojcggmaaGreat
open Go.RowKit
attribute [local go_sem ↓] Go.wp_at_zero Go.wp_at_succ

set_option maxRecDepth 100000 in
set_option maxHeartbeats 1600000 in
theorem payload_g (code : Int) (hc : code = 1 ∨ code = 4) (w : World) : Calls Tryz.prog 23 #[.agg #[.int .u8 7, .int .u8 0, .int .i64 0, .string ⟨#[]⟩, .int .i64 0, .int .i64 0, .bool false, .int .u8 0, .int .u32 code, .int .i64 0, .int .i64 0, .slice none 0 0]] w (BytesPost w 8) := by
  have HP : Hid (∀ w0, Calls Tryz.prog 44 #[.agg #[.int .u8 7, .int .u8 0, .int .i64 0, .string ⟨#[]⟩, .int .i64 0, .int .i64 0, .bool false, .int .u8 0, .int .u32 code, .int .i64 0, .int .i64 0, .slice none 0 0]] w0 (BoolPost w0 false)) := Lib.hid fun w0 => padded_any _ (by decide) _ _ _ _ _ _ _ _ _ _ _ w0
  have HW : Hid (∀ w0, Calls Tryz.prog 45 #[.agg #[.int .u8 7, .int .u8 0, .int .i64 0, .string ⟨#[]⟩, .int .i64 0, .int .i64 0, .bool false, .int .u8 0, .int .u32 code, .int .i64 0, .int .i64 0, .slice none 0 0]] w0 (BoolPost w0 false)) := Lib.hid fun w0 => weighed_any _ (by decide) _ _ _ _ _ _ _ _ _ _ _ w0
  have hA := Blk.new w 58 #[.int .u8 7, .int .u8 0, .int .i64 0, .string ⟨#[]⟩, .int .i64 0, .int .i64 0, .bool false, .int .u8 0, .int .u32 code, .int .i64 0, .int .i64 0, .slice none 0 0]
  have hL := lo_alloc (lo_refl w) (.cells #[.int .u8 7, .int .u8 0, .int .i64 0, .string ⟨#[]⟩, .int .i64 0, .int .i64 0, .bool false, .int .u8 0, .int .u32 code, .int .i64 0, .int .i64 0, .slice none 0 0] 58)
  obtain ⟨cA, fA⟩ := hA.facts
  obtain ⟨i0, hi, hz0, hz1, hz2⟩ := info_parts info5
  have hsz : w.heap.size + 1 ≤ (w.alloc (.cells #[.int .u8 7, .int .u8 0, .int .i64 0, .string ⟨#[]⟩, .int .i64 0, .int .i64 0, .bool false, .int .u8 0, .int .u32 code, .int .i64 0, .int .i64 0, .slice none 0 0] 58)).heap.size := by simp
  clear hc
  go_enter Tryz.func23, Tryz.ntmps23
  go_wp2_with fail
  refine (HP.out _).mono ?_
  rintro e w1 ⟨rfl, hb⟩
  clear cA fA
  replace hA := hA.lo hb
  replace hL := lo_trans hL hb
  clear hb
  obtain ⟨cA, fA⟩ := hA.facts
  go_wp2_with fail
  refine (HW.out _).mono ?_
  rintro e w1 ⟨rfl, hb⟩
  clear cA fA
  replace hA := hA.lo hb
  replace hL := lo_trans hL hb
  clear hb
  obtain ⟨cA, fA⟩ := hA.facts
  have hge : w.heap.size + 1 ≤ w1.heap.size := hA.lt
  clear hsz
  go_wp2_with fail
  refine (wide_any _ _).mono ?_
  rintro e _ ⟨b0, b1, b2, b3, rfl, rfl⟩
  clear cA fA
  go_upto_region 15 with (at_builtin; refine wp_append_box rfl _ _ 53 rfl (w.heap.size + 1) 5 i0 _ 1 1 Tryz.underlying53 hi hz0 hz1 hz2 rfl (by decide) _ 0 [] rfl (World.ownsRow_nil _ _ _ _) 4 #[.int .u8 b0, .int .u8 b1, .int .u8 b2, .int .u8 b3] rfl rfl (by intro u hu; simp at hu; rcases hu with rfl | rfl | rfl | rfl <;> rfl) (by decide) (by decide) hge ?_; intro v1 w3 hown3 hbel)
  simp only [Nat.zero_add, List.nil_append] at hown3
  replace hA := hA.below hbel (Nat.lt_succ_self _)
  replace hL := hL.trans (hbel.mono (Nat.le_succ _))
  replace hge := Nat.le_trans hge hbel.size
  clear hbel
  obtain ⟨cA, fA⟩ := hA.facts
  go_wp2_with fail
  refine (wide_any _ _).mono ?_
  rintro e _ ⟨d0, d1, d2, d3, rfl, rfl⟩
  clear cA fA
  go_upto_region 22 with (at_builtin; refine wp_append_box rfl _ _ 53 rfl (w.heap.size + 1) 5 i0 _ 1 1 Tryz.underlying53 hi hz0 hz1 hz2 rfl (by decide) _ 4 _ rfl hown3 4 #[.int .u8 d0, .int .u8 d1, .int .u8 d2, .int .u8 d3] rfl rfl (by intro u hu; simp at hu; rcases hu with rfl | rfl | rfl | rfl <;> rfl) (by decide) (by decide) hge ?_; intro v2 w4 hown4 hbel)
  replace hA := hA.below hbel (Nat.lt_succ_self _)
  replace hL := hL.trans (hbel.mono (Nat.le_succ _))
  clear hbel hown3
  have hown : w4.ownsRow w.heap.size 5 1 v2 8 ([b0, b1, b2, b3, d0, d1, d2, d3].map (Value.int .u8)) := own_mono hown4 (Nat.le_succ _)
  have HBL : Hid ([b0, b1, b2, b3, d0, d1, d2, d3].length = 8) := Lib.hid rfl
  generalize [b0, b1, b2, b3, d0, d1, d2, d3] = bs at hown HBL
  clear hown4 hge
  generalize w4 = w2 at hA hown hL ⊢
  refine wp_region_held_drew (S := (fun W => W.cell? ⟨w.heap.size, 3, none⟩ = some (.string ⟨#[]⟩) ∧ W.cell? ⟨w.heap.size, 4, none⟩ = some (.int .i64 0) ∧ w.heap.size < W.heap.size)) (by kernel_rfl) ?_ (fun hHeld => ?_)
  focus ((try dsimp only); (have r := hA.facts.1; exact ⟨r 3, r 4, hA.lt⟩))
  replace hA : Blk w2.drew _ _ _ := hA
  replace hown : w2.drew.ownsRow _ _ _ _ _ _ := hown
  replace hL := lo_drew hL
  generalize w2.drew = wd at hA hown hL hHeld ⊢
  first
  | (refine wpAnyH_take (i := 0) (oi := _) (v := ?_) (getop rfl) (by kernel_rfl) (by kernel_rfl) (by kernel_rfl) (fun _ _ _ h => h) (Or.inl ⟨by rfl, ?_⟩) (by assumption) ?_; rotate_left; focus (intro w hSw; (try dsimp only at hSw); go_simp; (try with_reducible rfl); done))
  | (refine wpAnyH_take (i := 0) (oi := _) (v := undef) (getop rfl) (by kernel_rfl) (by kernel_rfl) (by kernel_rfl) (fun _ _ _ h => h) (Or.inr ⟨by rfl, rfl⟩) (by assumption) ?_)
  (try simp only [Act.put, List.setIfInBounds_toArray, List.set_cons_zero, List.set_cons_succ])
  first
  | (refine wpAnyH_take (i := 1) (oi := _) (v := ?_) (getop rfl) (by kernel_rfl) (by kernel_rfl) (by kernel_rfl) (fun _ _ _ h => h) (Or.inl ⟨by rfl, ?_⟩) (by assumption) ?_; rotate_left; focus (intro w hSw; (try dsimp only at hSw); go_simp; (try with_reducible rfl); done))
  | (refine wpAnyH_take (i := 1) (oi := _) (v := undef) (getop rfl) (by kernel_rfl) (by kernel_rfl) (by kernel_rfl) (fun _ _ _ h => h) (Or.inr ⟨by rfl, rfl⟩) (by assumption) ?_)
  (try simp only [Act.put, List.setIfInBounds_toArray, List.set_cons_zero, List.set_cons_succ])
  first
  | (refine wpAnyH_take (i := 4) (oi := _) (v := ?_) (getop rfl) (by kernel_rfl) (by kernel_rfl) (by kernel_rfl) (fun _ _ _ h => h) (Or.inl ⟨by rfl, ?_⟩) (by assumption) ?_; rotate_left; focus (intro w hSw; (try dsimp only at hSw); go_simp; (try with_reducible rfl); done))
  | (refine wpAnyH_take (i := 4) (oi := _) (v := undef) (getop rfl) (by kernel_rfl) (by kernel_rfl) (by kernel_rfl) (fun _ _ _ h => h) (Or.inr ⟨by rfl, rfl⟩) (by assumption) ?_)
  (try simp only [Act.put, List.setIfInBounds_toArray, List.set_cons_zero, List.set_cons_succ])
  first
  | (refine wpAnyH_take (i := 2) (oi := _) (v := ?_) (getop rfl) (by kernel_rfl) (by kernel_rfl) (by kernel_rfl) (fun _ _ _ h => h) (Or.inl ⟨by rfl, ?_⟩) (by assumption) ?_; rotate_left; focus (intro w hSw; (try dsimp only at hSw); go_simp; (try with_reducible rfl); done))
  | (refine wpAnyH_take (i := 2) (oi := _) (v := undef) (getop rfl) (by kernel_rfl) (by kernel_rfl) (by kernel_rfl) (fun _ _ _ h => h) (Or.inr ⟨by rfl, rfl⟩) (by assumption) ?_)
  (try simp only [Act.put, List.setIfInBounds_toArray, List.set_cons_zero, List.set_cons_succ])
  first
  | (refine wpAnyH_take (i := 5) (oi := _) (v := ?_) (getop rfl) (by kernel_rfl) (by kernel_rfl) (by kernel_rfl) (fun _ _ _ h => h) (Or.inl ⟨by rfl, ?_⟩) (by assumption) ?_; rotate_left; focus (intro w hSw; (try dsimp only at hSw); go_simp; (try with_reducible rfl); done))
  | (refine wpAnyH_take (i := 5) (oi := _) (v := undef) (getop rfl) (by kernel_rfl) (by kernel_rfl) (by kernel_rfl) (fun _ _ _ h => h) (Or.inr ⟨by rfl, rfl⟩) (by assumption) ?_)
  (try simp only [Act.put, List.setIfInBounds_toArray, List.set_cons_zero, List.set_cons_succ])
  refine wpAnyH_ready (rs := [3]) (by kernel_rfl) (by simp) ?_
  refine (AllReadyH.cons (o := _) (getop rfl) (fun K hK => ?_) AllReadyH.nil)
  refine Hlp.step_append_string rfl (.tmp 84) (.tmp 86) 53 9 rfl w.heap.size 5 i0 Tryz.underlying53 Tryz.underlying9 hi hz0 hz1 hz2 _ _ _ rfl hown ⟨#[]⟩ rfl (by simp [ByteArray.size, maxLen]) (by simp [ByteArray.size]) hL.size ?_
  intro v4 wz0 hwn hgr _
  have hA2 := hA.grown hgr (blk_ne_own hown hA (by decide))
  replace hL := hL.grown hgr hL.size (fun k hk => (hown.lt k hk).1)
  clear hA hown hgr
  have hA := hA2
  have hown : wz0.ownsRow w.heap.size 5 1 v4 8 (bs.map (Value.int .u8)) := by simpa [Lib.strCells, ByteArray.size] using hwn
  clear hA2 hwn
  refine hK.out _ _ ?_ (fun hHeld3 => ?_)
  focus ((try dsimp only); (have r := hA.facts.1; exact ⟨r 3, r 4, hA.lt⟩))
  clear hK K hHeld
  have hHeld := hHeld3
  clear hHeld3
  (try simp only [Act.put, List.setIfInBounds_toArray, List.set_cons_zero, List.set_cons_succ])
  refine wpAnyH_ready (rs := [6]) (by kernel_rfl) (by simp) ?_
  refine (AllReadyH.cons (o := _) (getop rfl) (fun K hK => ?_) AllReadyH.nil)
  refine Hlp.step_append_zero rfl (.tmp 87) (.tmp 89) 53 3 rfl w.heap.size 5 .i64 i0 1 Tryz.underlying53 Tryz.underlying3 hi _ _ _ rfl hown rfl ?_
  refine hK.out _ _ ?_ (fun hHeld6 => ?_)
  focus ((try dsimp only); (have r := hA.facts.1; exact ⟨r 3, r 4, hA.lt⟩))
  clear hK K hHeld
  have hHeld := hHeld6
  clear hHeld6
  (try simp only [Act.put, List.setIfInBounds_toArray, List.set_cons_zero, List.set_cons_succ])
  first
  | (refine wpAnyH_take (i := 7) (oi := _) (v := ?_) (getop rfl) (by kernel_rfl) (by kernel_rfl) (by kernel_rfl) (fun _ _ _ h => h) (Or.inl ⟨by rfl, ?_⟩) (by assumption) ?_; rotate_left; focus (intro w hSw; (try dsimp only at hSw); go_simp; (try with_reducible rfl); done))
  | (refine wpAnyH_take (i := 7) (oi := _) (v := undef) (getop rfl) (by kernel_rfl) (by kernel_rfl) (by kernel_rfl) (fun _ _ _ h => h) (Or.inr ⟨by rfl, rfl⟩) (by assumption) ?_)
  (try simp only [Act.put, List.setIfInBounds_toArray, List.set_cons_zero, List.set_cons_succ])
  refine wpAnyH_done (by kernel_rfl) ?_ _
  have HR := Lib.hid (And.intro hown hL)
  clear hown hL hA hHeld
  go_wp2_with fail
  go_ret
  exact ⟨v4, bs, HBL.out, rfl, HR.out.1, HR.out.2⟩

end Go.Proofs.YtdonnbfojcggmaaGreat
