import Derived.Test.YtdonnbfojcggmaaGreatPay
namespace Go.Proofs.YtdonnbfojcggmaaGreat
open Go.RowKit
attribute [local go_sem ↓] Go.wp_at_zero Go.wp_at_succ

/-- Nine bytes of a frame's head, in an array of the call's own. -/
def HeadPost (w : World) (Q : List Int → Prop) (e : Ending) (w' : World) : Prop := ∃ g, ∃ bs : List Int, bs.length = 9 ∧ Q bs ∧ w.heap.size ≤ g ∧ e = .returned (.tuple #[.slice (some ⟨g, 0, none⟩) 9 9, .int .i64 0]) ∧ Blk w' g 126 (bs.map (Value.int .u8)).toArray ∧ Below w.heap.size w w'
set_option maxRecDepth 100000 in
set_option maxHeartbeats 1600000 in
theorem hcheck_any (m ty fl : Int) (h : 0 ≤ m ∧ m ≤ 100) (w : World) : Calls Tryz.prog 47 #[.agg #[.int .i64 m, .int .u8 ty, .int .u8 fl, .int .i64 0]] w (IntPost w 0) := by
  have hA := Blk.new w 94 #[.int .i64 m, .int .u8 ty, .int .u8 fl, .int .i64 0]
  have hL := lo_alloc (lo_refl w) (.cells #[.int .i64 m, .int .u8 ty, .int .u8 fl, .int .i64 0] 94)
  have h1 : ¬ m < 0 := by omega
  have h2 : ¬ 16777215 < m := by omega
  obtain ⟨cA, fA⟩ := hA.facts
  clear h
  go_enter Tryz.func47, Tryz.ntmps47
  go_wp2_with fail
  go_ret
  exact ⟨rfl, hL⟩
set_option maxRecDepth 100000 in
set_option maxHeartbeats 1600000 in
theorem head_any (m ty fl : Int) (h : 0 ≤ m ∧ m ≤ 100) (w : World) : Calls Tryz.prog 24 #[.agg #[.int .i64 m, .int .u8 ty, .int .u8 fl, .int .i64 0]] w (HeadPost w fun bs => m = 0 → bs = [0, 0, 0, ty, fl, 0, 0, 0, 0]) := by
  have hA := Blk.new w 94 #[.int .i64 m, .int .u8 ty, .int .u8 fl, .int .i64 0]
  have hL := lo_alloc (lo_refl w) (.cells #[.int .i64 m, .int .u8 ty, .int .u8 fl, .int .i64 0] 94)
  have HC : Hid (∀ w0, Calls Tryz.prog 47 #[.agg #[.int .i64 m, .int .u8 ty, .int .u8 fl, .int .i64 0]] w0 (IntPost w0 0)) := Lib.hid fun w0 => hcheck_any m ty fl h w0
  obtain ⟨cA, fA⟩ := hA.facts
  clear h
  go_enter Tryz.func24, Tryz.ntmps24
  go_wp2_with fail
  refine (HC.out _).mono ?_
  rintro e w1 ⟨rfl, hb⟩
  clear cA fA
  replace hA := hA.lo hb
  replace hL := lo_trans hL hb
  clear hb
  obtain ⟨cA, fA⟩ := hA.facts
  go_upto_region 4 with fail
  go_quiet (fail)
  rename_i nq
  clear cA fA
  replace hA := hA.drewN nq
  replace hL := lo_drewN hL nq
  generalize w1.drewN nq = wd at hA hL ⊢
  have hge : w.heap.size ≤ wd.heap.size := hL.size
  have hN := Blk.new wd 126 #[.int .u8 0, .int .u8 0, .int .u8 0, .int .u8 0, .int .u8 0, .int .u8 0, .int .u8 0, .int .u8 0, .int .u8 0]
  obtain ⟨cA, fA⟩ := hA.facts
  obtain ⟨cN, fN⟩ := hN.facts
  have lA := hA.lt
  go_wp2_with fail
  have hX := Blk.new wd 126 #[.int .u8 (m % 4294967296 / 65536 % 256), .int .u8 (m % 4294967296 / 256 % 256), .int .u8 (m % 256), .int .u8 ty, .int .u8 fl, .int .u8 0, .int .u8 0, .int .u8 0, .int .u8 0]
  have hM := lo_alloc hL (.cells #[.int .u8 (m % 4294967296 / 65536 % 256), .int .u8 (m % 4294967296 / 256 % 256), .int .u8 (m % 256), .int .u8 ty, .int .u8 fl, .int .u8 0, .int .u8 0, .int .u8 0, .int .u8 0] 126)
  clear cA fA cN fN hA hN hL lA
  exact bodyPost_ret (v := .tuple #[.slice (some ⟨wd.heap.size, 0, none⟩) 9 9, .int .i64 0]) (by simp [results, Tryz.results24, go_sem]) rfl ⟨_, [m % 4294967296 / 65536 % 256, m % 4294967296 / 256 % 256, m % 256, ty, fl, 0, 0, 0, 0], rfl, fun h => by subst h; rfl, hge, rfl, hX, hM⟩
end Go.Proofs.YtdonnbfojcggmaaGreat
