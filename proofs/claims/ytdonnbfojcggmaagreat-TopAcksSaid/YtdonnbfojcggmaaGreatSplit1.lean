import Derived.Test.YtdonnbfojcggmaaGreatSplit0
namespace Go.Proofs.YtdonnbfojcggmaaGreat
open Go.RowKit
attribute [local go_sem ↓] Go.wp_at_zero Go.wp_at_succ

set_option maxRecDepth 100000 in
set_option maxHeartbeats 1600000 in
theorem scheck_0 (w : World) : Calls Tryz.prog 48 #[.agg #[.int .i64 0, .string ⟨#[]⟩, .bool false]] w (IntPost w 0) := by
  have H : Hid (∀ w0, Calls Tryz.prog 79 #[.string ⟨#[]⟩] w0 (HeadIs w0 (.agg #[.int .i64 0, .int .u8 0, .int .u8 0, .int .i64 0]) (.bool false))) := Lib.hid fun w0 => shead_0 w0
  have hA := Blk.new w 25 #[.int .i64 0, .string ⟨#[]⟩, .bool false]
  have hL := lo_alloc (lo_refl w) (.cells #[.int .i64 0, .string ⟨#[]⟩, .bool false] 25)
  obtain ⟨cA, fA⟩ := hA.facts
  go_enter Tryz.func48, Tryz.ntmps48
  go_wp2_with fail
  refine (H.out _).mono ?_
  rintro e w1 ⟨rfl, hb⟩
  clear cA fA
  replace hA := hA.lo hb
  replace hL := lo_trans hL hb
  clear hb
  go_upto_region 2 with fail
  replace hA := hA.alloc (.cells #[.int .i64 0, .int .u8 0, .int .u8 0, .int .i64 0] 94)
  replace hL := lo_alloc hL (.cells #[.int .i64 0, .int .u8 0, .int .u8 0, .int .i64 0] 94)
  obtain ⟨cA, fA⟩ := hA.facts
  go_wp2_with fail
  go_ret
  exact ⟨rfl, hL⟩
set_option maxRecDepth 100000 in
set_option maxHeartbeats 1600000 in
theorem scheck_24 (w : World) : Calls Tryz.prog 48 #[.agg #[.int .i64 24, .string ⟨#[]⟩, .bool false]] w (IntPost w 0) := by
  have H : Hid (∀ w0, Calls Tryz.prog 79 #[.string ⟨#[]⟩] w0 (HeadIs w0 (.agg #[.int .i64 0, .int .u8 0, .int .u8 0, .int .i64 0]) (.bool false))) := Lib.hid fun w0 => shead_0 w0
  have hA := Blk.new w 25 #[.int .i64 24, .string ⟨#[]⟩, .bool false]
  have hL := lo_alloc (lo_refl w) (.cells #[.int .i64 24, .string ⟨#[]⟩, .bool false] 25)
  obtain ⟨cA, fA⟩ := hA.facts
  go_enter Tryz.func48, Tryz.ntmps48
  go_wp2_with fail
  refine (H.out _).mono ?_
  rintro e w1 ⟨rfl, hb⟩
  clear cA fA
  replace hA := hA.lo hb
  replace hL := lo_trans hL hb
  clear hb
  go_upto_region 2 with fail
  replace hA := hA.alloc (.cells #[.int .i64 0, .int .u8 0, .int .u8 0, .int .i64 0] 94)
  replace hL := lo_alloc hL (.cells #[.int .i64 0, .int .u8 0, .int .u8 0, .int .i64 0] 94)
  obtain ⟨cA, fA⟩ := hA.facts
  go_wp2_with fail
  go_ret
  exact ⟨rfl, hL⟩
/-- The preface's bytes taken: all but one block is kept. -/
def GreetPost (w : World) (g : Nat) (v : Value) (e : Ending) (w' : World) : Prop := e = .returned (.tuple #[v, .bool true]) ∧ Blk w' g 25 #[.int .i64 24, .string ⟨#[]⟩, .bool false] ∧ Kept w w' g
set_option maxRecDepth 100000 in
set_option maxHeartbeats 1600000 in
theorem greet_24 (g b off cap : Nat) (w : World) (hA : Blk w g 25 #[.int .i64 24, .string ⟨#[]⟩, .bool false]) : Calls Tryz.prog 49 #[.pointer (some ⟨g, 0, none⟩), .slice (some ⟨b, off, none⟩) 9 cap] w (GreetPost w g (.slice (some ⟨b, off, none⟩) 9 cap)) := by
  have hL := lo_refl w
  obtain ⟨cA, fA⟩ := hA.facts
  have lA := hA.lt
  go_enter Tryz.func49, Tryz.ntmps49
  go_wp2_with fail
  clear cA fA lA
  go_loopw [7, 17] (fun _ y wr => y = .int .i64 0 ∧ Blk wr g 25 #[.int .i64 24, .string ⟨#[]⟩, .bool false] ∧ Below w.heap.size w wr) (fun _ y _ => 24 - (intOf y).toNat)
  case atStart => exact ⟨rfl, hA, hL⟩
  case round =>
  clear hA hL
  obtain ⟨rfl, hA, hL⟩ := hrel
  obtain ⟨cA, fA⟩ := hA.facts
  have lA := hA.lt
  go_wp2_with fail
  exact bodyPost_ret (v := .tuple #[.slice (some ⟨b, off, none⟩) 9 cap, .bool true]) (by simp [results, Tryz.results49, go_sem]) rfl ⟨rfl, by simpa using hA.set_ 0 (.int .i64 24), (Kept.of_lo g hL).set 0 _⟩
set_option maxRecDepth 100000 in
set_option maxHeartbeats 1600000 in
theorem greet_0 (g b off cap : Nat) (w : World) (hA : Blk w g 25 #[.int .i64 0, .string ⟨#[]⟩, .bool false]) (hcap : 33 ≤ cap) (hb : b < w.heap.size) (hc : ∀ j, j < 24 → w.cell? ⟨b, off + j, none⟩ = some (.int .u8 (([80, 82, 73, 32, 42, 32, 72, 84, 84, 80, 47, 50, 46, 48, 13, 10, 13, 10, 83, 77, 13, 10, 13, 10] : List Int).getD j 0))) : Calls Tryz.prog 49 #[.pointer (some ⟨g, 0, none⟩), .slice (some ⟨b, off, none⟩) 33 cap] w (GreetPost w g (.slice (some ⟨b, off + 24, none⟩) 9 (cap - 24))) := by
  have hL := lo_refl w
  have HC := Lib.hid hc
  have hc24 : ¬ cap = 24 := by omega
  have hcl : (33 : Int) ≤ (cap : Int) := by omega
  clear hc
  obtain ⟨cA, fA⟩ := hA.facts
  have lA := hA.lt
  go_enter Tryz.func49, Tryz.ntmps49
  go_wp2_with fail
  clear cA fA lA
  go_loopw [7, 17] (fun _ y wr => ∃ k : Nat, k ≤ 24 ∧ y = .int .i64 k ∧ Blk wr g 25 #[.int .i64 0, .string ⟨#[]⟩, .bool false] ∧ Below w.heap.size w wr) (fun _ y _ => 24 - (intOf y).toNat)
  case atStart => exact ⟨0, by omega, rfl, hA, hL⟩
  case round =>
  clear hA hL
  obtain ⟨k, hk, rfl, hA, hL⟩ := hrel
  have lb : b < wr.heap.size := Nat.lt_of_lt_of_le hb hL.size
  obtain ⟨cA, fA⟩ := hA.facts
  have lA := hA.lt
  rcases (by omega : k = 0 ∨ k = 1 ∨ k = 2 ∨ k = 3 ∨ k = 4 ∨ k = 5 ∨ k = 6 ∨ k = 7 ∨ k = 8 ∨ k = 9 ∨ k = 10 ∨ k = 11 ∨ k = 12 ∨ k = 13 ∨ k = 14 ∨ k = 15 ∨ k = 16 ∨ k = 17 ∨ k = 18 ∨ k = 19 ∨ k = 20 ∨ k = 21 ∨ k = 22 ∨ k = 23 ∨ k = 24) with rfl | rfl | rfl | rfl | rfl | rfl | rfl | rfl | rfl | rfl | rfl | rfl | rfl | rfl | rfl | rfl | rfl | rfl | rfl | rfl | rfl | rfl | rfl | rfl | rfl
  · have hcx := ((lo_cell hL).1 b _ hb).trans (HC.out 0 (by decide))
    replace hcx : wr.cell? ⟨b, off, none⟩ = some (.int .u8 80) := hcx
    go_upto_region 5 with fail
    go_quiet (fail)
    rename_i nq
    replace hA := hA.drewN nq
    replace hL := lo_drewN hL nq
    clear cA fA hcx
    go_wp2_with fail
    go_roundw
    case rel => exact ⟨1, by omega, by go_num, hA, hL⟩
    case measure => simp [intOf]
  · have hcx := ((lo_cell hL).1 b _ hb).trans (HC.out 1 (by decide))
    replace hcx : wr.cell? ⟨b, off + 1, none⟩ = some (.int .u8 82) := hcx
    go_upto_region 5 with fail
    go_quiet (fail)
    rename_i nq
    replace hA := hA.drewN nq
    replace hL := lo_drewN hL nq
    clear cA fA hcx
    go_wp2_with fail
    go_roundw
    case rel => exact ⟨2, by omega, by go_num, hA, hL⟩
    case measure => simp [intOf]
  · have hcx := ((lo_cell hL).1 b _ hb).trans (HC.out 2 (by decide))
    replace hcx : wr.cell? ⟨b, off + 2, none⟩ = some (.int .u8 73) := hcx
    go_upto_region 5 with fail
    go_quiet (fail)
    rename_i nq
    replace hA := hA.drewN nq
    replace hL := lo_drewN hL nq
    clear cA fA hcx
    go_wp2_with fail
    go_roundw
    case rel => exact ⟨3, by omega, by go_num, hA, hL⟩
    case measure => simp [intOf]
  · have hcx := ((lo_cell hL).1 b _ hb).trans (HC.out 3 (by decide))
    replace hcx : wr.cell? ⟨b, off + 3, none⟩ = some (.int .u8 32) := hcx
    go_upto_region 5 with fail
    go_quiet (fail)
    rename_i nq
    replace hA := hA.drewN nq
    replace hL := lo_drewN hL nq
    clear cA fA hcx
    go_wp2_with fail
    go_roundw
    case rel => exact ⟨4, by omega, by go_num, hA, hL⟩
    case measure => simp [intOf]
  · have hcx := ((lo_cell hL).1 b _ hb).trans (HC.out 4 (by decide))
    replace hcx : wr.cell? ⟨b, off + 4, none⟩ = some (.int .u8 42) := hcx
    go_upto_region 5 with fail
    go_quiet (fail)
    rename_i nq
    replace hA := hA.drewN nq
    replace hL := lo_drewN hL nq
    clear cA fA hcx
    go_wp2_with fail
    go_roundw
    case rel => exact ⟨5, by omega, by go_num, hA, hL⟩
    case measure => simp [intOf]
  · have hcx := ((lo_cell hL).1 b _ hb).trans (HC.out 5 (by decide))
    replace hcx : wr.cell? ⟨b, off + 5, none⟩ = some (.int .u8 32) := hcx
    go_upto_region 5 with fail
    go_quiet (fail)
    rename_i nq
    replace hA := hA.drewN nq
    replace hL := lo_drewN hL nq
    clear cA fA hcx
    go_wp2_with fail
    go_roundw
    case rel => exact ⟨6, by omega, by go_num, hA, hL⟩
    case measure => simp [intOf]
  · have hcx := ((lo_cell hL).1 b _ hb).trans (HC.out 6 (by decide))
    replace hcx : wr.cell? ⟨b, off + 6, none⟩ = some (.int .u8 72) := hcx
    go_upto_region 5 with fail
    go_quiet (fail)
    rename_i nq
    replace hA := hA.drewN nq
    replace hL := lo_drewN hL nq
    clear cA fA hcx
    go_wp2_with fail
    go_roundw
    case rel => exact ⟨7, by omega, by go_num, hA, hL⟩
    case measure => simp [intOf]
  · have hcx := ((lo_cell hL).1 b _ hb).trans (HC.out 7 (by decide))
    replace hcx : wr.cell? ⟨b, off + 7, none⟩ = some (.int .u8 84) := hcx
    go_upto_region 5 with fail
    go_quiet (fail)
    rename_i nq
    replace hA := hA.drewN nq
    replace hL := lo_drewN hL nq
    clear cA fA hcx
    go_wp2_with fail
    go_roundw
    case rel => exact ⟨8, by omega, by go_num, hA, hL⟩
    case measure => simp [intOf]
  · have hcx := ((lo_cell hL).1 b _ hb).trans (HC.out 8 (by decide))
    replace hcx : wr.cell? ⟨b, off + 8, none⟩ = some (.int .u8 84) := hcx
    go_upto_region 5 with fail
    go_quiet (fail)
    rename_i nq
    replace hA := hA.drewN nq
    replace hL := lo_drewN hL nq
    clear cA fA hcx
    go_wp2_with fail
    go_roundw
    case rel => exact ⟨9, by omega, by go_num, hA, hL⟩
    case measure => simp [intOf]
  · have hcx := ((lo_cell hL).1 b _ hb).trans (HC.out 9 (by decide))
    replace hcx : wr.cell? ⟨b, off + 9, none⟩ = some (.int .u8 80) := hcx
    go_upto_region 5 with fail
    go_quiet (fail)
    rename_i nq
    replace hA := hA.drewN nq
    replace hL := lo_drewN hL nq
    clear cA fA hcx
    go_wp2_with fail
    go_roundw
    case rel => exact ⟨10, by omega, by go_num, hA, hL⟩
    case measure => simp [intOf]
  · have hcx := ((lo_cell hL).1 b _ hb).trans (HC.out 10 (by decide))
    replace hcx : wr.cell? ⟨b, off + 10, none⟩ = some (.int .u8 47) := hcx
    go_upto_region 5 with fail
    go_quiet (fail)
    rename_i nq
    replace hA := hA.drewN nq
    replace hL := lo_drewN hL nq
    clear cA fA hcx
    go_wp2_with fail
    go_roundw
    case rel => exact ⟨11, by omega, by go_num, hA, hL⟩
    case measure => simp [intOf]
  · have hcx := ((lo_cell hL).1 b _ hb).trans (HC.out 11 (by decide))
    replace hcx : wr.cell? ⟨b, off + 11, none⟩ = some (.int .u8 50) := hcx
    go_upto_region 5 with fail
    go_quiet (fail)
    rename_i nq
    replace hA := hA.drewN nq
    replace hL := lo_drewN hL nq
    clear cA fA hcx
    go_wp2_with fail
    go_roundw
    case rel => exact ⟨12, by omega, by go_num, hA, hL⟩
    case measure => simp [intOf]
  · have hcx := ((lo_cell hL).1 b _ hb).trans (HC.out 12 (by decide))
    replace hcx : wr.cell? ⟨b, off + 12, none⟩ = some (.int .u8 46) := hcx
    go_upto_region 5 with fail
    go_quiet (fail)
    rename_i nq
    replace hA := hA.drewN nq
    replace hL := lo_drewN hL nq
    clear cA fA hcx
    go_wp2_with fail
    go_roundw
    case rel => exact ⟨13, by omega, by go_num, hA, hL⟩
    case measure => simp [intOf]
  · have hcx := ((lo_cell hL).1 b _ hb).trans (HC.out 13 (by decide))
    replace hcx : wr.cell? ⟨b, off + 13, none⟩ = some (.int .u8 48) := hcx
    go_upto_region 5 with fail
    go_quiet (fail)
    rename_i nq
    replace hA := hA.drewN nq
    replace hL := lo_drewN hL nq
    clear cA fA hcx
    go_wp2_with fail
    go_roundw
    case rel => exact ⟨14, by omega, by go_num, hA, hL⟩
    case measure => simp [intOf]
  · have hcx := ((lo_cell hL).1 b _ hb).trans (HC.out 14 (by decide))
    replace hcx : wr.cell? ⟨b, off + 14, none⟩ = some (.int .u8 13) := hcx
    go_upto_region 5 with fail
    go_quiet (fail)
    rename_i nq
    replace hA := hA.drewN nq
    replace hL := lo_drewN hL nq
    clear cA fA hcx
    go_wp2_with fail
    go_roundw
    case rel => exact ⟨15, by omega, by go_num, hA, hL⟩
    case measure => simp [intOf]
  · have hcx := ((lo_cell hL).1 b _ hb).trans (HC.out 15 (by decide))
    replace hcx : wr.cell? ⟨b, off + 15, none⟩ = some (.int .u8 10) := hcx
    go_upto_region 5 with fail
    go_quiet (fail)
    rename_i nq
    replace hA := hA.drewN nq
    replace hL := lo_drewN hL nq
    clear cA fA hcx
    go_wp2_with fail
    go_roundw
    case rel => exact ⟨16, by omega, by go_num, hA, hL⟩
    case measure => simp [intOf]
  · have hcx := ((lo_cell hL).1 b _ hb).trans (HC.out 16 (by decide))
    replace hcx : wr.cell? ⟨b, off + 16, none⟩ = some (.int .u8 13) := hcx
    go_upto_region 5 with fail
    go_quiet (fail)
    rename_i nq
    replace hA := hA.drewN nq
    replace hL := lo_drewN hL nq
    clear cA fA hcx
    go_wp2_with fail
    go_roundw
    case rel => exact ⟨17, by omega, by go_num, hA, hL⟩
    case measure => simp [intOf]
  · have hcx := ((lo_cell hL).1 b _ hb).trans (HC.out 17 (by decide))
    replace hcx : wr.cell? ⟨b, off + 17, none⟩ = some (.int .u8 10) := hcx
    go_upto_region 5 with fail
    go_quiet (fail)
    rename_i nq
    replace hA := hA.drewN nq
    replace hL := lo_drewN hL nq
    clear cA fA hcx
    go_wp2_with fail
    go_roundw
    case rel => exact ⟨18, by omega, by go_num, hA, hL⟩
    case measure => simp [intOf]
  · have hcx := ((lo_cell hL).1 b _ hb).trans (HC.out 18 (by decide))
    replace hcx : wr.cell? ⟨b, off + 18, none⟩ = some (.int .u8 83) := hcx
    go_upto_region 5 with fail
    go_quiet (fail)
    rename_i nq
    replace hA := hA.drewN nq
    replace hL := lo_drewN hL nq
    clear cA fA hcx
    go_wp2_with fail
    go_roundw
    case rel => exact ⟨19, by omega, by go_num, hA, hL⟩
    case measure => simp [intOf]
  · have hcx := ((lo_cell hL).1 b _ hb).trans (HC.out 19 (by decide))
    replace hcx : wr.cell? ⟨b, off + 19, none⟩ = some (.int .u8 77) := hcx
    go_upto_region 5 with fail
    go_quiet (fail)
    rename_i nq
    replace hA := hA.drewN nq
    replace hL := lo_drewN hL nq
    clear cA fA hcx
    go_wp2_with fail
    go_roundw
    case rel => exact ⟨20, by omega, by go_num, hA, hL⟩
    case measure => simp [intOf]
  · have hcx := ((lo_cell hL).1 b _ hb).trans (HC.out 20 (by decide))
    replace hcx : wr.cell? ⟨b, off + 20, none⟩ = some (.int .u8 13) := hcx
    go_upto_region 5 with fail
    go_quiet (fail)
    rename_i nq
    replace hA := hA.drewN nq
    replace hL := lo_drewN hL nq
    clear cA fA hcx
    go_wp2_with fail
    go_roundw
    case rel => exact ⟨21, by omega, by go_num, hA, hL⟩
    case measure => simp [intOf]
  · have hcx := ((lo_cell hL).1 b _ hb).trans (HC.out 21 (by decide))
    replace hcx : wr.cell? ⟨b, off + 21, none⟩ = some (.int .u8 10) := hcx
    go_upto_region 5 with fail
    go_quiet (fail)
    rename_i nq
    replace hA := hA.drewN nq
    replace hL := lo_drewN hL nq
    clear cA fA hcx
    go_wp2_with fail
    go_roundw
    case rel => exact ⟨22, by omega, by go_num, hA, hL⟩
    case measure => simp [intOf]
  · have hcx := ((lo_cell hL).1 b _ hb).trans (HC.out 22 (by decide))
    replace hcx : wr.cell? ⟨b, off + 22, none⟩ = some (.int .u8 13) := hcx
    go_upto_region 5 with fail
    go_quiet (fail)
    rename_i nq
    replace hA := hA.drewN nq
    replace hL := lo_drewN hL nq
    clear cA fA hcx
    go_wp2_with fail
    go_roundw
    case rel => exact ⟨23, by omega, by go_num, hA, hL⟩
    case measure => simp [intOf]
  · have hcx := ((lo_cell hL).1 b _ hb).trans (HC.out 23 (by decide))
    replace hcx : wr.cell? ⟨b, off + 23, none⟩ = some (.int .u8 10) := hcx
    go_upto_region 5 with fail
    go_quiet (fail)
    rename_i nq
    replace hA := hA.drewN nq
    replace hL := lo_drewN hL nq
    clear cA fA hcx
    go_wp2_with fail
    go_roundw
    case rel => exact ⟨24, by omega, by go_num, hA, hL⟩
    case measure => simp [intOf]
  · clear HC
    go_wp2_with fail
    exact bodyPost_ret (v := .tuple #[.slice (some ⟨b, off + 24, none⟩) 9 (cap - 24), .bool true]) (by simp [results, Tryz.results49, go_sem]) rfl ⟨rfl, by simpa using hA.set_ 0 (.int .i64 24), (Kept.of_lo g hL).set 0 _⟩
end Go.Proofs.YtdonnbfojcggmaaGreat
