import Derived.Lib.ConvBytes
import Derived.Test.YtdonnbfojcggmaaGreatULate
namespace Go.Proofs.YtdonnbfojcggmaaGreat
open Go.RowKit
attribute [local go_sem ↓] Go.wp_at_zero Go.wp_at_succ

theorem bytes_lo (w : World) (e : TypeId) (s : ByteArray) : Below w.heap.size w (Lib.bytesWorld w e s) := ⟨rfl, rfl, rfl, by rw [Lib.bytesWorld_size]; omega, fun k hk => Lib.bytesWorld_at_old w e s k hk⟩
/-- A head and whether it is there. -/
def HeadIs (w : World) (v : Value) (is : Value) (e : Ending) (w' : World) : Prop := e = .returned (.tuple #[v, is]) ∧ Below w.heap.size w w'
set_option maxRecDepth 100000 in
set_option maxHeartbeats 1600000 in
theorem get_0 (b cap : Nat) (w : World) (hb : b < w.heap.size) (hc : ∀ j, j < 9 → w.cell? ⟨b, j, none⟩ = some (.int .u8 ((([0, 0, 0, 4, 0, 0, 0, 0, 0] : List Int)).getD j 0))) : Calls Tryz.prog 114 #[.slice (some ⟨b, 0, none⟩) 9 cap] w (HeadIs w (.agg #[.int .i64 0, .int .u8 4, .int .u8 0, .int .i64 0]) (.int .i64 0)) := by
  have hc0 : w.cell? ⟨b, 0, none⟩ = some (.int .u8 0) := hc 0 (by decide)
  have hc1 : w.cell? ⟨b, 1, none⟩ = some (.int .u8 0) := hc 1 (by decide)
  have hc2 : w.cell? ⟨b, 2, none⟩ = some (.int .u8 0) := hc 2 (by decide)
  have hc3 : w.cell? ⟨b, 3, none⟩ = some (.int .u8 4) := hc 3 (by decide)
  have hc4 : w.cell? ⟨b, 4, none⟩ = some (.int .u8 0) := hc 4 (by decide)
  have hc5 : w.cell? ⟨b, 5, none⟩ = some (.int .u8 0) := hc 5 (by decide)
  have hc6 : w.cell? ⟨b, 6, none⟩ = some (.int .u8 0) := hc 6 (by decide)
  have hc7 : w.cell? ⟨b, 7, none⟩ = some (.int .u8 0) := hc 7 (by decide)
  have hc8 : w.cell? ⟨b, 8, none⟩ = some (.int .u8 0) := hc 8 (by decide)
  clear hc
  have hR := Blk.new w 94 #[.int .i64 0, .int .u8 0, .int .u8 0, .int .i64 0]
  have hL := lo_alloc (lo_refl w) (.cells #[.int .i64 0, .int .u8 0, .int .u8 0, .int .i64 0] 94)
  have hbo : bits BinOp.or IntKind.u32 0 0 = 0 := by decide
  have hba : bits BinOp.and IntKind.u32 0 2147483647 = 0 := by decide
  have hw0 : wrap64 0 = 0 := by kernel_rfl
  have hat : ∀ w, (Instr.arrayAt 126 (.slice (some ⟨b, 0, none⟩) 9 cap)).run Tryz.prog w = .ok (.pointer (some ⟨b, 0, none⟩)) w := fun w => run_arrayAt w 126 5 9 _ _ _ Tryz.underlying126 (by decide)
  have hN := Blk.new (w.alloc (.cells #[.int .i64 0, .int .u8 0, .int .u8 0, .int .i64 0] 94)) 126 #[.int .u8 0, .int .u8 0, .int .u8 0, .int .u8 4, .int .u8 0, .int .u8 0, .int .u8 0, .int .u8 0, .int .u8 0]
  replace hR := hR.alloc (.cells #[.int .u8 0, .int .u8 0, .int .u8 0, .int .u8 4, .int .u8 0, .int .u8 0, .int .u8 0, .int .u8 0, .int .u8 0] 126)
  replace hL := lo_alloc hL (.cells #[.int .u8 0, .int .u8 0, .int .u8 0, .int .u8 4, .int .u8 0, .int .u8 0, .int .u8 0, .int .u8 0, .int .u8 0] 126)
  simp only [World.size_alloc] at hN
  go_enter Tryz.func114, Tryz.ntmps114
  go_upto_region 4 with fail
  clear hat hc0 hc1 hc2 hc3 hc4 hc5 hc6 hc7 hc8
  generalize (w.alloc (.cells #[.int .i64 0, .int .u8 0, .int .u8 0, .int .i64 0] 94)).alloc (.cells #[.int .u8 0, .int .u8 0, .int .u8 0, .int .u8 4, .int .u8 0, .int .u8 0, .int .u8 0, .int .u8 0, .int .u8 0] 126) = w2 at hN hR hL ⊢
  obtain ⟨cN, fN⟩ := hN.facts
  obtain ⟨cR, fR⟩ := hR.facts
  have lR := hR.lt
  have lN := hN.lt
  go_wp2_with fail
  clear cN fN cR fR hN lR lN
  have hR7 := ((((hR.set_ 0 (.int .i64 0)).set_ 1 (.int .u8 4)).set_ 2 (.int .u8 0)).set_ 3 (.int .i64 0))
  have hL7 := lo_set (lo_set (lo_set (lo_set hL (p := ⟨w.heap.size, 0, none⟩) (Nat.le_refl _) (.int .i64 0)) (p := ⟨w.heap.size, 1, none⟩) (Nat.le_refl _) (.int .u8 4)) (p := ⟨w.heap.size, 2, none⟩) (Nat.le_refl _) (.int .u8 0)) (p := ⟨w.heap.size, 3, none⟩) (Nat.le_refl _) (.int .i64 0)
  clear hR hL
  generalize (((w2.setCell ⟨w.heap.size, 0, none⟩ (.int .i64 0)).setCell ⟨w.heap.size, 1, none⟩ (.int .u8 4)).setCell ⟨w.heap.size, 2, none⟩ (.int .u8 0)).setCell ⟨w.heap.size, 3, none⟩ (.int .i64 0) = w7 at hR7 hL7 ⊢
  simp only [List.setIfInBounds_toArray, List.set_cons_zero, List.set_cons_succ] at hR7
  obtain ⟨cR, fR⟩ := hR7.facts
  exact bodyPost_ret (v := .tuple #[.agg #[.int .i64 0, .int .u8 4, .int .u8 0, .int .i64 0], .int .i64 0]) (by simp [results, Tryz.results114, go_sem, cR] <;> (repeat' (first | apply And.intro | (show _ = _; kernel_rfl)))) rfl ⟨rfl, hL7⟩
set_option maxRecDepth 100000 in
set_option maxHeartbeats 1600000 in
theorem get_1 (b cap : Nat) (w : World) (hb : b < w.heap.size) (hc : ∀ j, j < 9 → w.cell? ⟨b, j, none⟩ = some (.int .u8 ((([0, 0, 0, 4, 1, 0, 0, 0, 0] : List Int)).getD j 0))) : Calls Tryz.prog 114 #[.slice (some ⟨b, 0, none⟩) 9 cap] w (HeadIs w (.agg #[.int .i64 0, .int .u8 4, .int .u8 1, .int .i64 0]) (.int .i64 0)) := by
  have hc0 : w.cell? ⟨b, 0, none⟩ = some (.int .u8 0) := hc 0 (by decide)
  have hc1 : w.cell? ⟨b, 1, none⟩ = some (.int .u8 0) := hc 1 (by decide)
  have hc2 : w.cell? ⟨b, 2, none⟩ = some (.int .u8 0) := hc 2 (by decide)
  have hc3 : w.cell? ⟨b, 3, none⟩ = some (.int .u8 4) := hc 3 (by decide)
  have hc4 : w.cell? ⟨b, 4, none⟩ = some (.int .u8 1) := hc 4 (by decide)
  have hc5 : w.cell? ⟨b, 5, none⟩ = some (.int .u8 0) := hc 5 (by decide)
  have hc6 : w.cell? ⟨b, 6, none⟩ = some (.int .u8 0) := hc 6 (by decide)
  have hc7 : w.cell? ⟨b, 7, none⟩ = some (.int .u8 0) := hc 7 (by decide)
  have hc8 : w.cell? ⟨b, 8, none⟩ = some (.int .u8 0) := hc 8 (by decide)
  clear hc
  have hR := Blk.new w 94 #[.int .i64 0, .int .u8 0, .int .u8 0, .int .i64 0]
  have hL := lo_alloc (lo_refl w) (.cells #[.int .i64 0, .int .u8 0, .int .u8 0, .int .i64 0] 94)
  have hbo : bits BinOp.or IntKind.u32 0 0 = 0 := by decide
  have hba : bits BinOp.and IntKind.u32 0 2147483647 = 0 := by decide
  have hw0 : wrap64 0 = 0 := by kernel_rfl
  have hat : ∀ w, (Instr.arrayAt 126 (.slice (some ⟨b, 0, none⟩) 9 cap)).run Tryz.prog w = .ok (.pointer (some ⟨b, 0, none⟩)) w := fun w => run_arrayAt w 126 5 9 _ _ _ Tryz.underlying126 (by decide)
  have hN := Blk.new (w.alloc (.cells #[.int .i64 0, .int .u8 0, .int .u8 0, .int .i64 0] 94)) 126 #[.int .u8 0, .int .u8 0, .int .u8 0, .int .u8 4, .int .u8 1, .int .u8 0, .int .u8 0, .int .u8 0, .int .u8 0]
  replace hR := hR.alloc (.cells #[.int .u8 0, .int .u8 0, .int .u8 0, .int .u8 4, .int .u8 1, .int .u8 0, .int .u8 0, .int .u8 0, .int .u8 0] 126)
  replace hL := lo_alloc hL (.cells #[.int .u8 0, .int .u8 0, .int .u8 0, .int .u8 4, .int .u8 1, .int .u8 0, .int .u8 0, .int .u8 0, .int .u8 0] 126)
  simp only [World.size_alloc] at hN
  go_enter Tryz.func114, Tryz.ntmps114
  go_upto_region 4 with fail
  clear hat hc0 hc1 hc2 hc3 hc4 hc5 hc6 hc7 hc8
  generalize (w.alloc (.cells #[.int .i64 0, .int .u8 0, .int .u8 0, .int .i64 0] 94)).alloc (.cells #[.int .u8 0, .int .u8 0, .int .u8 0, .int .u8 4, .int .u8 1, .int .u8 0, .int .u8 0, .int .u8 0, .int .u8 0] 126) = w2 at hN hR hL ⊢
  obtain ⟨cN, fN⟩ := hN.facts
  obtain ⟨cR, fR⟩ := hR.facts
  have lR := hR.lt
  have lN := hN.lt
  go_wp2_with fail
  clear cN fN cR fR hN lR lN
  have hR7 := ((((hR.set_ 0 (.int .i64 0)).set_ 1 (.int .u8 4)).set_ 2 (.int .u8 1)).set_ 3 (.int .i64 0))
  have hL7 := lo_set (lo_set (lo_set (lo_set hL (p := ⟨w.heap.size, 0, none⟩) (Nat.le_refl _) (.int .i64 0)) (p := ⟨w.heap.size, 1, none⟩) (Nat.le_refl _) (.int .u8 4)) (p := ⟨w.heap.size, 2, none⟩) (Nat.le_refl _) (.int .u8 1)) (p := ⟨w.heap.size, 3, none⟩) (Nat.le_refl _) (.int .i64 0)
  clear hR hL
  generalize (((w2.setCell ⟨w.heap.size, 0, none⟩ (.int .i64 0)).setCell ⟨w.heap.size, 1, none⟩ (.int .u8 4)).setCell ⟨w.heap.size, 2, none⟩ (.int .u8 1)).setCell ⟨w.heap.size, 3, none⟩ (.int .i64 0) = w7 at hR7 hL7 ⊢
  simp only [List.setIfInBounds_toArray, List.set_cons_zero, List.set_cons_succ] at hR7
  obtain ⟨cR, fR⟩ := hR7.facts
  exact bodyPost_ret (v := .tuple #[.agg #[.int .i64 0, .int .u8 4, .int .u8 1, .int .i64 0], .int .i64 0]) (by simp [results, Tryz.results114, go_sem, cR] <;> (repeat' (first | apply And.intro | (show _ = _; kernel_rfl)))) rfl ⟨rfl, hL7⟩
set_option maxRecDepth 100000 in
set_option maxHeartbeats 1600000 in
theorem shead_0 (w : World) : Calls Tryz.prog 79 #[.string ⟨#[]⟩] w (HeadIs w (.agg #[.int .i64 0, .int .u8 0, .int .u8 0, .int .i64 0]) (.bool false)) := by
  have hR := Blk.new w 94 #[.int .i64 0, .int .u8 0, .int .u8 0, .int .i64 0]
  have hL := lo_alloc (lo_refl w) (.cells #[.int .i64 0, .int .u8 0, .int .u8 0, .int .i64 0] 94)
  have lR := hR.lt
  go_enter Tryz.func79, Tryz.ntmps79
  obtain ⟨cR, fR⟩ := hR.facts
  go_wp2_with fail
  exact bodyPost_ret (v := .tuple #[.agg #[.int .i64 0, .int .u8 0, .int .u8 0, .int .i64 0], .bool false]) (by simp [results, Tryz.results79, go_sem, cR] <;> (repeat' (first | apply And.intro | (show _ = _; kernel_rfl)))) rfl ⟨rfl, hL⟩
set_option maxRecDepth 100000 in
set_option maxHeartbeats 1600000 in
theorem shead_09 (w : World) : Calls Tryz.prog 79 #[.string (⟨#[0, 0, 0, 4, 0, 0, 0, 0, 0]⟩ : ByteArray)] w (HeadIs w (.agg #[.int .i64 0, .int .u8 4, .int .u8 0, .int .i64 0]) (.bool true)) := by
  have hR := Blk.new w 94 #[.int .i64 0, .int .u8 0, .int .u8 0, .int .i64 0]
  have hL := lo_alloc (lo_refl w) (.cells #[.int .i64 0, .int .u8 0, .int .u8 0, .int .i64 0] 94)
  have lR := hR.lt
  have hcv := Lib.run_convert_string_bytes (P := Tryz.prog) (w.alloc (.cells #[.int .i64 0, .int .u8 0, .int .u8 0, .int .i64 0] 94)) 9 53 5 (⟨#[0, 0, 0, 4, 0, 0, 0, 0, 0]⟩ : ByteArray) Tryz.underlying9 Tryz.underlying53 Tryz.underlying5
  have hb := bytes_lo (w.alloc (.cells #[.int .i64 0, .int .u8 0, .int .u8 0, .int .i64 0] 94)) 5 (⟨#[0, 0, 0, 4, 0, 0, 0, 0, 0]⟩ : ByteArray)
  have hce : ∀ j, j < 9 → (Lib.bytesWorld (w.alloc (.cells #[.int .i64 0, .int .u8 0, .int .u8 0, .int .i64 0] 94)) 5 (⟨#[0, 0, 0, 4, 0, 0, 0, 0, 0]⟩ : ByteArray)).cell? ⟨(w.alloc (.cells #[.int .i64 0, .int .u8 0, .int .u8 0, .int .i64 0] 94)).heap.size, j, none⟩ = some (.int .u8 ((([0, 0, 0, 4, 0, 0, 0, 0, 0] : List Int)).getD j 0)) := by
    intro j hj
    rw [Lib.bytesWorld_cell _ _ (⟨#[0, 0, 0, 4, 0, 0, 0, 0, 0]⟩ : ByteArray) j (show j < ByteArray.size (⟨#[0, 0, 0, 4, 0, 0, 0, 0, 0]⟩ : ByteArray) from hj)]
    rcases (by omega : j = 0 ∨ j = 1 ∨ j = 2 ∨ j = 3 ∨ j = 4 ∨ j = 5 ∨ j = 6 ∨ j = 7 ∨ j = 8) with rfl | rfl | rfl | rfl | rfl | rfl | rfl | rfl | rfl <;> rfl
  have hsz : (w.alloc (.cells #[.int .i64 0, .int .u8 0, .int .u8 0, .int .i64 0] 94)).heap.size < (Lib.bytesWorld (w.alloc (.cells #[.int .i64 0, .int .u8 0, .int .u8 0, .int .i64 0] 94)) 5 (⟨#[0, 0, 0, 4, 0, 0, 0, 0, 0]⟩ : ByteArray)).heap.size := by rw [Lib.bytesWorld_size]; omega
  generalize Lib.bytesWorld (w.alloc (.cells #[.int .i64 0, .int .u8 0, .int .u8 0, .int .i64 0] 94)) 5 (⟨#[0, 0, 0, 4, 0, 0, 0, 0, 0]⟩ : ByteArray) = w2 at hcv hb hce hsz
  generalize grownCap (w.alloc (.cells #[.int .i64 0, .int .u8 0, .int .u8 0, .int .i64 0] 94)) (ByteArray.size (⟨#[0, 0, 0, 4, 0, 0, 0, 0, 0]⟩ : ByteArray)) 0 5 = cap at hcv
  simp only [World.size_alloc] at hcv hce hsz
  have H : Hid (Calls Tryz.prog 114 #[.slice (some ⟨w.heap.size + 1, 0, none⟩) 9 cap] w2 (HeadIs w2 (.agg #[.int .i64 0, .int .u8 4, .int .u8 0, .int .i64 0]) (.int .i64 0))) := Lib.hid (get_0 _ cap w2 hsz hce)
  replace hcv : Sem.run Tryz.prog (convert 9 53 (Value.string (⟨#[0, 0, 0, 4, 0, 0, 0, 0, 0]⟩ : ByteArray))) (w.alloc (.cells #[.int .i64 0, .int .u8 0, .int .u8 0, .int .i64 0] 94)) = Result.ok (.slice (some ⟨w.heap.size + 1, 0, none⟩) 9 cap) w2 := hcv
  have hex : ByteArray.extract (⟨#[0, 0, 0, 4, 0, 0, 0, 0, 0]⟩ : ByteArray) 0 9 = (⟨#[0, 0, 0, 4, 0, 0, 0, 0, 0]⟩ : ByteArray) := by decide
  clear hce hsz
  go_enter Tryz.func79, Tryz.ntmps79
  go_wp2_with fail
  refine H.out.mono ?_
  rintro e w3 ⟨rfl, hb3⟩
  replace hR := (hR.lo hb).lo hb3
  replace hL := lo_trans (lo_trans hL hb) hb3
  clear hb hb3 hcv H
  have hN := Blk.new w3 94 #[.int .i64 0, .int .u8 4, .int .u8 0, .int .i64 0]
  replace hR := hR.alloc (.cells #[.int .i64 0, .int .u8 4, .int .u8 0, .int .i64 0] 94)
  replace hL := lo_alloc hL (.cells #[.int .i64 0, .int .u8 4, .int .u8 0, .int .i64 0] 94)
  go_upto_region 4 with fail
  generalize w3.heap.size = gN at hN ⊢
  generalize w3.alloc (.cells #[.int .i64 0, .int .u8 4, .int .u8 0, .int .i64 0] 94) = w4 at hN hR hL ⊢
  obtain ⟨cN, fN⟩ := hN.facts
  obtain ⟨cR, fR⟩ := hR.facts
  have lR2 := hR.lt
  have lN := hN.lt
  go_wp2_with fail
  clear cN fN cR fR hN lR2 lN
  have hR7 := ((((hR.set_ 0 (.int .i64 0)).set_ 1 (.int .u8 4)).set_ 2 (.int .u8 0)).set_ 3 (.int .i64 0))
  have hL7 := lo_set (lo_set (lo_set (lo_set hL (p := ⟨w.heap.size, 0, none⟩) (Nat.le_refl _) (.int .i64 0)) (p := ⟨w.heap.size, 1, none⟩) (Nat.le_refl _) (.int .u8 4)) (p := ⟨w.heap.size, 2, none⟩) (Nat.le_refl _) (.int .u8 0)) (p := ⟨w.heap.size, 3, none⟩) (Nat.le_refl _) (.int .i64 0)
  clear hR hL
  generalize (((w4.setCell ⟨w.heap.size, 0, none⟩ (.int .i64 0)).setCell ⟨w.heap.size, 1, none⟩ (.int .u8 4)).setCell ⟨w.heap.size, 2, none⟩ (.int .u8 0)).setCell ⟨w.heap.size, 3, none⟩ (.int .i64 0) = w7 at hR7 hL7 ⊢
  simp only [List.setIfInBounds_toArray, List.set_cons_zero, List.set_cons_succ] at hR7
  obtain ⟨cR, fR⟩ := hR7.facts
  exact bodyPost_ret (v := .tuple #[.agg #[.int .i64 0, .int .u8 4, .int .u8 0, .int .i64 0], .bool true]) (by simp [results, Tryz.results79, go_sem, cR] <;> (repeat' (first | apply And.intro | (show _ = _; kernel_rfl)))) rfl ⟨rfl, hL7⟩
set_option maxRecDepth 100000 in
set_option maxHeartbeats 1600000 in
theorem shead_19 (w : World) : Calls Tryz.prog 79 #[.string (⟨#[0, 0, 0, 4, 1, 0, 0, 0, 0]⟩ : ByteArray)] w (HeadIs w (.agg #[.int .i64 0, .int .u8 4, .int .u8 1, .int .i64 0]) (.bool true)) := by
  have hR := Blk.new w 94 #[.int .i64 0, .int .u8 0, .int .u8 0, .int .i64 0]
  have hL := lo_alloc (lo_refl w) (.cells #[.int .i64 0, .int .u8 0, .int .u8 0, .int .i64 0] 94)
  have lR := hR.lt
  have hcv := Lib.run_convert_string_bytes (P := Tryz.prog) (w.alloc (.cells #[.int .i64 0, .int .u8 0, .int .u8 0, .int .i64 0] 94)) 9 53 5 (⟨#[0, 0, 0, 4, 1, 0, 0, 0, 0]⟩ : ByteArray) Tryz.underlying9 Tryz.underlying53 Tryz.underlying5
  have hb := bytes_lo (w.alloc (.cells #[.int .i64 0, .int .u8 0, .int .u8 0, .int .i64 0] 94)) 5 (⟨#[0, 0, 0, 4, 1, 0, 0, 0, 0]⟩ : ByteArray)
  have hce : ∀ j, j < 9 → (Lib.bytesWorld (w.alloc (.cells #[.int .i64 0, .int .u8 0, .int .u8 0, .int .i64 0] 94)) 5 (⟨#[0, 0, 0, 4, 1, 0, 0, 0, 0]⟩ : ByteArray)).cell? ⟨(w.alloc (.cells #[.int .i64 0, .int .u8 0, .int .u8 0, .int .i64 0] 94)).heap.size, j, none⟩ = some (.int .u8 ((([0, 0, 0, 4, 1, 0, 0, 0, 0] : List Int)).getD j 0)) := by
    intro j hj
    rw [Lib.bytesWorld_cell _ _ (⟨#[0, 0, 0, 4, 1, 0, 0, 0, 0]⟩ : ByteArray) j (show j < ByteArray.size (⟨#[0, 0, 0, 4, 1, 0, 0, 0, 0]⟩ : ByteArray) from hj)]
    rcases (by omega : j = 0 ∨ j = 1 ∨ j = 2 ∨ j = 3 ∨ j = 4 ∨ j = 5 ∨ j = 6 ∨ j = 7 ∨ j = 8) with rfl | rfl | rfl | rfl | rfl | rfl | rfl | rfl | rfl <;> rfl
  have hsz : (w.alloc (.cells #[.int .i64 0, .int .u8 0, .int .u8 0, .int .i64 0] 94)).heap.size < (Lib.bytesWorld (w.alloc (.cells #[.int .i64 0, .int .u8 0, .int .u8 0, .int .i64 0] 94)) 5 (⟨#[0, 0, 0, 4, 1, 0, 0, 0, 0]⟩ : ByteArray)).heap.size := by rw [Lib.bytesWorld_size]; omega
  generalize Lib.bytesWorld (w.alloc (.cells #[.int .i64 0, .int .u8 0, .int .u8 0, .int .i64 0] 94)) 5 (⟨#[0, 0, 0, 4, 1, 0, 0, 0, 0]⟩ : ByteArray) = w2 at hcv hb hce hsz
  generalize grownCap (w.alloc (.cells #[.int .i64 0, .int .u8 0, .int .u8 0, .int .i64 0] 94)) (ByteArray.size (⟨#[0, 0, 0, 4, 1, 0, 0, 0, 0]⟩ : ByteArray)) 0 5 = cap at hcv
  simp only [World.size_alloc] at hcv hce hsz
  have H : Hid (Calls Tryz.prog 114 #[.slice (some ⟨w.heap.size + 1, 0, none⟩) 9 cap] w2 (HeadIs w2 (.agg #[.int .i64 0, .int .u8 4, .int .u8 1, .int .i64 0]) (.int .i64 0))) := Lib.hid (get_1 _ cap w2 hsz hce)
  replace hcv : Sem.run Tryz.prog (convert 9 53 (Value.string (⟨#[0, 0, 0, 4, 1, 0, 0, 0, 0]⟩ : ByteArray))) (w.alloc (.cells #[.int .i64 0, .int .u8 0, .int .u8 0, .int .i64 0] 94)) = Result.ok (.slice (some ⟨w.heap.size + 1, 0, none⟩) 9 cap) w2 := hcv
  have hex : ByteArray.extract (⟨#[0, 0, 0, 4, 1, 0, 0, 0, 0]⟩ : ByteArray) 0 9 = (⟨#[0, 0, 0, 4, 1, 0, 0, 0, 0]⟩ : ByteArray) := by decide
  clear hce hsz
  go_enter Tryz.func79, Tryz.ntmps79
  go_wp2_with fail
  refine H.out.mono ?_
  rintro e w3 ⟨rfl, hb3⟩
  replace hR := (hR.lo hb).lo hb3
  replace hL := lo_trans (lo_trans hL hb) hb3
  clear hb hb3 hcv H
  have hN := Blk.new w3 94 #[.int .i64 0, .int .u8 4, .int .u8 1, .int .i64 0]
  replace hR := hR.alloc (.cells #[.int .i64 0, .int .u8 4, .int .u8 1, .int .i64 0] 94)
  replace hL := lo_alloc hL (.cells #[.int .i64 0, .int .u8 4, .int .u8 1, .int .i64 0] 94)
  go_upto_region 4 with fail
  generalize w3.heap.size = gN at hN ⊢
  generalize w3.alloc (.cells #[.int .i64 0, .int .u8 4, .int .u8 1, .int .i64 0] 94) = w4 at hN hR hL ⊢
  obtain ⟨cN, fN⟩ := hN.facts
  obtain ⟨cR, fR⟩ := hR.facts
  have lR2 := hR.lt
  have lN := hN.lt
  go_wp2_with fail
  clear cN fN cR fR hN lR2 lN
  have hR7 := ((((hR.set_ 0 (.int .i64 0)).set_ 1 (.int .u8 4)).set_ 2 (.int .u8 1)).set_ 3 (.int .i64 0))
  have hL7 := lo_set (lo_set (lo_set (lo_set hL (p := ⟨w.heap.size, 0, none⟩) (Nat.le_refl _) (.int .i64 0)) (p := ⟨w.heap.size, 1, none⟩) (Nat.le_refl _) (.int .u8 4)) (p := ⟨w.heap.size, 2, none⟩) (Nat.le_refl _) (.int .u8 1)) (p := ⟨w.heap.size, 3, none⟩) (Nat.le_refl _) (.int .i64 0)
  clear hR hL
  generalize (((w4.setCell ⟨w.heap.size, 0, none⟩ (.int .i64 0)).setCell ⟨w.heap.size, 1, none⟩ (.int .u8 4)).setCell ⟨w.heap.size, 2, none⟩ (.int .u8 1)).setCell ⟨w.heap.size, 3, none⟩ (.int .i64 0) = w7 at hR7 hL7 ⊢
  simp only [List.setIfInBounds_toArray, List.set_cons_zero, List.set_cons_succ] at hR7
  obtain ⟨cR, fR⟩ := hR7.facts
  exact bodyPost_ret (v := .tuple #[.agg #[.int .i64 0, .int .u8 4, .int .u8 1, .int .i64 0], .bool true]) (by simp [results, Tryz.results79, go_sem, cR] <;> (repeat' (first | apply And.intro | (show _ = _; kernel_rfl)))) rfl ⟨rfl, hL7⟩
end Go.Proofs.YtdonnbfojcggmaaGreat
