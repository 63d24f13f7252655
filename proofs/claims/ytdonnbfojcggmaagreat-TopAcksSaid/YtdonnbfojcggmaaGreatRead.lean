import Derived.Test.YtdonnbfojcggmaaGreatSplit3
namespace Go.Proofs.YtdonnbfojcggmaaGreat
open Go.RowKit
attribute [local go_sem ↓] Go.wp_at_zero Go.wp_at_succ

set_option maxRecDepth 100000 in
set_option maxHeartbeats 1600000 in
theorem astray_s (fl : Int) (w : World) : Calls Tryz.prog 80 #[.agg #[.int .u8 4, .int .u8 fl, .int .i64 0, .string ⟨#[]⟩, .int .i64 0, .int .i64 0, .bool false, .int .u8 0, .int .u32 0, .int .i64 0, .int .i64 0, .slice none 0 0]] w (BoolPost w false) := by
  have hA := Blk.new w 58 #[.int .u8 4, .int .u8 fl, .int .i64 0, .string ⟨#[]⟩, .int .i64 0, .int .i64 0, .bool false, .int .u8 0, .int .u32 0, .int .i64 0, .int .i64 0, .slice none 0 0]
  have hL := lo_alloc (lo_refl w) (.cells #[.int .u8 4, .int .u8 fl, .int .i64 0, .string ⟨#[]⟩, .int .i64 0, .int .i64 0, .bool false, .int .u8 0, .int .u32 0, .int .i64 0, .int .i64 0, .slice none 0 0] 58)
  obtain ⟨cA, fA⟩ := hA.facts
  go_enter Tryz.func80, Tryz.ntmps80
  go_wp2_with fail
  go_ret
  exact ⟨rfl, hL⟩
set_option maxRecDepth 100000 in
set_option maxHeartbeats 1600000 in
theorem misfit_s (fl : Int) (hf : fl = 0 ∨ fl = 1) (w : World) : Calls Tryz.prog 82 #[.agg #[.int .u8 4, .int .u8 fl, .int .i64 0, .string ⟨#[]⟩, .int .i64 0, .int .i64 0, .bool false, .int .u8 0, .int .u32 0, .int .i64 0, .int .i64 0, .slice none 0 0], .int .i64 0] w (BoolPost w false) := by
  have H : Hid (∀ w0, Calls Tryz.prog 78 #[.agg #[.int .u8 4, .int .u8 fl, .int .i64 0, .string ⟨#[]⟩, .int .i64 0, .int .i64 0, .bool false, .int .u8 0, .int .u32 0, .int .i64 0, .int .i64 0, .slice none 0 0], .int .u8 1] w0 (BoolPost w0 (fl == 1))) := Lib.hid fun w0 => has_ack 4 fl hf _ _ _ _ _ _ _ _ _ _ w0
  have hA := Blk.new w 58 #[.int .u8 4, .int .u8 fl, .int .i64 0, .string ⟨#[]⟩, .int .i64 0, .int .i64 0, .bool false, .int .u8 0, .int .u32 0, .int .i64 0, .int .i64 0, .slice none 0 0]
  have hL := lo_alloc (lo_refl w) (.cells #[.int .u8 4, .int .u8 fl, .int .i64 0, .string ⟨#[]⟩, .int .i64 0, .int .i64 0, .bool false, .int .u8 0, .int .u32 0, .int .i64 0, .int .i64 0, .slice none 0 0] 58)
  obtain ⟨cA, fA⟩ := hA.facts
  rcases hf with rfl | rfl
  all_goals
    go_enter Tryz.func82, Tryz.ntmps82
    go_wp2_with fail
    refine (H.out _).mono ?_
    rintro e w1 ⟨rfl, hb⟩
    replace hL := lo_trans hL hb
    clear hb cA fA
    go_wp2_with fail
    go_ret
    exact ⟨rfl, hL⟩
set_option maxRecDepth 100000 in
set_option maxHeartbeats 1600000 in
theorem fill_s (fl : Int) (g : Nat) (w : World) (hA : Blk w g 58 #[.int .u8 4, .int .u8 fl, .int .i64 0, .string ⟨#[]⟩, .int .i64 0, .int .i64 0, .bool false, .int .u8 0, .int .u32 0, .int .i64 0, .int .i64 0, .slice none 0 0]) : Calls Tryz.prog 83 #[.pointer (some ⟨g, 0, none⟩), .string ⟨#[]⟩] w fun e w' => e = .returned (.int .u32 0) ∧ w = w' := by
  obtain ⟨cA, fA⟩ := hA.facts
  have lA := hA.lt
  go_enter Tryz.func83, Tryz.ntmps83
  go_wp2_with fail
  clear cA fA lA
  go_loopw [1] (fun s wr => s = .string ⟨#[]⟩ ∧ wr = w) (fun s _ => 0)
  case atStart => exact ⟨rfl, rfl⟩
  case round =>
  obtain ⟨rfl, rfl⟩ := hrel
  go_wp2_with fail
  go_ret
  exact ⟨rfl, rfl⟩
/-- The frame that was read, and no fault. -/
def ReadPost (w : World) (fl : Int) (e : Ending) (w' : World) : Prop := e = .returned (.tuple #[.agg #[.int .u8 4, .int .u8 fl, .int .i64 0, .string ⟨#[]⟩, .int .i64 0, .int .i64 0, .bool false, .int .u8 0, .int .u32 0, .int .i64 0, .int .i64 0, .slice none 0 0], .agg #[.int .u32 0, .int .i64 0]]) ∧ Below w.heap.size w w'
set_option maxRecDepth 100000 in
set_option maxHeartbeats 1600000 in
theorem read_s (fl : Int) (hf : fl = 0 ∨ fl = 1) (w : World) : Calls Tryz.prog 52 #[.agg #[.int .i64 0, .int .u8 4, .int .u8 fl, .int .i64 0], .string ⟨#[]⟩] w (ReadPost w fl) := by
  have H1 : Hid (∀ w0, Calls Tryz.prog 80 #[.agg #[.int .u8 4, .int .u8 fl, .int .i64 0, .string ⟨#[]⟩, .int .i64 0, .int .i64 0, .bool false, .int .u8 0, .int .u32 0, .int .i64 0, .int .i64 0, .slice none 0 0]] w0 (BoolPost w0 false)) := Lib.hid fun w0 => astray_s fl w0
  have H2 : Hid (∀ w0, Calls Tryz.prog 82 #[.agg #[.int .u8 4, .int .u8 fl, .int .i64 0, .string ⟨#[]⟩, .int .i64 0, .int .i64 0, .bool false, .int .u8 0, .int .u32 0, .int .i64 0, .int .i64 0, .slice none 0 0], .int .i64 0] w0 (BoolPost w0 false)) := Lib.hid fun w0 => misfit_s fl hf w0
  have H3 : Hid (∀ w0 g, Blk w0 g 58 #[.int .u8 4, .int .u8 fl, .int .i64 0, .string ⟨#[]⟩, .int .i64 0, .int .i64 0, .bool false, .int .u8 0, .int .u32 0, .int .i64 0, .int .i64 0, .slice none 0 0] → Calls Tryz.prog 83 #[.pointer (some ⟨g, 0, none⟩), .string ⟨#[]⟩] w0 fun e w' => e = .returned (.int .u32 0) ∧ w0 = w') := Lib.hid fun w0 g h => fill_s fl g w0 h
  clear hf
  have hH := Blk.new w 94 #[.int .i64 0, .int .u8 4, .int .u8 fl, .int .i64 0]
  have hL := lo_alloc (lo_refl w) (.cells #[.int .i64 0, .int .u8 4, .int .u8 fl, .int .i64 0] 94)
  generalize hw1 : w.alloc (.cells #[.int .i64 0, .int .u8 4, .int .u8 fl, .int .i64 0] 94) = w1 at hH hL
  have hs1 : w1.heap.size = w.heap.size + 1 := by rw [← hw1]; simp
  have hR := Blk.new w1 58 #[.int .u8 0, .int .u8 0, .int .i64 0, .string ⟨#[]⟩, .int .i64 0, .int .i64 0, .bool false, .int .u8 0, .int .u32 0, .int .i64 0, .int .i64 0, .slice none 0 0]
  replace hH := hH.alloc (.cells #[.int .u8 0, .int .u8 0, .int .i64 0, .string ⟨#[]⟩, .int .i64 0, .int .i64 0, .bool false, .int .u8 0, .int .u32 0, .int .i64 0, .int .i64 0, .slice none 0 0] 58)
  replace hL := lo_alloc hL (.cells #[.int .u8 0, .int .u8 0, .int .i64 0, .string ⟨#[]⟩, .int .i64 0, .int .i64 0, .bool false, .int .u8 0, .int .u32 0, .int .i64 0, .int .i64 0, .slice none 0 0] 58)
  rw [hs1] at hR
  generalize hw2 : w1.alloc (.cells #[.int .u8 0, .int .u8 0, .int .i64 0, .string ⟨#[]⟩, .int .i64 0, .int .i64 0, .bool false, .int .u8 0, .int .u32 0, .int .i64 0, .int .i64 0, .slice none 0 0] 58) = w2 at hH hR hL
  have hs2 : w2.heap.size = w.heap.size + 2 := by rw [← hw2]; simp [hs1]
  have hQ := Blk.new w2 134 #[.int .u32 0, .int .i64 0]
  replace hH := hH.alloc (.cells #[.int .u32 0, .int .i64 0] 134)
  replace hR := hR.alloc (.cells #[.int .u32 0, .int .i64 0] 134)
  replace hL := lo_alloc hL (.cells #[.int .u32 0, .int .i64 0] 134)
  rw [hs2] at hQ
  go_enter Tryz.func52, Tryz.ntmps52
  go_upto_region 1 with fail
  clear hw1 hw2 hs1 hs2
  generalize w2.alloc (.cells #[.int .u32 0, .int .i64 0] 134) = w3 at hH hR hQ hL ⊢
  have hge : w.heap.size + 2 < w3.heap.size := hQ.lt
  obtain ⟨cH, fH⟩ := hH.facts
  have hX := Blk.new w3 58 #[.int .u8 4, .int .u8 fl, .int .i64 0, .string ⟨#[]⟩, .int .i64 0, .int .i64 0, .bool false, .int .u8 0, .int .u32 0, .int .i64 0, .int .i64 0, .slice none 0 0]
  go_upto_region 2 with fail
  clear cH fH hH
  replace hR := hR.alloc (.cells #[.int .u8 4, .int .u8 fl, .int .i64 0, .string ⟨#[]⟩, .int .i64 0, .int .i64 0, .bool false, .int .u8 0, .int .u32 0, .int .i64 0, .int .i64 0, .slice none 0 0] 58)
  replace hQ := hQ.alloc (.cells #[.int .u8 4, .int .u8 fl, .int .i64 0, .string ⟨#[]⟩, .int .i64 0, .int .i64 0, .bool false, .int .u8 0, .int .u32 0, .int .i64 0, .int .i64 0, .slice none 0 0] 58)
  replace hL := lo_alloc hL (.cells #[.int .u8 4, .int .u8 fl, .int .i64 0, .string ⟨#[]⟩, .int .i64 0, .int .i64 0, .bool false, .int .u8 0, .int .u32 0, .int .i64 0, .int .i64 0, .slice none 0 0] 58)
  generalize hgX : w3.heap.size = gX at hX hge ⊢
  generalize w3.alloc (.cells #[.int .u8 4, .int .u8 fl, .int .i64 0, .string ⟨#[]⟩, .int .i64 0, .int .i64 0, .bool false, .int .u8 0, .int .u32 0, .int .i64 0, .int .i64 0, .slice none 0 0] 58) = w4 at hX hR hQ hL ⊢
  clear hgX
  obtain ⟨cX, fX⟩ := hX.facts
  go_wp2_with fail
  refine (H1.out _).mono ?_
  rintro e w1 ⟨rfl, hb⟩
  clear cX fX
  replace hR := hR.lo hb
  replace hQ := hQ.lo hb
  replace hX := hX.lo hb
  replace hL := lo_trans hL hb
  clear hb
  obtain ⟨cX, fX⟩ := hX.facts
  go_wp2_with fail
  refine (H2.out _).mono ?_
  rintro e w1 ⟨rfl, hb⟩
  clear cX fX
  replace hR := hR.lo hb
  replace hQ := hQ.lo hb
  replace hX := hX.lo hb
  replace hL := lo_trans hL hb
  clear hb
  obtain ⟨cX, fX⟩ := hX.facts
  go_wp2_with fail
  refine (H3.out _ _ hX).mono ?_
  rintro e w5 ⟨rfl, rfl⟩
  clear H1 H2 H3
  obtain ⟨cR, fR⟩ := hR.facts
  obtain ⟨cQ, fQ⟩ := hQ.facts
  have lR := hR.lt
  have lQ := hQ.lt
  go_wp2_with fail
  clear cX fX cR fR cQ fQ
  have hR7 := ((((((((((((((hR.set_ 0 (.int .u8 4)).set_ 1 (.int .u8 fl)).set_ 2 (.int .i64 0)).set_ 3 (.string ⟨#[]⟩)).set_ 4 (.int .i64 0)).set_ 5 (.int .i64 0)).set_ 6 (.bool false)).set_ 7 (.int .u8 0)).set_ 8 (.int .u32 0)).set_ 9 (.int .i64 0)).set_ 10 (.int .i64 0)).set_ 11 (.slice none 0 0)).far (p := ⟨w.heap.size + 2, 0, none⟩) (show w.heap.size + 1 ≠ w.heap.size + 2 by omega) (.int .u32 0)).far (p := ⟨w.heap.size + 2, 1, none⟩) (show w.heap.size + 1 ≠ w.heap.size + 2 by omega) (.int .i64 0))
  have hQ7 := ((((((((((((((hQ.far (p := ⟨w.heap.size + 1, 0, none⟩) (show w.heap.size + 2 ≠ w.heap.size + 1 by omega) (.int .u8 4)).far (p := ⟨w.heap.size + 1, 1, none⟩) (show w.heap.size + 2 ≠ w.heap.size + 1 by omega) (.int .u8 fl)).far (p := ⟨w.heap.size + 1, 2, none⟩) (show w.heap.size + 2 ≠ w.heap.size + 1 by omega) (.int .i64 0)).far (p := ⟨w.heap.size + 1, 3, none⟩) (show w.heap.size + 2 ≠ w.heap.size + 1 by omega) (.string ⟨#[]⟩)).far (p := ⟨w.heap.size + 1, 4, none⟩) (show w.heap.size + 2 ≠ w.heap.size + 1 by omega) (.int .i64 0)).far (p := ⟨w.heap.size + 1, 5, none⟩) (show w.heap.size + 2 ≠ w.heap.size + 1 by omega) (.int .i64 0)).far (p := ⟨w.heap.size + 1, 6, none⟩) (show w.heap.size + 2 ≠ w.heap.size + 1 by omega) (.bool false)).far (p := ⟨w.heap.size + 1, 7, none⟩) (show w.heap.size + 2 ≠ w.heap.size + 1 by omega) (.int .u8 0)).far (p := ⟨w.heap.size + 1, 8, none⟩) (show w.heap.size + 2 ≠ w.heap.size + 1 by omega) (.int .u32 0)).far (p := ⟨w.heap.size + 1, 9, none⟩) (show w.heap.size + 2 ≠ w.heap.size + 1 by omega) (.int .i64 0)).far (p := ⟨w.heap.size + 1, 10, none⟩) (show w.heap.size + 2 ≠ w.heap.size + 1 by omega) (.int .i64 0)).far (p := ⟨w.heap.size + 1, 11, none⟩) (show w.heap.size + 2 ≠ w.heap.size + 1 by omega) (.slice none 0 0)).set_ 0 (.int .u32 0)).set_ 1 (.int .i64 0))
  have hL7 := (lo_set (lo_set (lo_set (lo_set (lo_set (lo_set (lo_set (lo_set (lo_set (lo_set (lo_set (lo_set (lo_set (lo_set hL (p := ⟨w.heap.size + 1, 0, none⟩) (show w.heap.size ≤ w.heap.size + 1 by omega) (.int .u8 4)) (p := ⟨w.heap.size + 1, 1, none⟩) (show w.heap.size ≤ w.heap.size + 1 by omega) (.int .u8 fl)) (p := ⟨w.heap.size + 1, 2, none⟩) (show w.heap.size ≤ w.heap.size + 1 by omega) (.int .i64 0)) (p := ⟨w.heap.size + 1, 3, none⟩) (show w.heap.size ≤ w.heap.size + 1 by omega) (.string ⟨#[]⟩)) (p := ⟨w.heap.size + 1, 4, none⟩) (show w.heap.size ≤ w.heap.size + 1 by omega) (.int .i64 0)) (p := ⟨w.heap.size + 1, 5, none⟩) (show w.heap.size ≤ w.heap.size + 1 by omega) (.int .i64 0)) (p := ⟨w.heap.size + 1, 6, none⟩) (show w.heap.size ≤ w.heap.size + 1 by omega) (.bool false)) (p := ⟨w.heap.size + 1, 7, none⟩) (show w.heap.size ≤ w.heap.size + 1 by omega) (.int .u8 0)) (p := ⟨w.heap.size + 1, 8, none⟩) (show w.heap.size ≤ w.heap.size + 1 by omega) (.int .u32 0)) (p := ⟨w.heap.size + 1, 9, none⟩) (show w.heap.size ≤ w.heap.size + 1 by omega) (.int .i64 0)) (p := ⟨w.heap.size + 1, 10, none⟩) (show w.heap.size ≤ w.heap.size + 1 by omega) (.int .i64 0)) (p := ⟨w.heap.size + 1, 11, none⟩) (show w.heap.size ≤ w.heap.size + 1 by omega) (.slice none 0 0)) (p := ⟨w.heap.size + 2, 0, none⟩) (show w.heap.size ≤ w.heap.size + 2 by omega) (.int .u32 0)) (p := ⟨w.heap.size + 2, 1, none⟩) (show w.heap.size ≤ w.heap.size + 2 by omega) (.int .i64 0))
  clear hR hQ hL hX lR lQ
  generalize ((((((((((((((w1.setCell ⟨w.heap.size + 1, 0, none⟩ (.int .u8 4)).setCell ⟨w.heap.size + 1, 1, none⟩ (.int .u8 fl)).setCell ⟨w.heap.size + 1, 2, none⟩ (.int .i64 0)).setCell ⟨w.heap.size + 1, 3, none⟩ (.string ⟨#[]⟩)).setCell ⟨w.heap.size + 1, 4, none⟩ (.int .i64 0)).setCell ⟨w.heap.size + 1, 5, none⟩ (.int .i64 0)).setCell ⟨w.heap.size + 1, 6, none⟩ (.bool false)).setCell ⟨w.heap.size + 1, 7, none⟩ (.int .u8 0)).setCell ⟨w.heap.size + 1, 8, none⟩ (.int .u32 0)).setCell ⟨w.heap.size + 1, 9, none⟩ (.int .i64 0)).setCell ⟨w.heap.size + 1, 10, none⟩ (.int .i64 0)).setCell ⟨w.heap.size + 1, 11, none⟩ (.slice none 0 0)).setCell ⟨w.heap.size + 2, 0, none⟩ (.int .u32 0)).setCell ⟨w.heap.size + 2, 1, none⟩ (.int .i64 0)) = w7 at hR7 hQ7 hL7 ⊢
  simp only [List.setIfInBounds_toArray, List.set_cons_zero, List.set_cons_succ] at hR7 hQ7
  obtain ⟨cR, fR⟩ := hR7.facts
  obtain ⟨cQ, fQ⟩ := hQ7.facts
  exact bodyPost_ret (v := .tuple #[.agg #[.int .u8 4, .int .u8 fl, .int .i64 0, .string ⟨#[]⟩, .int .i64 0, .int .i64 0, .bool false, .int .u8 0, .int .u32 0, .int .i64 0, .int .i64 0, .slice none 0 0], .agg #[.int .u32 0, .int .i64 0]]) (by simp [results, Tryz.results52, go_sem, cR, cQ] <;> (repeat' (first | apply And.intro | (show _ = _; kernel_rfl)))) rfl ⟨rfl, hL7⟩
end Go.Proofs.YtdonnbfojcggmaaGreat
