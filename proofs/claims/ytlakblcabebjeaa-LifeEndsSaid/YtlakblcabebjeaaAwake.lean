import Derived.Test.YtlakblcabebjeaaRun
import Derived.Deep.DrawnRows
namespace Go.Proofs.Ytlakblcabebjeaa
open Go.RowKit
attribute [local go_sem ↓] Go.wp_at_zero Go.wp_at_succ

def AwakePost (w : World) (e : Ending) (w' : World) : Prop := e = .returned (.bool true) ∧ Below w.heap.size w w'
theorem st_1 : stepL 0 0 true = (2, 0, false, false) := by kernel_rfl
theorem st_2 : stepL 2 6 true = (4, 0, false, false) := by kernel_rfl
theorem st_3 : stepL 4 1 false = (4, 5, true, false) := by kernel_rfl
theorem st_4 : stepL 2 1 false = (5, 5, false, false) := by kernel_rfl
def evs5 : List (Int × Bool) := [(0, false), (1, false), (7, false), (1, false), (6, false)]
def cells5 : Array Value := #[.int .u8 0, .bool false, .int .u8 1, .bool false, .int .u8 7, .bool false, .int .u8 1, .bool false, .int .u8 6, .bool false]
theorem run_5 : runL evs5 0 0 = (5, (2, false, false), 4) := by kernel_rfl
theorem evs_lit (w : World) : Evs (w.alloc (.cells cells5 30)) (some ⟨w.heap.size, 0, none⟩) 5 5 evs5 := by
  have h := World.ownsRow_lit (base := w.heap.size) (e := 30) (size := 2) w cells5 5 (Nat.le_refl _) (by decide) rfl
  exact agg_own (nf := 2) (C := fun x : Int × Bool => [Value.int .u8 x.1, Value.bool x.2]) (fun _ => rfl) (by decide) (xs := evs5) h (by decide)
set_option maxRecDepth 100000 in
set_option maxHeartbeats 3200000 in
theorem awake_any (w : World) : Calls Try.prog 13 #[] w (AwakePost w) := by
  have h1 := step_any 0 0 true (by decide) (by decide)
  rw [st_1] at h1
  have H1 := Lib.hid h1
  have h2 := step_any 2 6 true (by decide) (by decide)
  rw [st_2] at h2
  have H2 := Lib.hid h2
  have h3 := step_any 4 1 false (by decide) (by decide)
  rw [st_3] at h3
  have H3 := Lib.hid h3
  have h4 := step_any 2 1 false (by decide) (by decide)
  rw [st_4] at h4
  have H4 := Lib.hid h4
  have h5 := fun w0 : World => run_any 0 (some ⟨w0.heap.size, 0, none⟩) 5 5 evs5 (w0.alloc (.cells cells5 30)) (by decide) (evs_lit w0) (by decide)
  rw [run_5] at h5
  have H5 := Lib.hid h5
  clear h1 h2 h3 h4 h5
  go_enter Try.func13, Try.ntmps13
  go_wp2_with fail
  refine (H1.out _).mono ?_
  rintro e w1 ⟨rfl, hb1⟩
  have hA := Blk.new w1 27 #[.int .u32 0, .bool false, .bool false]
  have hL := Lib.hid (lo_alloc hb1 (.cells #[.int .u32 0, .bool false, .bool false] 27))
  clear hb1
  go_wp2_with fail
  refine (H2.out _).mono ?_
  rintro e w2 ⟨rfl, hb2⟩
  have hA := (hA.lo hb2).alloc (.cells #[.int .u32 0, .bool false, .bool false] 27)
  have hB := Blk.new w2 27 #[.int .u32 0, .bool false, .bool false]
  have hL := Lib.hid (lo_alloc (lo_trans hL.out hb2) (.cells #[.int .u32 0, .bool false, .bool false] 27))
  clear hb2
  go_wp2_with fail
  refine (H3.out _).mono ?_
  rintro e w3 ⟨rfl, hb3⟩
  have hA := (hA.lo hb3).alloc (.cells #[.int .u32 5, .bool true, .bool false] 27)
  have hB := (hB.lo hb3).alloc (.cells #[.int .u32 5, .bool true, .bool false] 27)
  have hC := Blk.new w3 27 #[.int .u32 5, .bool true, .bool false]
  have hL := Lib.hid (lo_alloc (lo_trans hL.out hb3) (.cells #[.int .u32 5, .bool true, .bool false] 27))
  clear hb3
  go_wp2_with fail
  refine (H4.out _).mono ?_
  rintro e w4 ⟨rfl, hb4⟩
  have hA := (hA.lo hb4).alloc (.cells #[.int .u32 5, .bool false, .bool false] 27)
  have hB := (hB.lo hb4).alloc (.cells #[.int .u32 5, .bool false, .bool false] 27)
  have hC := (hC.lo hb4).alloc (.cells #[.int .u32 5, .bool false, .bool false] 27)
  have hD := Blk.new w4 27 #[.int .u32 5, .bool false, .bool false]
  have hL := Lib.hid (lo_alloc (lo_trans hL.out hb4) (.cells #[.int .u32 5, .bool false, .bool false] 27))
  clear hb4
  go_upto_region 5 with fail
  generalize w4.heap.size = g4 at *
  generalize w4.alloc (.cells #[.int .u32 5, .bool false, .bool false] 27) = w5 at *
  go_wp2_with fail
  refine (H5.out w5).mono ?_
  rintro e w6 ⟨rfl, hb6⟩
  have hA := ((hA.alloc (.cells cells5 30)).lo hb6).alloc (.cells #[.int .u32 2, .bool false, .bool false] 27)
  have hB := ((hB.alloc (.cells cells5 30)).lo hb6).alloc (.cells #[.int .u32 2, .bool false, .bool false] 27)
  have hC := ((hC.alloc (.cells cells5 30)).lo hb6).alloc (.cells #[.int .u32 2, .bool false, .bool false] 27)
  have hD := ((hD.alloc (.cells cells5 30)).lo hb6).alloc (.cells #[.int .u32 2, .bool false, .bool false] 27)
  have hL := Lib.hid (lo_alloc (lo_trans (lo_alloc hL.out (.cells cells5 30)) hb6) (.cells #[.int .u32 2, .bool false, .bool false] 27))
  obtain ⟨cA, fA⟩ := hA.facts
  obtain ⟨cB, fB⟩ := hB.facts
  obtain ⟨cC, fC⟩ := hC.facts
  obtain ⟨cD, fD⟩ := hD.facts
  clear hb6
  have t1 : takesL 1 = true := rfl
  have t2 : sendsL 2 = true := rfl
  have t3 : sendsL 3 = false := rfl
  have t4 : overL 5 = true := rfl
  have t5 : overL 0 = false := rfl
  go_wp2_with (first
    | (go_at_call 10; refine (takes_any _ _).mono ?_; rintro e w' ⟨rfl, rfl⟩)
    | (go_at_call 11; refine (sends_any _ _).mono ?_; rintro e w' ⟨rfl, rfl⟩)
    | (go_at_call 12; refine (over_any _ _).mono ?_; rintro e w' ⟨rfl, rfl⟩))
  go_ret
  exact ⟨rfl, hL.out⟩
end Go.Proofs.Ytlakblcabebjeaa
