import Derived.Test.YthjciimodemfpaaSmall
namespace Go.Proofs.Ythjciimodemfpaa
open Go.RowKit
attribute [local go_sem ↓] Go.wp_at_zero Go.wp_at_succ

/-- The first k numbers of values. -/
def rowC (v : Vs) : Nat → Array Value
  | 0 => #[.int .i64 0, .int .i64 0, .int .i64 0, .int .i64 0, .int .i64 0, .int .i64 0]
  | 1 => #[.int .i64 v.table, .int .i64 0, .int .i64 0, .int .i64 0, .int .i64 0, .int .i64 0]
  | 2 => #[.int .i64 v.table, .int .i64 v.push, .int .i64 0, .int .i64 0, .int .i64 0, .int .i64 0]
  | 3 => #[.int .i64 v.table, .int .i64 v.push, .int .i64 v.streams, .int .i64 0, .int .i64 0, .int .i64 0]
  | 4 => #[.int .i64 v.table, .int .i64 v.push, .int .i64 v.streams, .int .i64 v.window, .int .i64 0, .int .i64 0]
  | 5 => #[.int .i64 v.table, .int .i64 v.push, .int .i64 v.streams, .int .i64 v.window, .int .i64 v.frame, .int .i64 0]
  | _ => #[.int .i64 v.table, .int .i64 v.push, .int .i64 v.streams, .int .i64 v.window, .int .i64 v.frame, .int .i64 v.list]
theorem upto6 {k : Nat} (h : k ≤ 6) : k = 0 ∨ k = 1 ∨ k = 2 ∨ k = 3 ∨ k = 4 ∨ k = 5 ∨ k = 6 := by omega
def RowPost (w : World) (v : Vs) (e : Ending) (w' : World) : Prop := e = .returned (.agg #[.int .i64 v.table, .int .i64 v.push, .int .i64 v.streams, .int .i64 v.window, .int .i64 v.frame, .int .i64 v.list]) ∧ Below w.heap.size w w'
set_option maxRecDepth 100000 in
set_option maxHeartbeats 1600000 in
theorem row_any (v : Vs) (w : World) : Calls Try.prog 23 #[.agg #[.int .i64 v.table, .int .i64 v.push, .int .i64 v.streams, .int .i64 v.window, .int .i64 v.frame, .int .i64 v.list]] w (RowPost w v) := by
  have hV := ((Blk.new w 26 #[.int .i64 v.table, .int .i64 v.push, .int .i64 v.streams, .int .i64 v.window, .int .i64 v.frame, .int .i64 v.list]).alloc (.cells #[.int .i64 0, .int .i64 0, .int .i64 0, .int .i64 0, .int .i64 0, .int .i64 0] 55)).alloc (.cells #[.int .i64 0, .int .i64 0, .int .i64 0, .int .i64 0, .int .i64 0, .int .i64 0] 55)
  have hR := (Blk.new (w.alloc (.cells #[.int .i64 v.table, .int .i64 v.push, .int .i64 v.streams, .int .i64 v.window, .int .i64 v.frame, .int .i64 v.list] 26)) 55 #[.int .i64 0, .int .i64 0, .int .i64 0, .int .i64 0, .int .i64 0, .int .i64 0]).alloc (.cells #[.int .i64 0, .int .i64 0, .int .i64 0, .int .i64 0, .int .i64 0, .int .i64 0] 55)
  have hA := Blk.new ((w.alloc (.cells #[.int .i64 v.table, .int .i64 v.push, .int .i64 v.streams, .int .i64 v.window, .int .i64 v.frame, .int .i64 v.list] 26)).alloc (.cells #[.int .i64 0, .int .i64 0, .int .i64 0, .int .i64 0, .int .i64 0, .int .i64 0] 55)) 55 #[.int .i64 0, .int .i64 0, .int .i64 0, .int .i64 0, .int .i64 0, .int .i64 0]
  have hL := lo_alloc (lo_alloc (lo_alloc (lo_refl w) (.cells #[.int .i64 v.table, .int .i64 v.push, .int .i64 v.streams, .int .i64 v.window, .int .i64 v.frame, .int .i64 v.list] 26)) (.cells #[.int .i64 0, .int .i64 0, .int .i64 0, .int .i64 0, .int .i64 0, .int .i64 0] 55)) (.cells #[.int .i64 0, .int .i64 0, .int .i64 0, .int .i64 0, .int .i64 0, .int .i64 0] 55)
  simp only [World.size_alloc] at hR hA
  go_enter Try.func23, Try.ntmps23
  go_wp2_with fail
  refine (places_any _ _).mono ?_
  rintro e w1 ⟨rfl, hb⟩
  have hV := hV.lo hb
  have hR := hR.lo hb
  have hA := hA.lo hb
  have hL := lo_trans hL hb
  clear hb
  go_wp2_with fail
  go_loopw [7] (fun y wr => ∃ k : Nat, k ≤ 6 ∧ y = .int .i64 k ∧ Blk wr w.heap.size 26 #[.int .i64 v.table, .int .i64 v.push, .int .i64 v.streams, .int .i64 v.window, .int .i64 v.frame, .int .i64 v.list] ∧ Blk wr (w.heap.size + 1) 55 #[.int .i64 0, .int .i64 0, .int .i64 0, .int .i64 0, .int .i64 0, .int .i64 0] ∧ Blk wr (w.heap.size + 1 + 1) 55 (rowC v k) ∧ Below w.heap.size w wr) (fun y _ => 6 - (intOf y).toNat)
  case atStart => exact ⟨0, by omega, rfl, hV, hR, hA, hL⟩
  case round =>
    clear hV hR hA hL
    obtain ⟨k, hk, hy, hV, hR, hA, hL⟩ := hrel
    have HV := Lib.hid hV
    have HR := Lib.hid hR
    have HA := Lib.hid hA
    have HL := Lib.hid hL
    have lA := hA.lt
    have lV := hV.lt
    obtain ⟨cV, fV⟩ := hV.facts
    obtain ⟨cA, fA⟩ := hA.facts
    clear hV hR hA hL
    rcases upto6 hk with rfl | rfl | rfl | rfl | rfl | rfl | rfl
    · obtain rfl : u7 = .int .i64 0 := hy
      have ix : ∀ w', (Instr.index 50 (.agg #[.pointer (some ⟨w.heap.size, 0, none⟩), .pointer (some ⟨w.heap.size, 1, none⟩), .pointer (some ⟨w.heap.size, 2, none⟩), .pointer (some ⟨w.heap.size, 3, none⟩), .pointer (some ⟨w.heap.size, 4, none⟩), .pointer (some ⟨w.heap.size, 5, none⟩)]) (.int .i64 0)).run Try.prog w' = .ok (.pointer (some ⟨w.heap.size, 0, none⟩)) w' := fun _ => by kernel_rfl
      go_wp2_with fail
      go_roundw
      case rel =>
        have hA := HA.out.set_ 0 (.int .i64 v.table)
        exact ⟨1, by omega, by first | rfl | simp, HV.out.far (p := ⟨w.heap.size + 1 + 1, 0, none⟩) (by (try dsimp only); omega) _, HR.out.far (p := ⟨w.heap.size + 1 + 1, 0, none⟩) (by (try dsimp only); omega) _, hA, lo_set HL.out (p := ⟨w.heap.size + 1 + 1, 0, none⟩) (by (try dsimp only); omega) _⟩
      case measure => simp [intOf]
    · obtain rfl : u7 = .int .i64 1 := hy
      have ix : ∀ w', (Instr.index 50 (.agg #[.pointer (some ⟨w.heap.size, 0, none⟩), .pointer (some ⟨w.heap.size, 1, none⟩), .pointer (some ⟨w.heap.size, 2, none⟩), .pointer (some ⟨w.heap.size, 3, none⟩), .pointer (some ⟨w.heap.size, 4, none⟩), .pointer (some ⟨w.heap.size, 5, none⟩)]) (.int .i64 1)).run Try.prog w' = .ok (.pointer (some ⟨w.heap.size, 1, none⟩)) w' := fun _ => by kernel_rfl
      go_wp2_with fail
      go_roundw
      case rel =>
        have hA := HA.out.set_ 1 (.int .i64 v.push)
        exact ⟨2, by omega, by first | rfl | simp, HV.out.far (p := ⟨w.heap.size + 1 + 1, 1, none⟩) (by (try dsimp only); omega) _, HR.out.far (p := ⟨w.heap.size + 1 + 1, 1, none⟩) (by (try dsimp only); omega) _, hA, lo_set HL.out (p := ⟨w.heap.size + 1 + 1, 1, none⟩) (by (try dsimp only); omega) _⟩
      case measure => simp [intOf]
    · obtain rfl : u7 = .int .i64 2 := hy
      have ix : ∀ w', (Instr.index 50 (.agg #[.pointer (some ⟨w.heap.size, 0, none⟩), .pointer (some ⟨w.heap.size, 1, none⟩), .pointer (some ⟨w.heap.size, 2, none⟩), .pointer (some ⟨w.heap.size, 3, none⟩), .pointer (some ⟨w.heap.size, 4, none⟩), .pointer (some ⟨w.heap.size, 5, none⟩)]) (.int .i64 2)).run Try.prog w' = .ok (.pointer (some ⟨w.heap.size, 2, none⟩)) w' := fun _ => by kernel_rfl
      go_wp2_with fail
      go_roundw
      case rel =>
        have hA := HA.out.set_ 2 (.int .i64 v.streams)
        exact ⟨3, by omega, by first | rfl | simp, HV.out.far (p := ⟨w.heap.size + 1 + 1, 2, none⟩) (by (try dsimp only); omega) _, HR.out.far (p := ⟨w.heap.size + 1 + 1, 2, none⟩) (by (try dsimp only); omega) _, hA, lo_set HL.out (p := ⟨w.heap.size + 1 + 1, 2, none⟩) (by (try dsimp only); omega) _⟩
      case measure => simp [intOf]
    · obtain rfl : u7 = .int .i64 3 := hy
      have ix : ∀ w', (Instr.index 50 (.agg #[.pointer (some ⟨w.heap.size, 0, none⟩), .pointer (some ⟨w.heap.size, 1, none⟩), .pointer (some ⟨w.heap.size, 2, none⟩), .pointer (some ⟨w.heap.size, 3, none⟩), .pointer (some ⟨w.heap.size, 4, none⟩), .pointer (some ⟨w.heap.size, 5, none⟩)]) (.int .i64 3)).run Try.prog w' = .ok (.pointer (some ⟨w.heap.size, 3, none⟩)) w' := fun _ => by kernel_rfl
      go_wp2_with fail
      go_roundw
      case rel =>
        have hA := HA.out.set_ 3 (.int .i64 v.window)
        exact ⟨4, by omega, by first | rfl | simp, HV.out.far (p := ⟨w.heap.size + 1 + 1, 3, none⟩) (by (try dsimp only); omega) _, HR.out.far (p := ⟨w.heap.size + 1 + 1, 3, none⟩) (by (try dsimp only); omega) _, hA, lo_set HL.out (p := ⟨w.heap.size + 1 + 1, 3, none⟩) (by (try dsimp only); omega) _⟩
      case measure => simp [intOf]
    · obtain rfl : u7 = .int .i64 4 := hy
      have ix : ∀ w', (Instr.index 50 (.agg #[.pointer (some ⟨w.heap.size, 0, none⟩), .pointer (some ⟨w.heap.size, 1, none⟩), .pointer (some ⟨w.heap.size, 2, none⟩), .pointer (some ⟨w.heap.size, 3, none⟩), .pointer (some ⟨w.heap.size, 4, none⟩), .pointer (some ⟨w.heap.size, 5, none⟩)]) (.int .i64 4)).run Try.prog w' = .ok (.pointer (some ⟨w.heap.size, 4, none⟩)) w' := fun _ => by kernel_rfl
      go_wp2_with fail
      go_roundw
      case rel =>
        have hA := HA.out.set_ 4 (.int .i64 v.frame)
        exact ⟨5, by omega, by first | rfl | simp, HV.out.far (p := ⟨w.heap.size + 1 + 1, 4, none⟩) (by (try dsimp only); omega) _, HR.out.far (p := ⟨w.heap.size + 1 + 1, 4, none⟩) (by (try dsimp only); omega) _, hA, lo_set HL.out (p := ⟨w.heap.size + 1 + 1, 4, none⟩) (by (try dsimp only); omega) _⟩
      case measure => simp [intOf]
    · obtain rfl : u7 = .int .i64 5 := hy
      have ix : ∀ w', (Instr.index 50 (.agg #[.pointer (some ⟨w.heap.size, 0, none⟩), .pointer (some ⟨w.heap.size, 1, none⟩), .pointer (some ⟨w.heap.size, 2, none⟩), .pointer (some ⟨w.heap.size, 3, none⟩), .pointer (some ⟨w.heap.size, 4, none⟩), .pointer (some ⟨w.heap.size, 5, none⟩)]) (.int .i64 5)).run Try.prog w' = .ok (.pointer (some ⟨w.heap.size, 5, none⟩)) w' := fun _ => by kernel_rfl
      go_wp2_with fail
      go_roundw
      case rel =>
        have hA := HA.out.set_ 5 (.int .i64 v.list)
        exact ⟨6, by omega, by first | rfl | simp, HV.out.far (p := ⟨w.heap.size + 1 + 1, 5, none⟩) (by (try dsimp only); omega) _, HR.out.far (p := ⟨w.heap.size + 1 + 1, 5, none⟩) (by (try dsimp only); omega) _, hA, lo_set HL.out (p := ⟨w.heap.size + 1 + 1, 5, none⟩) (by (try dsimp only); omega) _⟩
      case measure => simp [intOf]
    · obtain rfl : u7 = .int .i64 6 := hy
      obtain ⟨cR, fR⟩ := HR.out.facts
      replace cA : ∀ i : Nat, wr.cell? ⟨w.heap.size + 1 + 1, i, none⟩ = #[.int .i64 v.table, .int .i64 v.push, .int .i64 v.streams, .int .i64 v.window, .int .i64 v.frame, .int .i64 v.list][i]? := cA
      have lR := HR.out.lt
      go_wp2_with fail
      refine bodyPost_ret (v := .agg #[.int .i64 v.table, .int .i64 v.push, .int .i64 v.streams, .int .i64 v.window, .int .i64 v.frame, .int .i64 v.list]) (by simp [results, Try.results23, go_sem, cR]; first | done | rfl) rfl ⟨rfl, ?_⟩
      have hl := HL.out
      repeat' (first | with_reducible exact hl | with_reducible apply lo_set | (dsimp only; omega) | simp)
end Go.Proofs.Ythjciimodemfpaa
