import Derived.Test.YtdonnbfojcggmaaGreatNews
namespace Go.Proofs.YtdonnbfojcggmaaGreat
open Go.RowKit
attribute [local go_sem ↓] Go.wp_at_zero Go.wp_at_succ

namespace Sets
/-- Values. -/
@[ext] structure Vs where
  table : Int
  push : Int
  streams : Int
  window : Int
  frame : Int
  list : Int
deriving DecidableEq
/-- What is wrong with a setting. -/
def faultL (id n : Int) : Int := if id = 2 then (if 1 < n then 1 else 0) else if id = 4 then (if 2147483647 < n then 3 else 0) else if id = 5 then (if n < 16384 ∨ 16777215 < n then 1 else 0) else 0
theorem fault_2 {n : Int} : faultL 2 n = if 1 < n then 1 else 0 := rfl
theorem fault_4 {n : Int} : faultL 4 n = if 2147483647 < n then 3 else 0 := rfl
theorem fault_5 {n : Int} : faultL 5 n = if n < 16384 ∨ 16777215 < n then 1 else 0 := rfl
theorem fault_other {id n : Int} (h2 : id ≠ 2) (h4 : id ≠ 4) (h5 : id ≠ 5) : faultL id n = 0 := by
  unfold faultL
  rw [if_neg h2, if_neg h4, if_neg h5]
/-- One setting set. -/
theorem fault_any (id n : Int) (w : World) : Calls Tryz.prog 135 #[.int .u16 id, .int .i64 n] w fun e w' => e = .returned (.int .u32 (faultL id n)) ∧ w = w' := by
  by_cases h2 : id = 2
  · subst h2
    rw [fault_2]
    by_cases c : 1 < n
    · rw [if_pos c]
      go_enter Tryz.func135, Tryz.ntmps135
      go_wp2_with fail
      go_ret
      exact ⟨rfl, rfl⟩
    · rw [if_neg c]
      go_enter Tryz.func135, Tryz.ntmps135
      go_wp2_with fail
      go_ret
      exact ⟨rfl, rfl⟩
  · by_cases h4 : id = 4
    · subst h4
      rw [fault_4]
      by_cases c : 2147483647 < n
      · rw [if_pos c]
        go_enter Tryz.func135, Tryz.ntmps135
        go_wp2_with fail
        go_ret
        exact ⟨rfl, rfl⟩
      · rw [if_neg c]
        go_enter Tryz.func135, Tryz.ntmps135
        go_wp2_with fail
        go_ret
        exact ⟨rfl, rfl⟩
    · by_cases h5 : id = 5
      · subst h5
        rw [fault_5]
        by_cases c : n < 16384
        · rw [if_pos (.inl c)]
          go_enter Tryz.func135, Tryz.ntmps135
          go_wp2_with fail
          go_ret
          exact ⟨rfl, rfl⟩
        · by_cases c1 : 16777215 < n
          · rw [if_pos (.inr c1)]
            go_enter Tryz.func135, Tryz.ntmps135
            go_wp2_with fail
            go_ret
            exact ⟨rfl, rfl⟩
          · rw [if_neg (by omega)]
            go_enter Tryz.func135, Tryz.ntmps135
            go_wp2_with fail
            go_ret
            exact ⟨rfl, rfl⟩
      · rw [fault_other h2 h4 h5]
        go_enter Tryz.func135, Tryz.ntmps135
        go_wp2_with fail
        go_ret
        exact ⟨rfl, rfl⟩
set_option maxRecDepth 100000 in
set_option maxHeartbeats 1600000 in
theorem places_any (g : Nat) (w : World) : Calls Tryz.prog 134 #[.pointer (some ⟨g, 0, none⟩)] w fun e w' => e = .returned (.agg #[.pointer (some ⟨g, 0, none⟩), .pointer (some ⟨g, 1, none⟩), .pointer (some ⟨g, 2, none⟩), .pointer (some ⟨g, 3, none⟩), .pointer (some ⟨g, 4, none⟩), .pointer (some ⟨g, 5, none⟩)]) ∧ Below w.heap.size w w' := by
  have hA := Blk.new w 254 #[.pointer none, .pointer none, .pointer none, .pointer none, .pointer none, .pointer none]
  obtain ⟨cA, fA⟩ := hA.facts
  have hB := Blk.new w 254 #[.pointer (some ⟨g, 0, none⟩), .pointer (some ⟨g, 1, none⟩), .pointer (some ⟨g, 2, none⟩), .pointer (some ⟨g, 3, none⟩), .pointer (some ⟨g, 4, none⟩), .pointer (some ⟨g, 5, none⟩)]
  obtain ⟨cB, fB⟩ := hB.facts
  go_enter Tryz.func134, Tryz.ntmps134
  go_upto_region 1 with fail
  go_region
  go_wp2_with fail
  exact bodyPost_ret (v := .agg #[.pointer (some ⟨g, 0, none⟩), .pointer (some ⟨g, 1, none⟩), .pointer (some ⟨g, 2, none⟩), .pointer (some ⟨g, 3, none⟩), .pointer (some ⟨g, 4, none⟩), .pointer (some ⟨g, 5, none⟩)]) (by simp [results, Tryz.results134, go_sem, cB]) rfl ⟨rfl, lo_drew (lo_alloc (lo_refl w) _)⟩

/-- The first k numbers of values. -/
def rowC (v : Vs) : Nat → Array Value
  | 0 => #[.int .i64 0, .int .i64 0, .int .i64 0, .int .i64 0, .int .i64 0, .int .i64 0]
  | 1 => #[.int .i64 v.table, .int .i64 0, .int .i64 0, .int .i64 0, .int .i64 0, .int .i64 0]
  | 2 => #[.int .i64 v.table, .int .i64 v.push, .int .i64 0, .int .i64 0, .int .i64 0, .int .i64 0]
  | 3 => #[.int .i64 v.table, .int .i64 v.push, .int .i64 v.streams, .int .i64 0, .int .i64 0, .int .i64 0]
  | 4 => #[.int .i64 v.table, .int .i64 v.push, .int .i64 v.streams, .int .i64 v.window, .int .i64 0, .int .i64 0]
  | 5 => #[.int .i64 v.table, .int .i64 v.push, .int .i64 v.streams, .int .i64 v.window, .int .i64 v.frame, .int .i64 0]
  | _ => #[.int .i64 v.table, .int .i64 v.push, .int .i64 v.streams, .int .i64 v.window, .int .i64 v.frame, .int .i64 v.list]
theorem upto6 {k : Nat} (h : k ≤ 6) : k = 0 ∨ k = 1 ∨ k = 2 ∨ k = 3 ∨ k = 4 ∨ k = 5 ∨ k = 6 := by omega
def RowPost (w : World) (v : Vs) (e : Ending) (w' : World) : Prop := e = .returned (.agg #[.int .i64 v.table, .int .i64 v.push, .int .i64 v.streams, .int .i64 v.window, .int .i64 v.frame, .int .i64 v.list]) ∧ Below w.heap.size w w'
set_option maxRecDepth 100000 in
set_option maxHeartbeats 1600000 in
theorem row_any (v : Vs) (w : World) : Calls Tryz.prog 163 #[.agg #[.int .i64 v.table, .int .i64 v.push, .int .i64 v.streams, .int .i64 v.window, .int .i64 v.frame, .int .i64 v.list]] w (RowPost w v) := by
  have hV := ((Blk.new w 36 #[.int .i64 v.table, .int .i64 v.push, .int .i64 v.streams, .int .i64 v.window, .int .i64 v.frame, .int .i64 v.list]).alloc (.cells #[.int .i64 0, .int .i64 0, .int .i64 0, .int .i64 0, .int .i64 0, .int .i64 0] 284)).alloc (.cells #[.int .i64 0, .int .i64 0, .int .i64 0, .int .i64 0, .int .i64 0, .int .i64 0] 284)
  have hR := (Blk.new (w.alloc (.cells #[.int .i64 v.table, .int .i64 v.push, .int .i64 v.streams, .int .i64 v.window, .int .i64 v.frame, .int .i64 v.list] 36)) 284 #[.int .i64 0, .int .i64 0, .int .i64 0, .int .i64 0, .int .i64 0, .int .i64 0]).alloc (.cells #[.int .i64 0, .int .i64 0, .int .i64 0, .int .i64 0, .int .i64 0, .int .i64 0] 284)
  have hA := Blk.new ((w.alloc (.cells #[.int .i64 v.table, .int .i64 v.push, .int .i64 v.streams, .int .i64 v.window, .int .i64 v.frame, .int .i64 v.list] 36)).alloc (.cells #[.int .i64 0, .int .i64 0, .int .i64 0, .int .i64 0, .int .i64 0, .int .i64 0] 284)) 284 #[.int .i64 0, .int .i64 0, .int .i64 0, .int .i64 0, .int .i64 0, .int .i64 0]
  have hL := lo_alloc (lo_alloc (lo_alloc (lo_refl w) (.cells #[.int .i64 v.table, .int .i64 v.push, .int .i64 v.streams, .int .i64 v.window, .int .i64 v.frame, .int .i64 v.list] 36)) (.cells #[.int .i64 0, .int .i64 0, .int .i64 0, .int .i64 0, .int .i64 0, .int .i64 0] 284)) (.cells #[.int .i64 0, .int .i64 0, .int .i64 0, .int .i64 0, .int .i64 0, .int .i64 0] 284)
  simp only [World.size_alloc] at hR hA
  go_enter Tryz.func163, Tryz.ntmps163
  go_wp2_with fail
  refine (places_any _ _).mono ?_
  rintro e w1 ⟨rfl, hb⟩
  have hV := hV.lo hb
  have hR := hR.lo hb
  have hA := hA.lo hb
  have hL := lo_trans hL hb
  clear hb
  go_wp2_with fail
  go_loopw [7] (fun y wr => ∃ k : Nat, k ≤ 6 ∧ y = .int .i64 k ∧ Blk wr w.heap.size 36 #[.int .i64 v.table, .int .i64 v.push, .int .i64 v.streams, .int .i64 v.window, .int .i64 v.frame, .int .i64 v.list] ∧ Blk wr (w.heap.size + 1) 284 #[.int .i64 0, .int .i64 0, .int .i64 0, .int .i64 0, .int .i64 0, .int .i64 0] ∧ Blk wr (w.heap.size + 1 + 1) 284 (rowC v k) ∧ Below w.heap.size w wr) (fun y _ => 6 - (intOf y).toNat)
  case atStart => exact ⟨0, by omega, rfl, hV, hR, hA, hL⟩
  case round =>
    clear hV hR hA hL
    obtain ⟨k, hk, hy, hV, hR, hA, hL⟩ := hrel
    have HV := Lib.hid hV
    have HR := Lib.hid hR
    have HA := Lib.hid hA
    have HL := Lib.hid hL
    have lA := hA.lt
    have lV := hV.lt
    obtain ⟨cV, fV⟩ := hV.facts
    obtain ⟨cA, fA⟩ := hA.facts
    clear hV hR hA hL
    rcases upto6 hk with rfl | rfl | rfl | rfl | rfl | rfl | rfl
    · obtain rfl : u7 = .int .i64 0 := hy
      have ix : ∀ w', (Instr.index 254 (.agg #[.pointer (some ⟨w.heap.size, 0, none⟩), .pointer (some ⟨w.heap.size, 1, none⟩), .pointer (some ⟨w.heap.size, 2, none⟩), .pointer (some ⟨w.heap.size, 3, none⟩), .pointer (some ⟨w.heap.size, 4, none⟩), .pointer (some ⟨w.heap.size, 5, none⟩)]) (.int .i64 0)).run Tryz.prog w' = .ok (.pointer (some ⟨w.heap.size, 0, none⟩)) w' := fun _ => by kernel_rfl
      go_wp2_with fail
      go_roundw
      case rel =>
        have hA := HA.out.set_ 0 (.int .i64 v.table)
        exact ⟨1, by omega, by first | rfl | simp, HV.out.far (p := ⟨w.heap.size + 1 + 1, 0, none⟩) (by (try dsimp only); omega) _, HR.out.far (p := ⟨w.heap.size + 1 + 1, 0, none⟩) (by (try dsimp only); omega) _, hA, lo_set HL.out (p := ⟨w.heap.size + 1 + 1, 0, none⟩) (by (try dsimp only); omega) _⟩
      case measure => simp [intOf]
    · obtain rfl : u7 = .int .i64 1 := hy
      have ix : ∀ w', (Instr.index 254 (.agg #[.pointer (some ⟨w.heap.size, 0, none⟩), .pointer (some ⟨w.heap.size, 1, none⟩), .pointer (some ⟨w.heap.size, 2, none⟩), .pointer (some ⟨w.heap.size, 3, none⟩), .pointer (some ⟨w.heap.size, 4, none⟩), .pointer (some ⟨w.heap.size, 5, none⟩)]) (.int .i64 1)).run Tryz.prog w' = .ok (.pointer (some ⟨w.heap.size, 1, none⟩)) w' := fun _ => by kernel_rfl
      go_wp2_with fail
      go_roundw
      case rel =>
        have hA := HA.out.set_ 1 (.int .i64 v.push)
        exact ⟨2, by omega, by first | rfl | simp, HV.out.far (p := ⟨w.heap.size + 1 + 1, 1, none⟩) (by (try dsimp only); omega) _, HR.out.far (p := ⟨w.heap.size + 1 + 1, 1, none⟩) (by (try dsimp only); omega) _, hA, lo_set HL.out (p := ⟨w.heap.size + 1 + 1, 1, none⟩) (by (try dsimp only); omega) _⟩
      case measure => simp [intOf]
    · obtain rfl : u7 = .int .i64 2 := hy
      have ix : ∀ w', (Instr.index 254 (.agg #[.pointer (some ⟨w.heap.size, 0, none⟩), .pointer (some ⟨w.heap.size, 1, none⟩), .pointer (some ⟨w.heap.size, 2, none⟩), .pointer (some ⟨w.heap.size, 3, none⟩), .pointer (some ⟨w.heap.size, 4, none⟩), .pointer (some ⟨w.heap.size, 5, none⟩)]) (.int .i64 2)).run Tryz.prog w' = .ok (.pointer (some ⟨w.heap.size, 2, none⟩)) w' := fun _ => by kernel_rfl
      go_wp2_with fail
      go_roundw
      case rel =>
        have hA := HA.out.set_ 2 (.int .i64 v.streams)
        exact ⟨3, by omega, by first | rfl | simp, HV.out.far (p := ⟨w.heap.size + 1 + 1, 2, none⟩) (by (try dsimp only); omega) _, HR.out.far (p := ⟨w.heap.size + 1 + 1, 2, none⟩) (by (try dsimp only); omega) _, hA, lo_set HL.out (p := ⟨w.heap.size + 1 + 1, 2, none⟩) (by (try dsimp only); omega) _⟩
      case measure => simp [intOf]
    · obtain rfl : u7 = .int .i64 3 := hy
      have ix : ∀ w', (Instr.index 254 (.agg #[.pointer (some ⟨w.heap.size, 0, none⟩), .pointer (some ⟨w.heap.size, 1, none⟩), .pointer (some ⟨w.heap.size, 2, none⟩), .pointer (some ⟨w.heap.size, 3, none⟩), .pointer (some ⟨w.heap.size, 4, none⟩), .pointer (some ⟨w.heap.size, 5, none⟩)]) (.int .i64 3)).run Tryz.prog w' = .ok (.pointer (some ⟨w.heap.size, 3, none⟩)) w' := fun _ => by kernel_rfl
      go_wp2_with fail
      go_roundw
      case rel =>
        have hA := HA.out.set_ 3 (.int .i64 v.window)
        exact ⟨4, by omega, by first | rfl | simp, HV.out.far (p := ⟨w.heap.size + 1 + 1, 3, none⟩) (by (try dsimp only); omega) _, HR.out.far (p := ⟨w.heap.size + 1 + 1, 3, none⟩) (by (try dsimp only); omega) _, hA, lo_set HL.out (p := ⟨w.heap.size + 1 + 1, 3, none⟩) (by (try dsimp only); omega) _⟩
      case measure => simp [intOf]
    · obtain rfl : u7 = .int .i64 4 := hy
      have ix : ∀ w', (Instr.index 254 (.agg #[.pointer (some ⟨w.heap.size, 0, none⟩), .pointer (some ⟨w.heap.size, 1, none⟩), .pointer (some ⟨w.heap.size, 2, none⟩), .pointer (some ⟨w.heap.size, 3, none⟩), .pointer (some ⟨w.heap.size, 4, none⟩), .pointer (some ⟨w.heap.size, 5, none⟩)]) (.int .i64 4)).run Tryz.prog w' = .ok (.pointer (some ⟨w.heap.size, 4, none⟩)) w' := fun _ => by kernel_rfl
      go_wp2_with fail
      go_roundw
      case rel =>
        have hA := HA.out.set_ 4 (.int .i64 v.frame)
        exact ⟨5, by omega, by first | rfl | simp, HV.out.far (p := ⟨w.heap.size + 1 + 1, 4, none⟩) (by (try dsimp only); omega) _, HR.out.far (p := ⟨w.heap.size + 1 + 1, 4, none⟩) (by (try dsimp only); omega) _, hA, lo_set HL.out (p := ⟨w.heap.size + 1 + 1, 4, none⟩) (by (try dsimp only); omega) _⟩
      case measure => simp [intOf]
    · obtain rfl : u7 = .int .i64 5 := hy
      have ix : ∀ w', (Instr.index 254 (.agg #[.pointer (some ⟨w.heap.size, 0, none⟩), .pointer (some ⟨w.heap.size, 1, none⟩), .pointer (some ⟨w.heap.size, 2, none⟩), .pointer (some ⟨w.heap.size, 3, none⟩), .pointer (some ⟨w.heap.size, 4, none⟩), .pointer (some ⟨w.heap.size, 5, none⟩)]) (.int .i64 5)).run Tryz.prog w' = .ok (.pointer (some ⟨w.heap.size, 5, none⟩)) w' := fun _ => by kernel_rfl
      go_wp2_with fail
      go_roundw
      case rel =>
        have hA := HA.out.set_ 5 (.int .i64 v.list)
        exact ⟨6, by omega, by first | rfl | simp, HV.out.far (p := ⟨w.heap.size + 1 + 1, 5, none⟩) (by (try dsimp only); omega) _, HR.out.far (p := ⟨w.heap.size + 1 + 1, 5, none⟩) (by (try dsimp only); omega) _, hA, lo_set HL.out (p := ⟨w.heap.size + 1 + 1, 5, none⟩) (by (try dsimp only); omega) _⟩
      case measure => simp [intOf]
    · obtain rfl : u7 = .int .i64 6 := hy
      obtain ⟨cR, fR⟩ := HR.out.facts
      replace cA : ∀ i : Nat, wr.cell? ⟨w.heap.size + 1 + 1, i, none⟩ = #[.int .i64 v.table, .int .i64 v.push, .int .i64 v.streams, .int .i64 v.window, .int .i64 v.frame, .int .i64 v.list][i]? := cA
      have lR := HR.out.lt
      go_wp2_with fail
      refine bodyPost_ret (v := .agg #[.int .i64 v.table, .int .i64 v.push, .int .i64 v.streams, .int .i64 v.window, .int .i64 v.frame, .int .i64 v.list]) (by simp [results, Tryz.results163, go_sem, cR]; first | done | rfl) rfl ⟨rfl, ?_⟩
      have hl := HL.out
      repeat' (first | with_reducible exact hl | with_reducible apply lo_set | (dsimp only; omega) | simp)

def goodN (id n : Int) : Prop := 0 ≤ n ∧ n ≤ 4294967295 ∧ faultL id n = 0
instance (id n : Int) : Decidable (goodN id n) := by unfold goodN; infer_instance
def goodK (v : Vs) : Nat → Prop
  | 0 => goodN 1 v.table
  | 1 => goodN 2 v.push
  | 2 => goodN 3 v.streams
  | 3 => goodN 4 v.window
  | 4 => goodN 5 v.frame
  | _ => goodN 6 v.list
/-- Values that may be. -/
def Vs.ok (v : Vs) : Prop := goodN 1 v.table ∧ goodN 2 v.push ∧ goodN 3 v.streams ∧ goodN 4 v.window ∧ goodN 5 v.frame ∧ goodN 6 v.list
instance (v : Vs) : Decidable v.ok := by unfold Vs.ok; infer_instance
def Vs.err (v : Vs) : Int := if v.ok then 0 else 8
theorem err_cases (v : Vs) : (v.ok ∧ v.err = 0) ∨ (¬ v.ok ∧ v.err = 8) := by
  by_cases h : v.ok
  · exact .inl ⟨h, if_pos h⟩
  · exact .inr ⟨h, if_neg h⟩
theorem ok_of_good {v : Vs} (h : ∀ j, j < 6 → goodK v j) : v.ok := ⟨h 0 (by decide), h 1 (by decide), h 2 (by decide), h 3 (by decide), h 4 (by decide), h 5 (by decide)⟩
theorem good_next {v : Vs} {k : Nat} (h : ∀ j, j < k → goodK v j) (hk : goodK v k) : ∀ j, j < k + 1 → goodK v j := fun j hj => by
  rcases Nat.lt_or_ge j k with h1 | h1
  · exact h j h1
  · rw [show j = k by omega]; exact hk
set_option maxRecDepth 100000 in
set_option maxHeartbeats 1600000 in
theorem check_any (v : Vs) (w : World) : Calls Tryz.prog 133 #[.agg #[.int .i64 v.table, .int .i64 v.push, .int .i64 v.streams, .int .i64 v.window, .int .i64 v.frame, .int .i64 v.list]] w (IntPost w v.err) := by
  have hL := lo_alloc (lo_refl w) (.cells #[.int .i64 v.table, .int .i64 v.push, .int .i64 v.streams, .int .i64 v.window, .int .i64 v.frame, .int .i64 v.list] 36)
  go_enter Tryz.func133, Tryz.ntmps133
  go_wp2_with fail
  refine (row_any v _).mono ?_
  rintro e w1 ⟨rfl, hb⟩
  have hL := Lib.hid (lo_trans hL hb)
  clear hb
  go_wp2_with fail
  go_loop [7] (fun y => ∃ k : Nat, k ≤ 6 ∧ y = .int .i64 k ∧ Hid (∀ j, j < k → goodK v j)) (fun y => 6 - (intOf y).toNat)
  case atStart => exact ⟨0, by omega, rfl, Lib.hid fun j hj => absurd hj (by omega)⟩
  case round =>
    obtain ⟨k, hk, hy, HG⟩ := hrel
    rcases upto6 hk with rfl | rfl | rfl | rfl | rfl | rfl | rfl
    · obtain rfl : u7 = .int .i64 0 := hy
      have ix : ∀ w', (Instr.index 284 (.agg #[.int .i64 v.table, .int .i64 v.push, .int .i64 v.streams, .int .i64 v.window, .int .i64 v.frame, .int .i64 v.list]) (.int .i64 0)).run Tryz.prog w' = .ok (.int .i64 v.table) w' := fun _ => by kernel_rfl
      have h := fault_any 1 v.table
      generalize hf : faultL 1 v.table = ft at h
      have HF := Lib.hid hf
      have H := Lib.hid h
      clear h hf
      by_cases c0 : v.table < 0
      · have he : Hid (v.err = 8) := Lib.hid (if_neg fun q => by have := q.1.1; omega)
        go_wp2_with fail
        go_ret
        exact ⟨by rw [he.out]; rfl, hL.out⟩
      · by_cases c1 : 4294967295 < v.table
        · have he : Hid (v.err = 8) := Lib.hid (if_neg fun q => by have := q.1.2.1; omega)
          go_wp2_with fail
          go_ret
          exact ⟨by rw [he.out]; rfl, hL.out⟩
        · by_cases c2 : ft = 0
          · subst c2
            have HN := Lib.hid (good_next HG.out (show goodK v 0 from ⟨by omega, by omega, HF.out⟩))
            go_wp2_with (go_at_call 135; refine (H.out _).mono ?_; rintro e w' ⟨rfl, rfl⟩)
            go_round
            case rel => exact ⟨1, by omega, by first | rfl | simp, HN⟩
            case measure => simp [intOf]
          · have he : Hid (v.err = 8) := Lib.hid (if_neg fun q => c2 (HF.out.symm.trans q.1.2.2))
            go_wp2_with (go_at_call 135; refine (H.out _).mono ?_; rintro e w' ⟨rfl, rfl⟩)
            go_ret
            exact ⟨by rw [he.out]; rfl, hL.out⟩
    · obtain rfl : u7 = .int .i64 1 := hy
      have ix : ∀ w', (Instr.index 284 (.agg #[.int .i64 v.table, .int .i64 v.push, .int .i64 v.streams, .int .i64 v.window, .int .i64 v.frame, .int .i64 v.list]) (.int .i64 1)).run Tryz.prog w' = .ok (.int .i64 v.push) w' := fun _ => by kernel_rfl
      have h := fault_any 2 v.push
      generalize hf : faultL 2 v.push = ft at h
      have HF := Lib.hid hf
      have H := Lib.hid h
      clear h hf
      by_cases c0 : v.push < 0
      · have he : Hid (v.err = 8) := Lib.hid (if_neg fun q => by have := q.2.1.1; omega)
        go_wp2_with fail
        go_ret
        exact ⟨by rw [he.out]; rfl, hL.out⟩
      · by_cases c1 : 4294967295 < v.push
        · have he : Hid (v.err = 8) := Lib.hid (if_neg fun q => by have := q.2.1.2.1; omega)
          go_wp2_with fail
          go_ret
          exact ⟨by rw [he.out]; rfl, hL.out⟩
        · by_cases c2 : ft = 0
          · subst c2
            have HN := Lib.hid (good_next HG.out (show goodK v 1 from ⟨by omega, by omega, HF.out⟩))
            go_wp2_with (go_at_call 135; refine (H.out _).mono ?_; rintro e w' ⟨rfl, rfl⟩)
            go_round
            case rel => exact ⟨2, by omega, by first | rfl | simp, HN⟩
            case measure => simp [intOf]
          · have he : Hid (v.err = 8) := Lib.hid (if_neg fun q => c2 (HF.out.symm.trans q.2.1.2.2))
            go_wp2_with (go_at_call 135; refine (H.out _).mono ?_; rintro e w' ⟨rfl, rfl⟩)
            go_ret
            exact ⟨by rw [he.out]; rfl, hL.out⟩
    · obtain rfl : u7 = .int .i64 2 := hy
      have ix : ∀ w', (Instr.index 284 (.agg #[.int .i64 v.table, .int .i64 v.push, .int .i64 v.streams, .int .i64 v.window, .int .i64 v.frame, .int .i64 v.list]) (.int .i64 2)).run Tryz.prog w' = .ok (.int .i64 v.streams) w' := fun _ => by kernel_rfl
      have h := fault_any 3 v.streams
      generalize hf : faultL 3 v.streams = ft at h
      have HF := Lib.hid hf
      have H := Lib.hid h
      clear h hf
      by_cases c0 : v.streams < 0
      · have he : Hid (v.err = 8) := Lib.hid (if_neg fun q => by have := q.2.2.1.1; omega)
        go_wp2_with fail
        go_ret
        exact ⟨by rw [he.out]; rfl, hL.out⟩
      · by_cases c1 : 4294967295 < v.streams
        · have he : Hid (v.err = 8) := Lib.hid (if_neg fun q => by have := q.2.2.1.2.1; omega)
          go_wp2_with fail
          go_ret
          exact ⟨by rw [he.out]; rfl, hL.out⟩
        · by_cases c2 : ft = 0
          · subst c2
            have HN := Lib.hid (good_next HG.out (show goodK v 2 from ⟨by omega, by omega, HF.out⟩))
            go_wp2_with (go_at_call 135; refine (H.out _).mono ?_; rintro e w' ⟨rfl, rfl⟩)
            go_round
            case rel => exact ⟨3, by omega, by first | rfl | simp, HN⟩
            case measure => simp [intOf]
          · have he : Hid (v.err = 8) := Lib.hid (if_neg fun q => c2 (HF.out.symm.trans q.2.2.1.2.2))
            go_wp2_with (go_at_call 135; refine (H.out _).mono ?_; rintro e w' ⟨rfl, rfl⟩)
            go_ret
            exact ⟨by rw [he.out]; rfl, hL.out⟩
    · obtain rfl : u7 = .int .i64 3 := hy
      have ix : ∀ w', (Instr.index 284 (.agg #[.int .i64 v.table, .int .i64 v.push, .int .i64 v.streams, .int .i64 v.window, .int .i64 v.frame, .int .i64 v.list]) (.int .i64 3)).run Tryz.prog w' = .ok (.int .i64 v.window) w' := fun _ => by kernel_rfl
      have h := fault_any 4 v.window
      generalize hf : faultL 4 v.window = ft at h
      have HF := Lib.hid hf
      have H := Lib.hid h
      clear h hf
      by_cases c0 : v.window < 0
      · have he : Hid (v.err = 8) := Lib.hid (if_neg fun q => by have := q.2.2.2.1.1; omega)
        go_wp2_with fail
        go_ret
        exact ⟨by rw [he.out]; rfl, hL.out⟩
      · by_cases c1 : 4294967295 < v.window
        · have he : Hid (v.err = 8) := Lib.hid (if_neg fun q => by have := q.2.2.2.1.2.1; omega)
          go_wp2_with fail
          go_ret
          exact ⟨by rw [he.out]; rfl, hL.out⟩
        · by_cases c2 : ft = 0
          · subst c2
            have HN := Lib.hid (good_next HG.out (show goodK v 3 from ⟨by omega, by omega, HF.out⟩))
            go_wp2_with (go_at_call 135; refine (H.out _).mono ?_; rintro e w' ⟨rfl, rfl⟩)
            go_round
            case rel => exact ⟨4, by omega, by first | rfl | simp, HN⟩
            case measure => simp [intOf]
          · have he : Hid (v.err = 8) := Lib.hid (if_neg fun q => c2 (HF.out.symm.trans q.2.2.2.1.2.2))
            go_wp2_with (go_at_call 135; refine (H.out _).mono ?_; rintro e w' ⟨rfl, rfl⟩)
            go_ret
            exact ⟨by rw [he.out]; rfl, hL.out⟩
    · obtain rfl : u7 = .int .i64 4 := hy
      have ix : ∀ w', (Instr.index 284 (.agg #[.int .i64 v.table, .int .i64 v.push, .int .i64 v.streams, .int .i64 v.window, .int .i64 v.frame, .int .i64 v.list]) (.int .i64 4)).run Tryz.prog w' = .ok (.int .i64 v.frame) w' := fun _ => by kernel_rfl
      have h := fault_any 5 v.frame
      generalize hf : faultL 5 v.frame = ft at h
      have HF := Lib.hid hf
      have H := Lib.hid h
      clear h hf
      by_cases c0 : v.frame < 0
      · have he : Hid (v.err = 8) := Lib.hid (if_neg fun q => by have := q.2.2.2.2.1.1; omega)
        go_wp2_with fail
        go_ret
        exact ⟨by rw [he.out]; rfl, hL.out⟩
      · by_cases c1 : 4294967295 < v.frame
        · have he : Hid (v.err = 8) := Lib.hid (if_neg fun q => by have := q.2.2.2.2.1.2.1; omega)
          go_wp2_with fail
          go_ret
          exact ⟨by rw [he.out]; rfl, hL.out⟩
        · by_cases c2 : ft = 0
          · subst c2
            have HN := Lib.hid (good_next HG.out (show goodK v 4 from ⟨by omega, by omega, HF.out⟩))
            go_wp2_with (go_at_call 135; refine (H.out _).mono ?_; rintro e w' ⟨rfl, rfl⟩)
            go_round
            case rel => exact ⟨5, by omega, by first | rfl | simp, HN⟩
            case measure => simp [intOf]
          · have he : Hid (v.err = 8) := Lib.hid (if_neg fun q => c2 (HF.out.symm.trans q.2.2.2.2.1.2.2))
            go_wp2_with (go_at_call 135; refine (H.out _).mono ?_; rintro e w' ⟨rfl, rfl⟩)
            go_ret
            exact ⟨by rw [he.out]; rfl, hL.out⟩
    · obtain rfl : u7 = .int .i64 5 := hy
      have ix : ∀ w', (Instr.index 284 (.agg #[.int .i64 v.table, .int .i64 v.push, .int .i64 v.streams, .int .i64 v.window, .int .i64 v.frame, .int .i64 v.list]) (.int .i64 5)).run Tryz.prog w' = .ok (.int .i64 v.list) w' := fun _ => by kernel_rfl
      have h := fault_any 6 v.list
      generalize hf : faultL 6 v.list = ft at h
      have HF := Lib.hid hf
      have H := Lib.hid h
      clear h hf
      by_cases c0 : v.list < 0
      · have he : Hid (v.err = 8) := Lib.hid (if_neg fun q => by have := q.2.2.2.2.2.1; omega)
        go_wp2_with fail
        go_ret
        exact ⟨by rw [he.out]; rfl, hL.out⟩
      · by_cases c1 : 4294967295 < v.list
        · have he : Hid (v.err = 8) := Lib.hid (if_neg fun q => by have := q.2.2.2.2.2.2.1; omega)
          go_wp2_with fail
          go_ret
          exact ⟨by rw [he.out]; rfl, hL.out⟩
        · by_cases c2 : ft = 0
          · subst c2
            have HN := Lib.hid (good_next HG.out (show goodK v 5 from ⟨by omega, by omega, HF.out⟩))
            go_wp2_with (go_at_call 135; refine (H.out _).mono ?_; rintro e w' ⟨rfl, rfl⟩)
            go_round
            case rel => exact ⟨6, by omega, by first | rfl | simp, HN⟩
            case measure => simp [intOf]
          · have he : Hid (v.err = 8) := Lib.hid (if_neg fun q => c2 (HF.out.symm.trans q.2.2.2.2.2.2.2))
            go_wp2_with (go_at_call 135; refine (H.out _).mono ?_; rintro e w' ⟨rfl, rfl⟩)
            go_ret
            exact ⟨by rw [he.out]; rfl, hL.out⟩
    · obtain rfl : u7 = .int .i64 6 := hy
      have he : Hid (v.err = 0) := Lib.hid (if_pos (ok_of_good HG.out))
      go_wp2_with fail
      go_ret
      exact ⟨by rw [he.out]; rfl, hL.out⟩

end Sets
end Go.Proofs.YtdonnbfojcggmaaGreat
