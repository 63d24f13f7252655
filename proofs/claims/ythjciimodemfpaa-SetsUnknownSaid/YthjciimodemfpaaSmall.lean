import Derived.Test.YthjciimodemfpaaKit
import Derived.WalkSpells
import Derived.WalkLawsBesides
import Derived.Deep.DeepFit
import Derived.Deep.RegionHeld3
import Derived.Deep.RegionHeld
import Derived.WalkSmall
import Derived.Deep.RegionWith
import Derived.Deep.QuietTactic
import Derived.BigQuiet
import Derived.Deep.DrawnRows
import Derived.Deep.DeepCutAuto
import Derived.Outline
namespace Go.Proofs.Ythjciimodemfpaa
open Go.RowKit
attribute [local go_sem ↓] Go.wp_at_zero Go.wp_at_succ

/-- Values. -/
@[ext] structure Vs where
  table : Int
  push : Int
  streams : Int
  window : Int
  frame : Int
  list : Int
deriving DecidableEq
def IntPost (w : World) (n : Int) (e : Ending) (w' : World) : Prop := e = .returned (.int .i64 n) ∧ Below w.heap.size w w'
/-- What is wrong with a setting. -/
def faultL (id n : Int) : Int := if id = 2 then (if 1 < n then 1 else 0) else if id = 4 then (if 2147483647 < n then 3 else 0) else if id = 5 then (if n < 16384 ∨ 16777215 < n then 1 else 0) else 0
theorem fault_2 {n : Int} : faultL 2 n = if 1 < n then 1 else 0 := rfl
theorem fault_4 {n : Int} : faultL 4 n = if 2147483647 < n then 3 else 0 := rfl
theorem fault_5 {n : Int} : faultL 5 n = if n < 16384 ∨ 16777215 < n then 1 else 0 := rfl
theorem fault_other {id n : Int} (h2 : id ≠ 2) (h4 : id ≠ 4) (h5 : id ≠ 5) : faultL id n = 0 := by
  unfold faultL
  rw [if_neg h2, if_neg h4, if_neg h5]
/-- One setting set. -/
def setL (v : Vs) (id n : Int) : Vs :=
  if id = 1 then { v with table := n } else if id = 2 then { v with push := n } else if id = 3 then { v with streams := n } else if id = 4 then { v with window := n } else if id = 5 then { v with frame := n } else if id = 6 then { v with list := n } else v
theorem set_other (v : Vs) {id : Int} (n : Int) (h : ¬ (1 ≤ id ∧ id ≤ 6)) : setL v id n = v := by
  unfold setL
  rw [if_neg (by omega), if_neg (by omega), if_neg (by omega), if_neg (by omega), if_neg (by omega), if_neg (by omega)]
theorem bounds_u16 {x : Int} (h : (Lit.int .u16 x).wf = true) : 0 ≤ x ∧ x ≤ 65535 := by
  simp [Lit.wf, IntKind.min, IntKind.max, IntKind.signed, IntKind.bits] at h
  omega
theorem bounds_u32 {x : Int} (h : (Lit.int .u32 x).wf = true) : 0 ≤ x ∧ x ≤ 4294967295 := by
  simp [Lit.wf, IntKind.min, IntKind.max, IntKind.signed, IntKind.bits] at h
  omega
theorem bounds_i64 {x : Int} (h : (Lit.int .i64 x).wf = true) : -9223372036854775808 ≤ x ∧ x ≤ 9223372036854775807 := by
  simp [Lit.wf, IntKind.min, IntKind.max, IntKind.signed, IntKind.bits] at h
  omega
theorem fault_any (id n : Int) (w : World) : Calls Try.prog 20 #[.int .u16 id, .int .i64 n] w fun e w' => e = .returned (.int .u32 (faultL id n)) ∧ w = w' := by
  by_cases h2 : id = 2
  · subst h2
    rw [fault_2]
    by_cases c : 1 < n
    · rw [if_pos c]
      go_enter Try.func20, Try.ntmps20
      go_wp2_with fail
      go_ret
      exact ⟨rfl, rfl⟩
    · rw [if_neg c]
      go_enter Try.func20, Try.ntmps20
      go_wp2_with fail
      go_ret
      exact ⟨rfl, rfl⟩
  · by_cases h4 : id = 4
    · subst h4
      rw [fault_4]
      by_cases c : 2147483647 < n
      · rw [if_pos c]
        go_enter Try.func20, Try.ntmps20
        go_wp2_with fail
        go_ret
        exact ⟨rfl, rfl⟩
      · rw [if_neg c]
        go_enter Try.func20, Try.ntmps20
        go_wp2_with fail
        go_ret
        exact ⟨rfl, rfl⟩
    · by_cases h5 : id = 5
      · subst h5
        rw [fault_5]
        by_cases c : n < 16384
        · rw [if_pos (.inl c)]
          go_enter Try.func20, Try.ntmps20
          go_wp2_with fail
          go_ret
          exact ⟨rfl, rfl⟩
        · by_cases c1 : 16777215 < n
          · rw [if_pos (.inr c1)]
            go_enter Try.func20, Try.ntmps20
            go_wp2_with fail
            go_ret
            exact ⟨rfl, rfl⟩
          · rw [if_neg (by omega)]
            go_enter Try.func20, Try.ntmps20
            go_wp2_with fail
            go_ret
            exact ⟨rfl, rfl⟩
      · rw [fault_other h2 h4 h5]
        go_enter Try.func20, Try.ntmps20
        go_wp2_with fail
        go_ret
        exact ⟨rfl, rfl⟩
set_option maxRecDepth 100000 in
set_option maxHeartbeats 1600000 in
theorem fault_ref (id n : Int) (h0 : 0 ≤ n) (h1 : n ≤ 4294967295) (w : World) : Calls Try.prog 21 #[.agg #[.int .u16 id, .int .u32 n]] w (IntPost w (faultL id n)) := by
  by_cases h2 : id = 2
  · subst h2
    rw [fault_2]
    by_cases c : 1 < n
    · rw [if_pos c]
      go_enter Try.func21, Try.ntmps21
      go_wp2_with fail
      go_ret
      exact ⟨rfl, lo_alloc (lo_refl w) _⟩
    · rw [if_neg c]
      go_enter Try.func21, Try.ntmps21
      go_wp2_with fail
      go_ret
      exact ⟨rfl, lo_alloc (lo_refl w) _⟩
  · by_cases h4 : id = 4
    · subst h4
      rw [fault_4]
      by_cases c : 2147483647 < n
      · rw [if_pos c]
        go_enter Try.func21, Try.ntmps21
        go_wp2_with fail
        go_ret
        exact ⟨rfl, lo_alloc (lo_refl w) _⟩
      · rw [if_neg c]
        go_enter Try.func21, Try.ntmps21
        go_wp2_with fail
        go_ret
        exact ⟨rfl, lo_alloc (lo_refl w) _⟩
    · by_cases h5 : id = 5
      · subst h5
        rw [fault_5]
        by_cases c : n < 16384
        · rw [if_pos (.inl c)]
          go_enter Try.func21, Try.ntmps21
          go_wp2_with fail
          go_ret
          exact ⟨rfl, lo_alloc (lo_refl w) _⟩
        · by_cases c1 : 16777215 < n
          · rw [if_pos (.inr c1)]
            go_enter Try.func21, Try.ntmps21
            go_wp2_with fail
            go_ret
            exact ⟨rfl, lo_alloc (lo_refl w) _⟩
          · rw [if_neg (by omega)]
            go_enter Try.func21, Try.ntmps21
            go_wp2_with fail
            go_ret
            exact ⟨rfl, lo_alloc (lo_refl w) _⟩
      · rw [fault_other h2 h4 h5]
        go_enter Try.func21, Try.ntmps21
        go_wp2_with fail
        go_ret
        exact ⟨rfl, lo_alloc (lo_refl w) _⟩
set_option maxRecDepth 100000 in
set_option maxHeartbeats 3200000 in
theorem set_ref (v : Vs) (id n : Int) (h0 : 0 ≤ n) (h1 : n ≤ 4294967295) (w : World) : Calls Try.prog 22 #[.agg #[.int .i64 v.table, .int .i64 v.push, .int .i64 v.streams, .int .i64 v.window, .int .i64 v.frame, .int .i64 v.list], .agg #[.int .u16 id, .int .u32 n]] w fun e w' => e = .returned (.agg #[.int .i64 (setL v id n).table, .int .i64 (setL v id n).push, .int .i64 (setL v id n).streams, .int .i64 (setL v id n).window, .int .i64 (setL v id n).frame, .int .i64 (setL v id n).list]) ∧ Below w.heap.size w w' := by
  by_cases k1 : id = 1
  · subst k1
    have hs : setL v 1 n = { v with table := n } := rfl
    rw [hs]
    clear hs
    go_enter Try.func22, Try.ntmps22
    go_wp2_with fail
    refine bodyPost_ret (by simp [results, Try.results22, go_sem]; first | done | rfl) rfl ⟨rfl, ?_⟩
    have hl := lo_alloc (lo_alloc (lo_alloc (lo_refl w) (.cells #[.int .i64 v.table, .int .i64 v.push, .int .i64 v.streams, .int .i64 v.window, .int .i64 v.frame, .int .i64 v.list] 23)) (.cells #[.int .u16 1, .int .u32 n] 47)) (.cells #[.int .i64 0, .int .i64 0, .int .i64 0, .int .i64 0, .int .i64 0, .int .i64 0] 23)
    repeat' (first | with_reducible exact hl | with_reducible apply lo_set | with_reducible apply lo_alloc | with_reducible exact lo_refl _ | simp)
  by_cases k2 : id = 2
  · subst k2
    have hs : setL v 2 n = { v with push := n } := rfl
    rw [hs]
    clear hs
    go_enter Try.func22, Try.ntmps22
    go_wp2_with fail
    refine bodyPost_ret (by simp [results, Try.results22, go_sem]; first | done | rfl) rfl ⟨rfl, ?_⟩
    have hl := lo_alloc (lo_alloc (lo_alloc (lo_refl w) (.cells #[.int .i64 v.table, .int .i64 v.push, .int .i64 v.streams, .int .i64 v.window, .int .i64 v.frame, .int .i64 v.list] 23)) (.cells #[.int .u16 2, .int .u32 n] 47)) (.cells #[.int .i64 0, .int .i64 0, .int .i64 0, .int .i64 0, .int .i64 0, .int .i64 0] 23)
    repeat' (first | with_reducible exact hl | with_reducible apply lo_set | with_reducible apply lo_alloc | with_reducible exact lo_refl _ | simp)
  by_cases k3 : id = 3
  · subst k3
    have hs : setL v 3 n = { v with streams := n } := rfl
    rw [hs]
    clear hs
    go_enter Try.func22, Try.ntmps22
    go_wp2_with fail
    refine bodyPost_ret (by simp [results, Try.results22, go_sem]; first | done | rfl) rfl ⟨rfl, ?_⟩
    have hl := lo_alloc (lo_alloc (lo_alloc (lo_refl w) (.cells #[.int .i64 v.table, .int .i64 v.push, .int .i64 v.streams, .int .i64 v.window, .int .i64 v.frame, .int .i64 v.list] 23)) (.cells #[.int .u16 3, .int .u32 n] 47)) (.cells #[.int .i64 0, .int .i64 0, .int .i64 0, .int .i64 0, .int .i64 0, .int .i64 0] 23)
    repeat' (first | with_reducible exact hl | with_reducible apply lo_set | with_reducible apply lo_alloc | with_reducible exact lo_refl _ | simp)
  by_cases k4 : id = 4
  · subst k4
    have hs : setL v 4 n = { v with window := n } := rfl
    rw [hs]
    clear hs
    go_enter Try.func22, Try.ntmps22
    go_wp2_with fail
    refine bodyPost_ret (by simp [results, Try.results22, go_sem]; first | done | rfl) rfl ⟨rfl, ?_⟩
    have hl := lo_alloc (lo_alloc (lo_alloc (lo_refl w) (.cells #[.int .i64 v.table, .int .i64 v.push, .int .i64 v.streams, .int .i64 v.window, .int .i64 v.frame, .int .i64 v.list] 23)) (.cells #[.int .u16 4, .int .u32 n] 47)) (.cells #[.int .i64 0, .int .i64 0, .int .i64 0, .int .i64 0, .int .i64 0, .int .i64 0] 23)
    repeat' (first | with_reducible exact hl | with_reducible apply lo_set | with_reducible apply lo_alloc | with_reducible exact lo_refl _ | simp)
  by_cases k5 : id = 5
  · subst k5
    have hs : setL v 5 n = { v with frame := n } := rfl
    rw [hs]
    clear hs
    go_enter Try.func22, Try.ntmps22
    go_wp2_with fail
    refine bodyPost_ret (by simp [results, Try.results22, go_sem]; first | done | rfl) rfl ⟨rfl, ?_⟩
    have hl := lo_alloc (lo_alloc (lo_alloc (lo_refl w) (.cells #[.int .i64 v.table, .int .i64 v.push, .int .i64 v.streams, .int .i64 v.window, .int .i64 v.frame, .int .i64 v.list] 23)) (.cells #[.int .u16 5, .int .u32 n] 47)) (.cells #[.int .i64 0, .int .i64 0, .int .i64 0, .int .i64 0, .int .i64 0, .int .i64 0] 23)
    repeat' (first | with_reducible exact hl | with_reducible apply lo_set | with_reducible apply lo_alloc | with_reducible exact lo_refl _ | simp)
  by_cases k6 : id = 6
  · subst k6
    have hs : setL v 6 n = { v with list := n } := rfl
    rw [hs]
    clear hs
    go_enter Try.func22, Try.ntmps22
    go_wp2_with fail
    refine bodyPost_ret (by simp [results, Try.results22, go_sem]; first | done | rfl) rfl ⟨rfl, ?_⟩
    have hl := lo_alloc (lo_alloc (lo_alloc (lo_refl w) (.cells #[.int .i64 v.table, .int .i64 v.push, .int .i64 v.streams, .int .i64 v.window, .int .i64 v.frame, .int .i64 v.list] 23)) (.cells #[.int .u16 6, .int .u32 n] 47)) (.cells #[.int .i64 0, .int .i64 0, .int .i64 0, .int .i64 0, .int .i64 0, .int .i64 0] 23)
    repeat' (first | with_reducible exact hl | with_reducible apply lo_set | with_reducible apply lo_alloc | with_reducible exact lo_refl _ | simp)
  rw [set_other v n (by omega)]
  go_enter Try.func22, Try.ntmps22
  go_wp2_with fail
  refine bodyPost_ret (by simp [results, Try.results22, go_sem]; first | done | rfl) rfl ⟨rfl, ?_⟩
  have hl := lo_alloc (lo_alloc (lo_alloc (lo_refl w) (.cells #[.int .i64 v.table, .int .i64 v.push, .int .i64 v.streams, .int .i64 v.window, .int .i64 v.frame, .int .i64 v.list] 23)) (.cells #[.int .u16 id, .int .u32 n] 47)) (.cells #[.int .i64 0, .int .i64 0, .int .i64 0, .int .i64 0, .int .i64 0, .int .i64 0] 23)
  repeat' (first | with_reducible exact hl | with_reducible apply lo_set | with_reducible apply lo_alloc | with_reducible exact lo_refl _ | simp)
set_option maxRecDepth 100000 in
set_option maxHeartbeats 1600000 in
theorem places_any (g : Nat) (w : World) : Calls Try.prog 19 #[.pointer (some ⟨g, 0, none⟩)] w fun e w' => e = .returned (.agg #[.pointer (some ⟨g, 0, none⟩), .pointer (some ⟨g, 1, none⟩), .pointer (some ⟨g, 2, none⟩), .pointer (some ⟨g, 3, none⟩), .pointer (some ⟨g, 4, none⟩), .pointer (some ⟨g, 5, none⟩)]) ∧ Below w.heap.size w w' := by
  have hA := Blk.new w 50 #[.pointer none, .pointer none, .pointer none, .pointer none, .pointer none, .pointer none]
  obtain ⟨cA, fA⟩ := hA.facts
  have hB := Blk.new w 50 #[.pointer (some ⟨g, 0, none⟩), .pointer (some ⟨g, 1, none⟩), .pointer (some ⟨g, 2, none⟩), .pointer (some ⟨g, 3, none⟩), .pointer (some ⟨g, 4, none⟩), .pointer (some ⟨g, 5, none⟩)]
  obtain ⟨cB, fB⟩ := hB.facts
  go_enter Try.func19, Try.ntmps19
  go_upto_region 1 with fail
  go_region
  go_wp2_with fail
  exact bodyPost_ret (v := .agg #[.pointer (some ⟨g, 0, none⟩), .pointer (some ⟨g, 1, none⟩), .pointer (some ⟨g, 2, none⟩), .pointer (some ⟨g, 3, none⟩), .pointer (some ⟨g, 4, none⟩), .pointer (some ⟨g, 5, none⟩)]) (by simp [results, Try.results19, go_sem, cB]) rfl ⟨rfl, lo_drew (lo_alloc (lo_refl w) _)⟩
/-- A new slice of six numbers. -/
def AllPost (w : World) (v : Vs) (e : Ending) (w' : World) : Prop := ∃ g, w.heap.size ≤ g ∧ e = .returned (.slice (some ⟨g, 0, none⟩) 6 6) ∧ Blk w' g 3 #[.int .i64 v.table, .int .i64 v.push, .int .i64 v.streams, .int .i64 v.window, .int .i64 v.frame, .int .i64 v.list] ∧ Below w.heap.size w w'
set_option maxRecDepth 100000 in
set_option maxHeartbeats 1600000 in
theorem all_ref (v : Vs) (w : World) : Calls Try.prog 24 #[.agg #[.int .i64 v.table, .int .i64 v.push, .int .i64 v.streams, .int .i64 v.window, .int .i64 v.frame, .int .i64 v.list]] w (AllPost w v) := by
  go_enter Try.func24, Try.ntmps24
  go_wp2_with fail
  go_ret
  exact ⟨w.heap.size + 1, by omega, by first | rfl | simp, by first | exact Blk.new (w.alloc (.cells #[.int .i64 v.table, .int .i64 v.push, .int .i64 v.streams, .int .i64 v.window, .int .i64 v.frame, .int .i64 v.list] 23)) 3 #[.int .i64 v.table, .int .i64 v.push, .int .i64 v.streams, .int .i64 v.window, .int .i64 v.frame, .int .i64 v.list] | (have := Blk.new (w.alloc (.cells #[.int .i64 v.table, .int .i64 v.push, .int .i64 v.streams, .int .i64 v.window, .int .i64 v.frame, .int .i64 v.list] 23)) 3 #[.int .i64 v.table, .int .i64 v.push, .int .i64 v.streams, .int .i64 v.window, .int .i64 v.frame, .int .i64 v.list]; simpa using this), lo_alloc (lo_alloc (lo_refl w) _) _⟩
set_option maxRecDepth 100000 in
set_option maxHeartbeats 1600000 in
theorem first_any (w : World) : Calls Try.prog 12 #[] w fun e w' => e = .returned (.agg #[.int .i64 4096, .int .i64 1, .int .i64 4294967295, .int .i64 65535, .int .i64 16384, .int .i64 4294967295]) ∧ Below w.heap.size w w' := by
  go_enter Try.func12, Try.ntmps12
  go_wp2_with fail
  refine bodyPost_ret (by simp [results, Try.results12, go_sem]; first | done | rfl) rfl ⟨rfl, ?_⟩
  repeat' (first | with_reducible exact lo_refl _ | with_reducible apply lo_set | with_reducible apply lo_alloc | simp)
set_option maxRecDepth 100000 in
set_option maxHeartbeats 1600000 in
theorem first_ref (w : World) : Calls Try.prog 13 #[] w fun e w' => e = .returned (.agg #[.int .i64 4096, .int .i64 1, .int .i64 4294967295, .int .i64 65535, .int .i64 16384, .int .i64 4294967295]) ∧ Below w.heap.size w w' := by
  go_enter Try.func13, Try.ntmps13
  go_wp2_with fail
  refine bodyPost_ret (by simp [results, Try.results13, go_sem]; first | done | rfl) rfl ⟨rfl, ?_⟩
  repeat' (first | with_reducible exact lo_refl _ | with_reducible apply lo_set | with_reducible apply lo_alloc | simp)
/-- A number laid into what may be. -/
def clampL (n : Int) : Int := if n < 0 then 0 else if 16 < n then 16 else n
def OwnPost (w : World) (m : Int) (e : Ending) (w' : World) : Prop := ∃ g, w.heap.size ≤ g ∧ e = .returned (.slice (some ⟨g, 0, none⟩) 2 2) ∧ Blk w' g 47 #[.int .u16 3, .int .u32 m, .int .u16 6, .int .u32 1024] ∧ Below w.heap.size w w'
set_option maxRecDepth 100000 in
set_option maxHeartbeats 1600000 in
theorem own_any (n : Int) (w : World) : Calls Try.prog 17 #[.int .i64 n] w (OwnPost w (clampL n)) := by
  unfold clampL
  by_cases c0 : n < 0
  · rw [if_pos c0]
    have d1 : ¬ 16 < n := by omega
    have d2 : n ≤ 0 := by omega
    have d3 : ¬ 0 ≤ n := by omega
    have d4 : ¬ 16 < 0 := by omega
    go_enter Try.func17, Try.ntmps17
    go_wp2_with fail
    go_ret
    exact ⟨w.heap.size, by omega, by first | rfl | simp, Blk.new w 47 #[.int .u16 3, .int .u32 0, .int .u16 6, .int .u32 1024], lo_alloc (lo_refl w) _⟩
  · rw [if_neg c0]
    by_cases c1 : 16 < n
    · rw [if_pos c1]
      have d2 : ¬ n ≤ 0 := by omega
      have d3 : 0 ≤ n := by omega
      have d4 : ¬ (16 : Int) ≤ 0 := by omega
      go_enter Try.func17, Try.ntmps17
      go_wp2_with fail
      go_ret
      exact ⟨w.heap.size, by omega, by first | rfl | simp, Blk.new w 47 #[.int .u16 3, .int .u32 16, .int .u16 6, .int .u32 1024], lo_alloc (lo_refl w) _⟩
    · rw [if_neg c1]
      by_cases c2 : n ≤ 0
      · have e : n = 0 := by omega
        subst e
        go_enter Try.func17, Try.ntmps17
        go_wp2_with fail
        go_ret
        exact ⟨w.heap.size, by omega, by first | rfl | simp, Blk.new w 47 #[.int .u16 3, .int .u32 0, .int .u16 6, .int .u32 1024], lo_alloc (lo_refl w) _⟩
      · have d3 : 0 ≤ n := by omega
        go_enter Try.func17, Try.ntmps17
        go_wp2_with fail
        go_ret
        exact ⟨w.heap.size, by omega, by first | rfl | simp, Blk.new w 47 #[.int .u16 3, .int .u32 n, .int .u16 6, .int .u32 1024], lo_alloc (lo_refl w) _⟩
set_option maxRecDepth 100000 in
set_option maxHeartbeats 1600000 in
theorem own_ref (n : Int) (w : World) : Calls Try.prog 18 #[.int .i64 n] w (OwnPost w (clampL n)) := by
  unfold clampL
  by_cases c0 : n < 0
  · rw [if_pos c0]
    have d1 : ¬ 16 < n := by omega
    have d2 : n ≤ 0 := by omega
    have d3 : ¬ 0 ≤ n := by omega
    have d4 : ¬ 16 < 0 := by omega
    go_enter Try.func18, Try.ntmps18
    go_wp2_with fail
    go_ret
    exact ⟨w.heap.size, by omega, by first | rfl | simp, Blk.new w 47 #[.int .u16 3, .int .u32 0, .int .u16 6, .int .u32 1024], lo_alloc (lo_refl w) _⟩
  · rw [if_neg c0]
    by_cases c1 : 16 < n
    · rw [if_pos c1]
      have d2 : ¬ n ≤ 0 := by omega
      have d3 : 0 ≤ n := by omega
      have d4 : ¬ (16 : Int) ≤ 0 := by omega
      go_enter Try.func18, Try.ntmps18
      go_wp2_with fail
      go_ret
      exact ⟨w.heap.size, by omega, by first | rfl | simp, Blk.new w 47 #[.int .u16 3, .int .u32 16, .int .u16 6, .int .u32 1024], lo_alloc (lo_refl w) _⟩
    · rw [if_neg c1]
      by_cases c2 : n ≤ 0
      · have e : n = 0 := by omega
        subst e
        go_enter Try.func18, Try.ntmps18
        go_wp2_with fail
        go_ret
        exact ⟨w.heap.size, by omega, by first | rfl | simp, Blk.new w 47 #[.int .u16 3, .int .u32 0, .int .u16 6, .int .u32 1024], lo_alloc (lo_refl w) _⟩
      · have d3 : 0 ≤ n := by omega
        go_enter Try.func18, Try.ntmps18
        go_wp2_with fail
        go_ret
        exact ⟨w.heap.size, by omega, by first | rfl | simp, Blk.new w 47 #[.int .u16 3, .int .u32 n, .int .u16 6, .int .u32 1024], lo_alloc (lo_refl w) _⟩
end Go.Proofs.Ythjciimodemfpaa
