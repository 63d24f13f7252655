import Derived.Test.YtlakblcabebjeaaKit
import Derived.Deep.DrawnRows
namespace Go.Proofs.Ytlakblcabebjeaa
open Go.RowKit
attribute [local go_sem ↓] Go.wp_at_zero Go.wp_at_succ

/-- A verdict: its code, of the connection, dropped. -/
abbrev Vd := Int × Bool × Bool
def overL (s : Int) : Bool := decide (s = 4 ∨ s = 5)
def sendsL (s : Int) : Bool := decide (s = 1 ∨ s = 2)
def takesL (s : Int) : Bool := decide (s = 1 ∨ s = 3)
def beginL (k : Int) (e : Bool) : Int × Vd := if k ≠ 0 then (0, 1, true, false) else if e then (2, 0, false, false) else (1, 0, false, false)
def textL (s k : Int) (e : Bool) : Int × Vd :=
  if s = 5 then (s, 0, false, true) else if s = 4 then (s, 5, true, false) else if s = 2 then (5, 5, false, false)
  else if e then (if s = 3 then 4 else 2, 0, false, false) else if k = 0 then (5, 1, false, false) else (s, 0, false, false)
def takeL (s k : Int) (e : Bool) : Int × Vd :=
  if s = 0 then beginL k e else if k = 0 ∨ k = 1 then textL s k e
  else if k = 2 ∧ overL s = false then (4, 0, false, false) else if k = 3 ∧ overL s = false then (s, 0, false, false) else (s, 0, false, true)
def sendL (s k : Int) (e : Bool) : Int × Vd :=
  if k = 7 ∧ s ≠ 0 ∧ overL s = false then (5, 0, false, false) else if k = 7 ∨ sendsL s = false then (s, 2, false, false)
  else if e then (if s = 2 then 4 else 3, 0, false, false) else (s, 0, false, false)
def stepL (s k : Int) (e : Bool) : Int × Vd :=
  if 6 ≤ s ∨ 8 ≤ k then (s, 2, true, false) else if k = 4 then (s, 0, false, false) else if k < 4 then takeL s k e else sendL s k e
def StepPost (w : World) (r : Int × Vd) (e : Ending) (w' : World) : Prop :=
  e = .returned (.tuple #[.int .u8 r.1, .agg #[.int .u32 r.2.1, .bool r.2.2.1, .bool r.2.2.2]]) ∧ Below w.heap.size w w'
def RefPost (w : World) (r : Int × Vd) (e : Ending) (w' : World) : Prop :=
  e = .returned (.tuple #[.int .u8 r.1, .agg #[.int .i64 r.2.1, .bool r.2.2.1, .bool r.2.2.2]]) ∧ Below w.heap.size w w'

set_option maxRecDepth 100000 in
theorem takes_any (s : Int) (w : World) : Calls Try.prog 10 #[.int .u8 s] w fun e w' => e = .returned (.bool (takesL s)) ∧ w = w' := by
  unfold takesL
  by_cases h1 : s = 1
  · subst h1
    go_enter Try.func10, Try.ntmps10
    go_wp2_with fail
    go_ret
    exact ⟨rfl, rfl⟩
  · by_cases h2 : s = 3
    · subst h2
      go_enter Try.func10, Try.ntmps10
      go_wp2_with fail
      go_ret
      exact ⟨rfl, rfl⟩
    · go_enter Try.func10, Try.ntmps10
      go_wp2_with fail
      go_ret
      exact ⟨by simp [h1, h2], rfl⟩
set_option maxRecDepth 100000 in
theorem sends_any (s : Int) (w : World) : Calls Try.prog 11 #[.int .u8 s] w fun e w' => e = .returned (.bool (sendsL s)) ∧ w = w' := by
  unfold sendsL
  by_cases h1 : s = 1
  · subst h1
    go_enter Try.func11, Try.ntmps11
    go_wp2_with fail
    go_ret
    exact ⟨rfl, rfl⟩
  · by_cases h2 : s = 2
    · subst h2
      go_enter Try.func11, Try.ntmps11
      go_wp2_with fail
      go_ret
      exact ⟨rfl, rfl⟩
    · go_enter Try.func11, Try.ntmps11
      go_wp2_with fail
      go_ret
      exact ⟨by simp [h1, h2], rfl⟩
set_option maxRecDepth 100000 in
theorem over_any (s : Int) (w : World) : Calls Try.prog 12 #[.int .u8 s] w fun e w' => e = .returned (.bool (overL s)) ∧ w = w' := by
  unfold overL
  by_cases h1 : s = 4
  · subst h1
    go_enter Try.func12, Try.ntmps12
    go_wp2_with fail
    go_ret
    exact ⟨rfl, rfl⟩
  · by_cases h2 : s = 5
    · subst h2
      go_enter Try.func12, Try.ntmps12
      go_wp2_with fail
      go_ret
      exact ⟨rfl, rfl⟩
    · go_enter Try.func12, Try.ntmps12
      go_wp2_with fail
      go_ret
      exact ⟨by simp [h1, h2], rfl⟩
theorem ours_any (s : Int) (w : World) : Calls Try.prog 21 #[.int .u8 s] w fun e w' => e = .returned (.int .u8 (if s = 2 then 4 else 3)) ∧ w = w' := by
  by_cases h1 : s = 2
  · subst h1
    go_enter Try.func21, Try.ntmps21
    go_wp2_with fail
    go_ret
    exact ⟨rfl, rfl⟩
  · go_enter Try.func21, Try.ntmps21
    go_wp2_with fail
    go_ret
    exact ⟨by simp, rfl⟩
theorem theirs_any (s : Int) (w : World) : Calls Try.prog 22 #[.int .u8 s] w fun e w' => e = .returned (.int .u8 (if s = 3 then 4 else 2)) ∧ w = w' := by
  by_cases h1 : s = 3
  · subst h1
    go_enter Try.func22, Try.ntmps22
    go_wp2_with fail
    go_ret
    exact ⟨rfl, rfl⟩
  · go_enter Try.func22, Try.ntmps22
    go_wp2_with fail
    go_ret
    exact ⟨by simp, rfl⟩
set_option maxRecDepth 100000 in
set_option maxHeartbeats 3200000 in
theorem begin_any (k : Int) (e : Bool) (w : World) : Calls Try.prog 19 #[.agg #[.int .u8 k, .bool e]] w (StepPost w (beginL k e)) := by
  unfold beginL
  by_cases h : k = 0
  · subst h
    cases e
    all_goals
      go_enter Try.func19, Try.ntmps19
      go_wp2_with fail
      refine bodyPost_ret (by simp [results, Try.results19, go_sem]; first | done | rfl) rfl ⟨rfl, ?_⟩
      repeat' (first | with_reducible exact lo_refl _ | with_reducible apply lo_set | with_reducible apply lo_alloc | simp)
  · rw [if_pos h]
    go_enter Try.func19, Try.ntmps19
    go_wp2_with fail
    refine bodyPost_ret (by simp [results, Try.results19, go_sem]; first | done | rfl) rfl ⟨rfl, ?_⟩
    repeat' (first | with_reducible exact lo_refl _ | with_reducible apply lo_set | with_reducible apply lo_alloc | simp)
end Go.Proofs.Ytlakblcabebjeaa
