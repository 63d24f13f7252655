import Derived.Test.YtlakblcabebjeaaSmall
import Derived.Deep.DrawnRows
namespace Go.Proofs.Ytlakblcabebjeaa
open Go.RowKit
attribute [local go_sem ↓] Go.wp_at_zero Go.wp_at_succ

/-- A row of a state's test ends: the state is one that may be. -/
theorem st_cases {s : Int} (h0 : 0 ≤ s) (h : s < 6) : s = 0 ∨ s = 1 ∨ s = 2 ∨ s = 3 ∨ s = 4 ∨ s = 5 := by omega
set_option maxRecDepth 100000 in
set_option maxHeartbeats 32000000 in
theorem text_any (s k : Int) (e : Bool) (h0 : 0 ≤ s) (h : s < 6) (hk : k = 0 ∨ k = 1) (w : World) : Calls Try.prog 20 #[.int .u8 s, .agg #[.int .u8 k, .bool e]] w (StepPost w (textL s k e)) := by
  rcases st_cases h0 h with rfl | rfl | rfl | rfl | rfl | rfl
  all_goals
    rcases hk with rfl | rfl
    all_goals
      cases e
      all_goals
        clear h0 h
        go_enter Try.func20, Try.ntmps20
        go_wp2_with (go_at_call 22; refine (theirs_any _ _).mono ?_; rintro e w' ⟨rfl, rfl⟩)
        refine bodyPost_ret (by simp [results, Try.results20, go_sem] <;> (repeat' (first | apply And.intro | (show _ = _; kernel_rfl)))) rfl ⟨rfl, ?_⟩
        repeat' (first | with_reducible exact lo_refl _ | with_reducible apply lo_set | with_reducible apply lo_alloc | simp)
end Go.Proofs.Ytlakblcabebjeaa
