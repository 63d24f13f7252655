import Derived.Test.YtdonnbfojcggmaaGreatSmall
namespace Go.Proofs.YtdonnbfojcggmaaGreat
open Go.RowKit
attribute [local go_sem ↓] Go.wp_at_zero Go.wp_at_succ

theorem in_frame (n : Int) (w : World) (h : 0 ≤ n ∧ n ≤ 2147483647) : Calls Tryz.prog 42 #[.int .i64 n] w (BoolSame w true) := by
  obtain ⟨h1, h2⟩ := h
  go_enter Tryz.func42, Tryz.ntmps42
  go_wp2
  go_ret
  exact ⟨by simp [h2], rfl⟩
theorem padded_any (ty : Int) (h : ty = 4 ∨ ty = 7) (x1 x2 x3 x4 x5 x6 x7 x8 x9 x10 x11 : Value) (w : World) : Calls Tryz.prog 44 #[.agg #[.int .u8 ty, x1, x2, x3, x4, x5, x6, x7, x8, x9, x10, x11]] w (BoolPost w false) := by
  rcases h with rfl | rfl
  all_goals
    go_enter Tryz.func44, Tryz.ntmps44
    go_wp2
    go_ret
    exact ⟨rfl, lo_alloc (lo_refl w) _⟩
theorem weighed_any (ty : Int) (h : ty = 4 ∨ ty = 7) (x1 x2 x3 x4 x5 x6 x7 x8 x9 x10 x11 : Value) (w : World) : Calls Tryz.prog 45 #[.agg #[.int .u8 ty, x1, x2, x3, x4, x5, x6, x7, x8, x9, x10, x11]] w (BoolPost w false) := by
  rcases h with rfl | rfl
  all_goals
    go_enter Tryz.func45, Tryz.ntmps45
    go_wp2
    go_ret
    exact ⟨rfl, lo_alloc (lo_refl w) _⟩
theorem has_ack (ty fl : Int) (h : fl = 0 ∨ fl = 1) (x2 x3 x4 x5 x6 x7 x8 x9 x10 x11 : Value) (w : World) : Calls Tryz.prog 78 #[.agg #[.int .u8 ty, .int .u8 fl, x2, x3, x4, x5, x6, x7, x8, x9, x10, x11], .int .u8 1] w (BoolPost w (fl == 1)) := by
  rcases h with rfl | rfl
  all_goals
    go_enter Tryz.func78, Tryz.ntmps78
    go_wp2
    go_ret
    exact ⟨rfl, lo_alloc (lo_refl w) _⟩
end Go.Proofs.YtdonnbfojcggmaaGreat
