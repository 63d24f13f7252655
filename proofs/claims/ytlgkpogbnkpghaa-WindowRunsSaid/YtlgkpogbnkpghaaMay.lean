import Derived.Test.YtlgkpogbnkpghaaFns
namespace Go.Proofs.Ytlgkpogbnkpghaa
open Go.RowKit
theorem ret_int {k : IntKind} {a b : Int} (h : a = b) : Ending.returned (.int k a) = .returned (.int k b) := by rw [h]
def min4 (x y z u : Int) : Int := min (min (min x y) z) u
/-- min of four integers. -/
theorem run_min4 {P : Program} {w : World} (ts : Array TypeId) (t : TypeId) (x y z u : Int) : (Builtin.min_ ts t #[.int .i64 x, .int .i64 y, .int .i64 z, .int .i64 u]).run P w = .ok (.int .i64 (min4 x y z u)) w := by
  simp [Builtin.min_, Builtin.min2]
  unfold min4
  omega
theorem may_eq (a b c d : Int) : mayW a b c d = max 0 (min4 a b c d) := by
  unfold mayW min4
  omega
theorem may_ref (a b c d : Int) (w : World) : Calls Try.prog 19 #[.int .i64 a, .int .i64 b, .int .i64 c, .int .i64 d] w (IntPost w (mayW a b c d)) := by
  go_enter Try.func19, Try.ntmps19
  go_wp2
  all_goals
    go_ret
    exact ⟨ret_int (by unfold mayW; simp; omega), rfl⟩
attribute [local go_sem] run_min4
theorem may_any (a b c d : Int) (w : World) : Calls Try.prog 18 #[.int .i64 a, .int .i64 b, .int .i64 c, .int .i64 d] w (IntPost w (mayW a b c d)) := by
  rw [may_eq]
  by_cases h : 0 < min4 a b c d
  all_goals
    go_enter Try.func18, Try.ntmps18
    go_wp2_with fail
    go_ret
    exact ⟨ret_int (by omega), rfl⟩
end Go.Proofs.Ytlgkpogbnkpghaa
