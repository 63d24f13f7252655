import Derived.Test.YtlakblcabebjeaaPrioWalk
namespace Go.Proofs.Ytlakblcabebjeaa
open Go.RowKit

set_option maxRecDepth 100000 in
set_option maxHeartbeats 3200000 in
theorem walk_LifePriority (a0 : Int) (a1 : Option Addr) (len1 cap1 : Nat) (xs1 : List (Int × Bool)) (a2 : Int) (w : World) (w0 : (Lit.int .u8 a0).wf = true) (w1 : AggRow 2 (fun x : Int × Bool => [Value.int .u8 x.1, Value.bool x.2]) (fun x : Int × Bool => (Lit.int .u8 x.1).wf = true) w a1 len1 cap1 xs1) (w2 : (Lit.int .u8 a2).wf = true) :
    Calls Try.prog 6 #[.int .u8 a0, .slice a1 len1 cap1, .int .u8 a2] w fun e w' => e = .returned (.bool true) ∧ Below w.heap.size w w' := by
  have b0 := bounds_u8 w0
  have b2 := bounds_u8 w2
  clear w0 w2
  by_cases hbig : len1 > 60
  · have hll := w1.1
    clear w1
    go_enter Try.func6, Try.ntmps6
    go_wp2_with fail
    refine (awake_any _).mono ?_
    rintro e w2 ⟨rfl, hb2⟩
    have hM := Lib.hid hb2
    go_wp2_with fail
    go_ret
    exact ⟨rfl, hM.out⟩
  · exact prio_walk a0 a1 len1 cap1 xs1 a2 w b0.1 (by omega) b2.1 (by omega) w1 hbig
end Go.Proofs.Ytlakblcabebjeaa
