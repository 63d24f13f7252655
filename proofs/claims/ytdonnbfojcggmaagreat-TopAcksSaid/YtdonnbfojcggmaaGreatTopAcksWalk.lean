import Derived.Test.YtdonnbfojcggmaaGreatTop2
namespace Go.Proofs.YtdonnbfojcggmaaGreat
open Go.RowKit
attribute [local go_sem ↓] Go.wp_at_zero Go.wp_at_succ

set_option maxRecDepth 100000 in
set_option maxHeartbeats 1600000 in
theorem walk_TopAcks (a0 : Option Addr) (len0 cap0 : Nat) (xs0 : List (Int × Int)) (w : World) (w0 : AggRow 2 (fun x : Int × Int => [Value.int .u8 x.1, Value.int .u8 x.2]) (fun x : Int × Int => (Lit.int .u8 x.1).wf = true ∧ (Lit.int .u8 x.2).wf = true) w a0 len0 cap0 xs0) :
    Calls Tryz.prog 3 #[.slice a0 len0 cap0] w fun e w' => e = .returned (.bool true) ∧ Below w.heap.size w w' := by
  by_cases h : len0 ≤ 60
  · exact acks_walk a0 len0 cap0 xs0 w w0 h
  · have HA := Lib.hid awake_any
    have e1 : (60 : Int) < (len0 : Int) := by omega
    clear w0 h
    go_enter Tryz.func3, Tryz.ntmps3
    go_wp2_with fail
    refine (HA.out _).mono ?_
    rintro e w1 ⟨rfl, hb⟩
    have hM := Lib.hid hb
    clear hb
    go_wp2_with fail
    go_ret
    exact ⟨rfl, hM.out⟩
end Go.Proofs.YtdonnbfojcggmaaGreat
