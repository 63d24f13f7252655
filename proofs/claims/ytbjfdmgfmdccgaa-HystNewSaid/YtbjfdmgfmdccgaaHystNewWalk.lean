import Derived.Test.YtbjfdmgfmdccgaaAwake
namespace Go.Proofs.Ytbjfdmgfmdccgaa
open Go.RowKit
attribute [local go_sem ↓] Go.wp_at_zero Go.wp_at_succ

set_option maxRecDepth 100000 in
set_option maxHeartbeats 3200000 in
theorem new_walk (a b c d q : Int) (w : World) : Calls Try.prog 3 #[.agg #[.int .i64 a, .int .i64 b, .int .i64 c, .int .i64 d, .int .i64 q]] w (BoolPost w true) := by
  have H1 := Lib.hid (new_any a b c d q)
  have H2 := Lib.hid (new_ref a b c d q)
  generalize newS a b c d q = s at H1 H2
  generalize (St.mk b a b c d q 0).err = n at H1 H2
  have hA := Blk.new w 22 #[.int .i64 a, .int .i64 b, .int .i64 c, .int .i64 d, .int .i64 q]
  have hL := lo_alloc (lo_refl w) (.cells #[.int .i64 a, .int .i64 b, .int .i64 c, .int .i64 d, .int .i64 q] 22)
  go_enter Try.func3, Try.ntmps3
  go_wp2_with fail
  refine (H1.out _).mono ?_
  rintro e w1 ⟨rfl, hb⟩
  have hA := (hA.lo hb).alloc (.cells #[.int .i64 s.limit, .int .i64 s.least, .int .i64 s.most, .int .i64 s.low, .int .i64 s.high, .int .i64 s.quiet, .int .i64 s.calm] 24)
  have hB := Blk.new w1 24 #[.int .i64 s.limit, .int .i64 s.least, .int .i64 s.most, .int .i64 s.low, .int .i64 s.high, .int .i64 s.quiet, .int .i64 s.calm]
  have hL := lo_alloc (lo_trans hL hb) (.cells #[.int .i64 s.limit, .int .i64 s.least, .int .i64 s.most, .int .i64 s.low, .int .i64 s.high, .int .i64 s.quiet, .int .i64 s.calm] 24)
  clear hb
  go_upto_region 2 with fail
  generalize w1.heap.size = gb at hB ⊢
  generalize w1.alloc (.cells #[.int .i64 s.limit, .int .i64 s.least, .int .i64 s.most, .int .i64 s.low, .int .i64 s.high, .int .i64 s.quiet, .int .i64 s.calm] 24) = v1 at hA hB hL ⊢
  obtain ⟨cA, fA⟩ := hA.facts
  have lA := hA.lt
  go_wp2_with fail
  refine (H2.out _).mono ?_
  rintro e w2 ⟨rfl, hb⟩
  clear cA fA lA
  have hB := (hB.lo hb).alloc (.cells #[.int .i64 s.limit, .int .i64 s.least, .int .i64 s.most, .int .i64 s.low, .int .i64 s.high, .int .i64 s.quiet, .int .i64 s.calm] 28)
  have hC := Blk.new w2 28 #[.int .i64 s.limit, .int .i64 s.least, .int .i64 s.most, .int .i64 s.low, .int .i64 s.high, .int .i64 s.quiet, .int .i64 s.calm]
  have hL := lo_alloc (lo_trans hL hb) (.cells #[.int .i64 s.limit, .int .i64 s.least, .int .i64 s.most, .int .i64 s.low, .int .i64 s.high, .int .i64 s.quiet, .int .i64 s.calm] 28)
  clear hb
  go_upto_region 3 with fail
  generalize w2.heap.size = gc at hC ⊢
  generalize w2.alloc (.cells #[.int .i64 s.limit, .int .i64 s.least, .int .i64 s.most, .int .i64 s.low, .int .i64 s.high, .int .i64 s.quiet, .int .i64 s.calm] 28) = v2 at hB hC hL ⊢
  obtain ⟨cB, fB⟩ := hB.facts
  obtain ⟨cC, fC⟩ := hC.facts
  go_wp2_with fail
  refine (awake_any _).mono ?_
  rintro e w3 ⟨rfl, hb⟩
  have hM := Lib.hid (lo_trans hL hb)
  clear hb
  go_wp2_with fail
  go_ret
  exact ⟨rfl, hM.out⟩
theorem walk_HystNew (s0_0 : Int) (s0_1 : Int) (s0_2 : Int) (s0_3 : Int) (s0_4 : Int) (w : World) (w0_0 : (Lit.int .i64 s0_0).wf = true) (w0_1 : (Lit.int .i64 s0_1).wf = true) (w0_2 : (Lit.int .i64 s0_2).wf = true) (w0_3 : (Lit.int .i64 s0_3).wf = true) (w0_4 : (Lit.int .i64 s0_4).wf = true) :
    Calls Try.prog 3 #[.agg #[.int .i64 s0_0, .int .i64 s0_1, .int .i64 s0_2, .int .i64 s0_3, .int .i64 s0_4]] w fun e w' => e = .returned (.bool true) ∧ Below w.heap.size w w' := new_walk s0_0 s0_1 s0_2 s0_3 s0_4 w
end Go.Proofs.Ytbjfdmgfmdccgaa
