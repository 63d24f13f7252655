import Derived.Test.YtokedcdjclbliaaAwake
namespace Go.Proofs.Ytokedcdjclbliaa
open Go.RowKit

set_option maxHeartbeats 1600000 in
theorem walk_BucketNew (a0 : Int) (a1 : Int) (a2 : Int) (w : World) (_w0 : (Lit.int .i64 a0).wf = true) (_w1 : (Lit.int .i64 a1).wf = true) (_w2 : (Lit.int .i64 a2).wf = true) :
    Calls Try.prog 3 #[.int .i64 a0, .int .i64 a1, .int .i64 a2] w fun e w' => e = .returned (.bool true) ∧ Below w.heap.size w w' := by
  have h1 := new_any a0 a1 a2
  have h2 := new_ref a0 a1 a2
  generalize newB a0 a1 a2 = b at h1 h2
  generalize (Bk.mk a0 a1 a2 0 0).err = n at h1 h2
  have H1 := Lib.hid h1
  have H2 := Lib.hid h2
  clear h1 h2 _w0 _w1 _w2
  go_enter Try.func3, Try.ntmps3
  go_wp2_with fail
  refine (H1.out _).mono ?_
  rintro e w1 ⟨rfl, hb1⟩
  have hL := lo_trans (lo_refl w) hb1
  clear hb1
  go_wp2_with fail
  refine (H2.out _).mono ?_
  rintro e w2 ⟨rfl, hb2⟩
  have hA := (Blk.new w1 23 #[.int .i64 b.burst, .int .i64 b.rate, .int .i64 b.per, .int .i64 b.level, .int .i64 b.now]).lo hb2
  have hL := lo_trans (lo_alloc hL (.cells #[.int .i64 b.burst, .int .i64 b.rate, .int .i64 b.per, .int .i64 b.level, .int .i64 b.now] 23)) hb2
  have hlt := hA.lt
  obtain ⟨cA, fA⟩ := (hA.alloc (.cells #[.int .i64 b.burst, .int .i64 b.rate, .int .i64 b.per, .int .i64 b.level, .int .i64 b.now] 27)).facts
  have hL2 := Lib.hid (lo_alloc hL (.cells #[.int .i64 b.burst, .int .i64 b.rate, .int .i64 b.per, .int .i64 b.level, .int .i64 b.now] 27))
  clear hb2 hA hL
  go_wp2_with fail
  refine (awake_any _).mono ?_
  rintro e w3 ⟨rfl, hb3⟩
  go_wp2_with fail
  go_ret
  exact ⟨rfl, lo_trans hL2.out hb3⟩
end Go.Proofs.Ytokedcdjclbliaa
