import Derived.Test.YtpafncellopphaaAt
import Derived.Deep.DrawnRows
namespace Go.Proofs.Ytpafncellopphaa
open Go.RowKit
attribute [local go_sem ↓] Go.wp_at_zero Go.wp_at_succ

def SizePost (w : World) (n : Int) (e : Ending) (w' : World) : Prop := e = .returned (.int .i64 n) ∧ Below w.heap.size w w'
set_option maxRecDepth 100000 in
theorem size_any (a b : ByteArray) (c : Bool) (ha : a.size ≤ 100) (hb : b.size ≤ 100) (w : World) : Calls Try.prog 10 #[.agg #[.string a, .string b, .bool c]] w (SizePost w (a.size + b.size + 32)) := by
  go_enter Try.func10, Try.ntmps10
  go_wp2_with fail
  go_ret
  exact ⟨rfl, lo_alloc (lo_refl w) _⟩
set_option maxRecDepth 100000 in
theorem size_ref (a b : ByteArray) (c : Bool) (ha : a.size ≤ 100) (hb : b.size ≤ 100) (w : World) : Calls Try.prog 11 #[.agg #[.string a, .string b, .bool c]] w (SizePost w (a.size + b.size + 32)) := by
  go_enter Try.func11, Try.ntmps11
  go_wp2_with fail
  go_ret
  exact ⟨rfl, lo_alloc (lo_refl w) _⟩
/-- The whole table lies in memory, from an address on. -/
def TabRow (w : World) (a : Nat) : Prop := Blk w a 35 tabArr
def AllPost (w : World) (e : Ending) (w' : World) : Prop := ∃ g, e = .returned (.slice (some ⟨g, 0, none⟩) 61 61) ∧ Blk w' g 35 tabArr ∧ w.heap.size ≤ g ∧ Below w.heap.size w w'
set_option maxRecDepth 100000 in
set_option maxHeartbeats 3200000 in
theorem all_any (w : World) : Calls Try.prog 9 #[] w (AllPost w) := by
  have HF := Lib.hid fields_any
  have hz := (zero_of_info info35).1
  go_enter Try.func9, Try.ntmps9
  go_wp2_with fail
  refine (HF.out _).mono ?_
  rintro e w1 ⟨rfl, hb1⟩
  have hst := run_storeCells_new (P := Try.prog) w1 35 zArr tabArr (by kernel_rfl) (by kernel_rfl) tabArr_one
  have hts := tabArr_size
  go_wp2_with fail
  go_ret
  exact ⟨_, rfl, Blk.new _ _ _, hb1.size, lo_alloc hb1 _⟩
end Go.Proofs.Ytpafncellopphaa
