import Derived.Test.YtdonnbfojcggmaaGreatAw2
namespace Go.Proofs.YtdonnbfojcggmaaGreat
open Go.RowKit
attribute [local go_sem ↓] Go.wp_at_zero Go.wp_at_succ

theorem plain_ok (w : World) : Calls Tryz.prog 13 #[] w fun e w' => e = .returned (.agg #[.int .i64 4, .int .i64 8, .int .i64 2, .int .i64 4, .int .i64 40, .int .i64 3, .int .i64 5, .int .i64 1, .int .i64 2, .int .i64 60, .int .i64 3, .int .i64 4, .int .i64 2, .int .i64 10, .int .i64 100]) ∧ Below w.heap.size w w' := by
  have hR := Blk.new w 75 #[.int .i64 0, .int .i64 0, .int .i64 0, .int .i64 0, .int .i64 0, .int .i64 0, .int .i64 0, .int .i64 0, .int .i64 0, .int .i64 0, .int .i64 0, .int .i64 0, .int .i64 0, .int .i64 0, .int .i64 0]
  have hL := lo_alloc (lo_refl w) (.cells #[.int .i64 0, .int .i64 0, .int .i64 0, .int .i64 0, .int .i64 0, .int .i64 0, .int .i64 0, .int .i64 0, .int .i64 0, .int .i64 0, .int .i64 0, .int .i64 0, .int .i64 0, .int .i64 0, .int .i64 0] 75)
  obtain ⟨cR, fR⟩ := hR.facts
  have lR := hR.lt
  go_enter Tryz.func13, Tryz.ntmps13
  go_wp2_with fail
  exact bodyPost_ret (v := .agg #[.int .i64 4, .int .i64 8, .int .i64 2, .int .i64 4, .int .i64 40, .int .i64 3, .int .i64 5, .int .i64 1, .int .i64 2, .int .i64 60, .int .i64 3, .int .i64 4, .int .i64 2, .int .i64 10, .int .i64 100]) (by simp [results, Tryz.results13, go_sem] <;> rfl) rfl ⟨rfl, lo_alloc (lo_refl w) _⟩
set_option maxRecDepth 100000 in
set_option maxHeartbeats 1600000 in
theorem snew_ok (w : World) : Calls Tryz.prog 12 #[.agg #[.int .i64 4, .int .i64 8, .int .i64 2, .int .i64 4, .int .i64 40, .int .i64 3, .int .i64 5, .int .i64 1, .int .i64 2, .int .i64 60, .int .i64 3, .int .i64 4, .int .i64 2, .int .i64 10, .int .i64 100]] w fun e w' => (∃ s, e = .returned (.tuple #[.pointer (some ⟨s, 0, none⟩), .int .i64 0])) ∧ Below w.heap.size w w' := by
  have H1 : Hid (∀ w0, Calls Tryz.prog 32 #[.int .i64 4, .int .i64 1, .int .i64 8] w0 (BoolSame w0 true)) := Lib.hid fun w0 => by have := in_server 4 1 8 w0; rw [inB_yes (by decide)] at this; exact this
  have H2 : Hid (∀ w0, Calls Tryz.prog 32 #[.int .i64 60, .int .i64 1, .int .i64 1099511627776] w0 (BoolSame w0 true)) := Lib.hid fun w0 => by have := in_server 60 1 1099511627776 w0; rw [inB_yes (by decide)] at this; exact this
  have H3 : Hid (∀ w0, Calls Tryz.prog 32 #[.int .i64 10, .int .i64 1, .int .i64 1000] w0 (BoolSame w0 true)) := Lib.hid fun w0 => by have := in_server 10 1 1000 w0; rw [inB_yes (by decide)] at this; exact this
  have H4 : Hid (∀ w0, Calls Tryz.prog 32 #[.int .i64 100, .int .i64 1, .int .i64 1099511627776] w0 (BoolSame w0 true)) := Lib.hid fun w0 => by have := in_server 100 1 1099511627776 w0; rw [inB_yes (by decide)] at this; exact this
  have HM := Lib.hid made_ok
  have hL := lo_alloc (lo_refl w) (.cells #[.int .i64 4, .int .i64 8, .int .i64 2, .int .i64 4, .int .i64 40, .int .i64 3, .int .i64 5, .int .i64 1, .int .i64 2, .int .i64 60, .int .i64 3, .int .i64 4, .int .i64 2, .int .i64 10, .int .i64 100] 75)
  go_enter Tryz.func12, Tryz.ntmps12
  go_wp2_with fail
  refine (H1.out _).mono ?_
  rintro e w1 ⟨rfl, rfl⟩
  go_wp2_with fail
  refine (H2.out _).mono ?_
  rintro e w1 ⟨rfl, rfl⟩
  go_wp2_with fail
  refine (H3.out _).mono ?_
  rintro e w1 ⟨rfl, rfl⟩
  go_wp2_with fail
  refine (H4.out _).mono ?_
  rintro e w1 ⟨rfl, rfl⟩
  go_wp2_with fail
  refine (HM.out _).mono ?_
  rintro e w1 ⟨⟨s, rfl⟩, hb⟩
  have hM := Lib.hid (lo_trans hL hb)
  clear hb hL
  go_wp2_with fail
  exact bodyPost_ret (v := .tuple #[.pointer (some ⟨s, 0, none⟩), .int .i64 0]) (by simp [results, Tryz.results12, go_sem]) rfl ⟨⟨s, rfl⟩, hM.out⟩
set_option maxRecDepth 100000 in
set_option maxHeartbeats 1600000 in
theorem snew_no (w : World) : Calls Tryz.prog 12 #[.agg #[.int .i64 0, .int .i64 0, .int .i64 0, .int .i64 0, .int .i64 0, .int .i64 0, .int .i64 0, .int .i64 0, .int .i64 0, .int .i64 0, .int .i64 0, .int .i64 0, .int .i64 0, .int .i64 0, .int .i64 0]] w fun e w' => e = .returned (.tuple #[.pointer none, .int .i64 8]) ∧ Below w.heap.size w w' := by
  have H1 : Hid (∀ w0, Calls Tryz.prog 32 #[.int .i64 0, .int .i64 1, .int .i64 8] w0 (BoolSame w0 false)) := Lib.hid fun w0 => by have := in_server 0 1 8 w0; rw [inB_no (by decide)] at this; exact this
  have hL := lo_alloc (lo_refl w) (.cells #[.int .i64 0, .int .i64 0, .int .i64 0, .int .i64 0, .int .i64 0, .int .i64 0, .int .i64 0, .int .i64 0, .int .i64 0, .int .i64 0, .int .i64 0, .int .i64 0, .int .i64 0, .int .i64 0, .int .i64 0] 75)
  go_enter Tryz.func12, Tryz.ntmps12
  go_wp2_with fail
  refine (H1.out _).mono ?_
  rintro e w1 ⟨rfl, rfl⟩
  go_wp2_with fail
  exact bodyPost_ret (v := .tuple #[.pointer none, .int .i64 8]) (by simp [results, Tryz.results12, go_sem]) rfl ⟨rfl, hL⟩
theorem scheck_no (w : World) : Calls Tryz.prog 14 #[.agg #[.int .i64 0, .int .i64 0, .int .i64 0, .int .i64 0, .int .i64 0, .int .i64 0, .int .i64 0, .int .i64 0, .int .i64 0, .int .i64 0, .int .i64 0, .int .i64 0, .int .i64 0, .int .i64 0, .int .i64 0]] w (IntPost w 8) := by
  have HN := Lib.hid snew_no
  have hL := lo_alloc (lo_refl w) (.cells #[.int .i64 0, .int .i64 0, .int .i64 0, .int .i64 0, .int .i64 0, .int .i64 0, .int .i64 0, .int .i64 0, .int .i64 0, .int .i64 0, .int .i64 0, .int .i64 0, .int .i64 0, .int .i64 0, .int .i64 0] 75)
  go_enter Tryz.func14, Tryz.ntmps14
  go_wp2_with fail
  refine (HN.out _).mono ?_
  rintro e w1 ⟨rfl, hb⟩
  have hM := Lib.hid (lo_trans hL hb)
  clear hb hL
  go_wp2_with fail
  go_ret
  exact ⟨rfl, hM.out⟩
set_option maxRecDepth 100000 in
set_option maxHeartbeats 1600000 in
theorem awake_any (w : World) : Calls Tryz.prog 4 #[] w (BoolPost w true) := by
  have HP := Lib.hid plain_ok
  have HN := Lib.hid snew_ok
  have HC := Lib.hid scheck_no
  go_enter Tryz.func4, Tryz.ntmps4
  go_wp2_with fail
  refine (HP.out _).mono ?_
  rintro e w1 ⟨rfl, hb⟩
  have hL := Lib.hid hb
  clear hb
  go_wp2_with fail
  refine (HN.out _).mono ?_
  rintro e w2 ⟨⟨s, rfl⟩, hb⟩
  have hL2 := Lib.hid (lo_trans hL.out hb)
  clear hb
  go_wp2_with fail
  refine (HC.out _).mono ?_
  rintro e w3 ⟨rfl, hb⟩
  have hL3 := Lib.hid (lo_trans hL2.out hb)
  clear hb
  go_wp2_with fail
  go_ret
  exact ⟨rfl, hL3.out⟩
end Go.Proofs.YtdonnbfojcggmaaGreat
