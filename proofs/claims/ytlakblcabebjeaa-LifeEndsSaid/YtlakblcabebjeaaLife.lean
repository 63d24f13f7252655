import Derived.Test.YtlakblcabebjeaaTake
import Derived.Test.YtlakblcabebjeaaStep
import Derived.Deep.DrawnRows
namespace Go.Proofs.Ytlakblcabebjeaa
open Go.RowKit
attribute [local go_sem ↓] Go.wp_at_zero Go.wp_at_succ

theorem step_out {s k : Int} (e : Bool) (h : 6 ≤ s ∨ 8 ≤ k) : stepL s k e = (s, 2, true, false) := if_pos h
theorem step_4 {s : Int} (e : Bool) (h : ¬ 6 ≤ s) : stepL s 4 e = (s, 0, false, false) := by
  unfold stepL
  rw [if_neg (by omega), if_pos rfl]
theorem step_take {s k : Int} (e : Bool) (h : ¬ 6 ≤ s) (hk : k < 4) : stepL s k e = takeL s k e := by
  unfold stepL
  rw [if_neg (by omega), if_neg (by omega), if_pos hk]
theorem step_send {s k : Int} (e : Bool) (h : ¬ 6 ≤ s) (hk : 4 < k) (hk2 : k < 8) : stepL s k e = sendL s k e := by
  unfold stepL
  rw [if_neg (by omega), if_neg (by omega), if_neg (by omega)]
set_option maxRecDepth 100000 in
set_option maxHeartbeats 32000000 in
theorem step_any (s k : Int) (e : Bool) (h0 : 0 ≤ s) (hk0 : 0 ≤ k) (w : World) : Calls Try.prog 7 #[.int .u8 s, .agg #[.int .u8 k, .bool e]] w (StepPost w (stepL s k e)) := by
  obtain ⟨hA, hB, hL⟩ := two_boxes w k e
  have HA := Lib.hid hA
  have HL := Lib.hid hL
  clear hA hB hL
  by_cases hs : 6 ≤ s
  · rw [step_out e (.inl hs)]
    go_enter Try.func7, Try.ntmps7
    go_wp2_with fail
    refine bodyPost_ret (by simp [results, Try.results7, go_sem] <;> rfl) rfl ⟨rfl, ?_⟩
    repeat' (first | with_reducible exact lo_refl _ | with_reducible apply lo_set | with_reducible apply lo_alloc | simp)
  · by_cases hk : 8 ≤ k
    · rw [step_out e (.inr hk)]
      go_enter Try.func7, Try.ntmps7
      go_wp2_with fail
      refine bodyPost_ret (by simp [results, Try.results7, go_sem] <;> rfl) rfl ⟨rfl, ?_⟩
      repeat' (first | with_reducible exact lo_refl _ | with_reducible apply lo_set | with_reducible apply lo_alloc | simp)
    · obtain rfl | h4 | h4 : k = 4 ∨ k < 4 ∨ 4 < k := by omega
      · rw [step_4 e hs]
        go_enter Try.func7, Try.ntmps7
        go_wp2_with fail
        refine bodyPost_ret (by simp [results, Try.results7, go_sem] <;> rfl) rfl ⟨rfl, ?_⟩
        repeat' (first | with_reducible exact lo_refl _ | with_reducible apply lo_set | with_reducible apply lo_alloc | simp)
      · rw [step_take e hs h4]
        have H1 := Lib.hid (take_any s k e h0 (by omega) hk0 h4)
        generalize takeL s k e = r at H1 ⊢
        have h5 : ¬ k = 4 := by omega
        go_enter Try.func7, Try.ntmps7
        go_wp2_with fail
        refine (H1.out _).mono ?_
        rintro e w1 ⟨rfl, hb1⟩
        obtain ⟨cA, fA⟩ := (HA.out.lo hb1).facts
        have hM := Lib.hid (lo_trans HL.out hb1)
        clear hb1
        go_wp2_with fail
        refine bodyPost_ret (by simp [results, Try.results7, go_sem, cA] <;> rfl) rfl ⟨rfl, ?_⟩
        have hl := hM.out
        repeat' (first | with_reducible exact hl | with_reducible apply lo_set | simp)
      · rw [step_send e hs h4 (by omega)]
        have H1 := Lib.hid (send_any s k e)
        generalize sendL s k e = r at H1 ⊢
        have h5 : ¬ k = 4 := by omega
        have h6 : ¬ k < 4 := by omega
        go_enter Try.func7, Try.ntmps7
        go_wp2_with fail
        refine (H1.out _).mono ?_
        rintro e w1 ⟨rfl, hb1⟩
        obtain ⟨cA, fA⟩ := (HA.out.lo hb1).facts
        have hM := Lib.hid (lo_trans HL.out hb1)
        clear hb1
        go_wp2_with fail
        refine bodyPost_ret (by simp [results, Try.results7, go_sem, cA] <;> rfl) rfl ⟨rfl, ?_⟩
        have hl := hM.out
        repeat' (first | with_reducible exact hl | with_reducible apply lo_set | simp)
/-- A verdict in the document's form. -/
theorem verdict_any (c : Int) (a b : Bool) (h0 : 0 ≤ c) (h1 : c ≤ 7) (w : World) : Calls Try.prog 9 #[.agg #[.int .u32 c, .bool a, .bool b]] w fun e w' => e = .returned (.agg #[.int .i64 c, .bool a, .bool b]) ∧ Below w.heap.size w w' := by
  go_enter Try.func9, Try.ntmps9
  go_wp2_with fail
  refine bodyPost_ret (by simp [results, Try.results9, go_sem] <;> rfl) rfl ⟨rfl, ?_⟩
  repeat' (first | with_reducible exact lo_refl _ | with_reducible apply lo_set | with_reducible apply lo_alloc | simp)
end Go.Proofs.Ytlakblcabebjeaa
