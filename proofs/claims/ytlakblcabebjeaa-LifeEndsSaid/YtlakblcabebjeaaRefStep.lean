import Derived.Test.YtlakblcabebjeaaRef
import Derived.Deep.DrawnRows
namespace Go.Proofs.Ytlakblcabebjeaa
open Go.RowKit
attribute [local go_sem ↓] Go.wp_at_zero Go.wp_at_succ

theorem ref_low {s n : Int} (h : n ≤ 5) : refOf s n = (n, 0, false, false) := by
  unfold refOf
  rw [if_neg (by omega), if_neg (by omega), if_neg (by omega), if_neg (by omega), if_neg (by omega), if_neg (by omega)]
set_option maxRecDepth 100000 in
set_option maxHeartbeats 32000000 in
theorem ref_step (s k : Int) (e : Bool) (h0 : 0 ≤ s) (hk0 : 0 ≤ k) (w : World) : Calls Try.prog 8 #[.int .u8 s, .agg #[.int .u8 k, .bool e]] w (RefPost w (stepL s k e)) := by
  by_cases hk : 8 ≤ k
  · rw [show stepL s k e = (s, 2, true, false) from if_pos (.inr hk)]
    go_enter Try.func8, Try.ntmps8
    go_wp2_with fail
    refine bodyPost_ret (by simp [results, Try.results8, go_sem] <;> rfl) rfl ⟨rfl, ?_⟩
    repeat' (first | with_reducible exact lo_refl _ | with_reducible apply lo_set | with_reducible apply lo_alloc | simp)
  · by_cases hs : 6 ≤ s
    · rw [show stepL s k e = (s, 2, true, false) from if_pos (.inl hs)]
      go_enter Try.func8, Try.ntmps8
      go_wp2_with fail
      refine bodyPost_ret (by simp [results, Try.results8, go_sem] <;> rfl) rfl ⟨rfl, ?_⟩
      repeat' (first | with_reducible exact lo_refl _ | with_reducible apply lo_set | with_reducible apply lo_alloc | simp)
    · obtain ⟨m, rfl⟩ : ∃ m : Nat, s = m := ⟨s.toNat, by omega⟩
      have hm : m < 6 := by omega
      obtain ⟨n, hn, hn0, hn1, hr⟩ := ref_one (e := e) hk0 (by omega) hm
      rw [← hr]
      have H1 := Lib.hid (to_any k e hk0 (by omega))
      generalize toL k e = l at H1 hn
      have hA := Blk.new (w.alloc (.cells #[.int .u8 k, .bool e] 23)) 32 #[.int .i64 0, .bool false, .bool false]
      simp only [World.size_alloc] at hA
      have HA := Lib.hid hA
      have HL := Lib.hid (lo_alloc (lo_alloc (lo_refl w) (.cells #[.int .u8 k, .bool e] 23)) (.cells #[.int .i64 0, .bool false, .bool false] 32))
      clear hA hr h0 hk0
      have hm' : (m : Int) < 6 := by omega
      have hcase : n = 6 ∨ n = 7 ∨ n = 8 ∨ n = 9 ∨ n = 10 ∨ n = 11 ∨ (0 ≤ n ∧ n ≤ 5) := by omega
      have Hn := Lib.hid hn
      clear hn hn0 hn1
      rcases hcase with rfl | rfl | rfl | rfl | rfl | rfl | ⟨n0, n1⟩
      all_goals
        go_enter Try.func8, Try.ntmps8
        go_wp2_with fail
        refine (H1.out _).mono ?_
        rintro e w1 ⟨g, rfl, hG, hb1⟩
        obtain ⟨cA, fA⟩ := (HA.out.lo hb1).facts
        obtain ⟨cG, fG⟩ := hG.facts
        have cg := cG m
        have fg := fG m
        rw [List.getElem?_toArray, List.getElem?_map, Hn.out] at cg
        simp only [Option.map_some] at cg
        have hM := Lib.hid (lo_trans HL.out hb1)
        clear hb1 cG fG hG
        go_wp2_with fail
        (try rw [ref_low n1])
        refine bodyPost_ret (by simp [results, Try.results8, go_sem, cA] <;> (repeat' (first | apply And.intro | (show _ = _; kernel_rfl)))) rfl ⟨rfl, ?_⟩
        have hl := hM.out
        repeat' (first | with_reducible exact hl | with_reducible apply lo_set | simp)
end Go.Proofs.Ytlakblcabebjeaa
