import Derived.Test.YtlakblcabebjeaaStep
import Derived.Deep.DrawnRows
namespace Go.Proofs.Ytlakblcabebjeaa
open Go.RowKit
attribute [local go_sem ↓] Go.wp_at_zero Go.wp_at_succ

/-- The two boxes that each of the functions makes: the event's, the verdict's. -/
theorem two_boxes (w : World) (k : Int) (e : Bool) : Blk ((w.alloc (.cells #[.int .u8 k, .bool e] 30)).alloc (.cells #[.int .u32 0, .bool false, .bool false] 27)) (w.heap.size + 1) 27 #[.int .u32 0, .bool false, .bool false] ∧
    Blk ((w.alloc (.cells #[.int .u8 k, .bool e] 30)).alloc (.cells #[.int .u32 0, .bool false, .bool false] 27)) w.heap.size 30 #[.int .u8 k, .bool e] ∧ Below w.heap.size w ((w.alloc (.cells #[.int .u8 k, .bool e] 30)).alloc (.cells #[.int .u32 0, .bool false, .bool false] 27)) := by
  refine ⟨?_, (Blk.new w 30 #[.int .u8 k, .bool e]).alloc _, lo_alloc (lo_alloc (lo_refl w) _) _⟩
  have := Blk.new (w.alloc (.cells #[.int .u8 k, .bool e] 30)) 27 #[.int .u32 0, .bool false, .bool false]
  simpa only [World.size_alloc] using this
theorem take_0 (k : Int) (e : Bool) : takeL 0 k e = beginL k e := rfl
theorem take_t {s k : Int} (e : Bool) (h : ¬ s = 0) (hk : k = 0 ∨ k = 1) : takeL s k e = textL s k e := by
  unfold takeL
  rw [if_neg h, if_pos hk]
theorem take_2 {s : Int} (e : Bool) (h : ¬ s = 0) : takeL s 2 e = if overL s = false then (4, 0, false, false) else (s, 0, false, true) := by
  unfold takeL
  rw [if_neg h, if_neg (by decide)]
  by_cases ho : overL s = false
  · rw [if_pos ⟨rfl, ho⟩, if_pos ho]
  · rw [if_neg (fun h => ho h.2), if_neg (fun h => ho h.2), if_neg ho]
theorem take_3 {s : Int} (e : Bool) (h : ¬ s = 0) : takeL s 3 e = if overL s = false then (s, 0, false, false) else (s, 0, false, true) := by
  unfold takeL
  rw [if_neg h, if_neg (by decide), if_neg (fun h => absurd h.1 (by decide))]
  by_cases ho : overL s = false
  · rw [if_pos ⟨rfl, ho⟩, if_pos ho]
  · rw [if_neg (fun h => ho h.2), if_neg ho]
set_option maxRecDepth 100000 in
set_option maxHeartbeats 32000000 in
theorem take_any (s k : Int) (e : Bool) (h0 : 0 ≤ s) (h : s < 6) (hk0 : 0 ≤ k) (hk : k < 4) (w : World) : Calls Try.prog 16 #[.int .u8 s, .agg #[.int .u8 k, .bool e]] w (StepPost w (takeL s k e)) := by
  obtain ⟨hA, hB, hL⟩ := two_boxes w k e
  have HA := Lib.hid hA
  have HL := Lib.hid hL
  clear hA hB hL
  by_cases hs : s = 0
  · subst hs
    rw [take_0]
    have H1 := Lib.hid (begin_any k e)
    generalize beginL k e = r at H1 ⊢
    go_enter Try.func16, Try.ntmps16
    go_wp2_with fail
    refine (H1.out _).mono ?_
    rintro e w1 ⟨rfl, hb1⟩
    obtain ⟨cA, fA⟩ := (HA.out.lo hb1).facts
    have hM := Lib.hid (lo_trans HL.out hb1)
    clear hb1
    go_wp2_with fail
    refine bodyPost_ret (by simp [results, Try.results16, go_sem, cA] <;> rfl) rfl ⟨rfl, ?_⟩
    have hl := hM.out
    repeat' (first | with_reducible exact hl | with_reducible apply lo_set | simp)
  · obtain h2 | h2 | h2 : (k = 0 ∨ k = 1) ∨ k = 2 ∨ k = 3 := by omega
    · rw [take_t e hs h2]
      have H1 := Lib.hid (text_any s k e h0 h h2)
      generalize textL s k e = r at H1 ⊢
      rcases h2 with rfl | rfl
      all_goals
        go_enter Try.func16, Try.ntmps16
        go_wp2_with fail
        refine (H1.out _).mono ?_
        rintro e w1 ⟨rfl, hb1⟩
        obtain ⟨cA, fA⟩ := (HA.out.lo hb1).facts
        have hM := Lib.hid (lo_trans HL.out hb1)
        clear hb1
        go_wp2_with fail
        refine bodyPost_ret (by simp [results, Try.results16, go_sem, cA] <;> rfl) rfl ⟨rfl, ?_⟩
        have hl := hM.out
        repeat' (first | with_reducible exact hl | with_reducible apply lo_set | simp)
    · subst h2
      rw [take_2 e hs]
      have H1 := Lib.hid (over_any s)
      generalize overL s = o at H1 ⊢
      cases o
      all_goals
        go_enter Try.func16, Try.ntmps16
        go_wp2_with (go_at_call 12; refine (H1.out _).mono ?_; rintro e w' ⟨rfl, rfl⟩)
        refine bodyPost_ret (by simp [results, Try.results16, go_sem] <;> rfl) rfl ⟨rfl, ?_⟩
        repeat' (first | with_reducible exact lo_refl _ | with_reducible apply lo_set | with_reducible apply lo_alloc | simp)
    · subst h2
      rw [take_3 e hs]
      have H1 := Lib.hid (over_any s)
      generalize overL s = o at H1 ⊢
      cases o
      all_goals
        go_enter Try.func16, Try.ntmps16
        go_wp2_with (go_at_call 12; refine (H1.out _).mono ?_; rintro e w' ⟨rfl, rfl⟩)
        refine bodyPost_ret (by simp [results, Try.results16, go_sem] <;> rfl) rfl ⟨rfl, ?_⟩
        repeat' (first | with_reducible exact lo_refl _ | with_reducible apply lo_set | with_reducible apply lo_alloc | simp)
theorem send_a {s : Int} (e : Bool) (h : ¬ s = 0) : sendL s 7 e = if overL s = false then (5, 0, false, false) else (s, 2, false, false) := by
  unfold sendL
  by_cases ho : overL s = false
  · rw [if_pos ⟨rfl, h, ho⟩, if_pos ho]
  · rw [if_neg (fun h => ho h.2.2), if_pos (.inl rfl), if_neg ho]
theorem send_b {s k : Int} (e : Bool) (h : ¬ k = 7) : sendL s k e = if sendsL s = false then (s, 2, false, false) else if e then (if s = 2 then 4 else 3, 0, false, false) else (s, 0, false, false) := by
  unfold sendL
  rw [if_neg (fun h' => h h'.1)]
  by_cases ho : sendsL s = false
  · rw [if_pos (.inr ho), if_pos ho]
  · rw [if_neg (fun h' => h'.elim h ho), if_neg ho]
set_option maxRecDepth 100000 in
set_option maxHeartbeats 32000000 in
theorem send_any (s k : Int) (e : Bool) (w : World) : Calls Try.prog 17 #[.int .u8 s, .agg #[.int .u8 k, .bool e]] w (StepPost w (sendL s k e)) := by
  have H1 := Lib.hid (over_any s)
  have H2 := Lib.hid (sends_any s)
  have H3 := Lib.hid (ours_any s)
  by_cases hk : k = 7
  · subst hk
    by_cases hs : s = 0
    · subst hs
      rw [show sendL 0 7 e = (0, 2, false, false) from rfl]
      go_enter Try.func17, Try.ntmps17
      go_wp2_with fail
      refine bodyPost_ret (by simp [results, Try.results17, go_sem] <;> rfl) rfl ⟨rfl, ?_⟩
      repeat' (first | with_reducible exact lo_refl _ | with_reducible apply lo_set | with_reducible apply lo_alloc | simp)
    · rw [send_a e hs]
      generalize overL s = o at H1 ⊢
      cases o
      all_goals
        go_enter Try.func17, Try.ntmps17
        go_wp2_with (go_at_call 12; refine (H1.out _).mono ?_; rintro e w' ⟨rfl, rfl⟩)
        refine bodyPost_ret (by simp [results, Try.results17, go_sem] <;> rfl) rfl ⟨rfl, ?_⟩
        repeat' (first | with_reducible exact lo_refl _ | with_reducible apply lo_set | with_reducible apply lo_alloc | simp)
  · rw [send_b e hk]
    generalize sendsL s = o at H2 ⊢
    generalize (if s = 2 then (4 : Int) else 3) = n at H3 ⊢
    cases o
    · go_enter Try.func17, Try.ntmps17
      go_wp2_with (go_at_call 11; refine (H2.out _).mono ?_; rintro e w' ⟨rfl, rfl⟩)
      refine bodyPost_ret (by simp [results, Try.results17, go_sem] <;> rfl) rfl ⟨rfl, ?_⟩
      repeat' (first | with_reducible exact lo_refl _ | with_reducible apply lo_set | with_reducible apply lo_alloc | simp)
    · cases e
      all_goals
        go_enter Try.func17, Try.ntmps17
        go_wp2_with (first
          | (go_at_call 11; refine (H2.out _).mono ?_; rintro e w' ⟨rfl, rfl⟩)
          | (go_at_call 21; refine (H3.out _).mono ?_; rintro e w' ⟨rfl, rfl⟩))
        refine bodyPost_ret (by simp [results, Try.results17, go_sem] <;> rfl) rfl ⟨rfl, ?_⟩
        repeat' (first | with_reducible exact lo_refl _ | with_reducible apply lo_set | with_reducible apply lo_alloc | simp)
end Go.Proofs.Ytlakblcabebjeaa
