import Derived.Test.YtbjfdmgfmdccgaaCheck
namespace Go.Proofs.Ytbjfdmgfmdccgaa
open Go.RowKit
attribute [local go_sem ↓] Go.wp_at_zero Go.wp_at_succ

def inB (n a b : Int) : Bool := decide (a ≤ n ∧ n ≤ b)
theorem inB_yes {n a b : Int} (h : a ≤ n ∧ n ≤ b) : inB n a b = true := decide_eq_true h
theorem inB_no {n a b : Int} (h : ¬ (a ≤ n ∧ n ≤ b)) : inB n a b = false := decide_eq_false h
theorem inb_any (n a b : Int) (w : World) : Calls Try.prog 17 #[.int .i64 n, .int .i64 a, .int .i64 b] w fun e w' => e = .returned (.bool (inB n a b)) ∧ w = w' := in_any n a b w
set_option maxRecDepth 100000 in
set_option maxHeartbeats 3200000 in
theorem check_ref (s : St) (w : World) : Calls Try.prog 13 #[.agg #[.int .i64 s.limit, .int .i64 s.least, .int .i64 s.most, .int .i64 s.low, .int .i64 s.high, .int .i64 s.quiet, .int .i64 s.calm]] w (IntPost w s.err) := by
  by_cases h0 : 1 ≤ s.least ∧ s.least ≤ s.most
  · have i0 := inB_yes h0
    by_cases h1 : s.most ≤ 16
    · by_cases h2 : s.least ≤ s.limit ∧ s.limit ≤ s.most
      · have i2 := inB_yes h2
        by_cases h3 : 0 ≤ s.low ∧ s.low ≤ s.high
        · have i3 := inB_yes h3
          by_cases h4 : s.high ≤ 1099511627776
          · by_cases h5 : 1 ≤ s.quiet ∧ s.quiet ≤ 1000
            · have i5 := inB_yes h5
              by_cases h6 : 0 ≤ s.calm
              · by_cases h7 : s.calm < s.quiet
                · have he : s.err = 0 := if_pos (by unfold St.ok; omega)
                  rw [he]
                  clear h0 h2 h3 h5 he
                  go_enter Try.func13, Try.ntmps13
                  go_wp2_with (go_at_call 17; refine (inb_any _ _ _ _).mono ?_; rintro e w' ⟨rfl, rfl⟩)
                  go_ret
                  exact ⟨rfl, lo_alloc (lo_refl w) _⟩
                · have he : s.err = 8 := if_neg (fun h => by unfold St.ok at h; omega)
                  rw [he]
                  clear h0 h2 h3 h5 he
                  go_enter Try.func13, Try.ntmps13
                  go_wp2_with (go_at_call 17; refine (inb_any _ _ _ _).mono ?_; rintro e w' ⟨rfl, rfl⟩)
                  go_ret
                  exact ⟨rfl, lo_alloc (lo_refl w) _⟩
              · have he : s.err = 8 := if_neg (fun h => by unfold St.ok at h; omega)
                rw [he]
                clear h0 h2 h3 h5 he
                go_enter Try.func13, Try.ntmps13
                go_wp2_with (go_at_call 17; refine (inb_any _ _ _ _).mono ?_; rintro e w' ⟨rfl, rfl⟩)
                go_ret
                exact ⟨rfl, lo_alloc (lo_refl w) _⟩
            · have i5 := inB_no h5
              have he : s.err = 8 := if_neg (fun h => by unfold St.ok at h; omega)
              rw [he]
              clear h0 h2 h3 h5 he
              go_enter Try.func13, Try.ntmps13
              go_wp2_with (go_at_call 17; refine (inb_any _ _ _ _).mono ?_; rintro e w' ⟨rfl, rfl⟩)
              go_ret
              exact ⟨rfl, lo_alloc (lo_refl w) _⟩
          · have he : s.err = 8 := if_neg (fun h => by unfold St.ok at h; omega)
            rw [he]
            clear h0 h2 h3 he
            go_enter Try.func13, Try.ntmps13
            go_wp2_with (go_at_call 17; refine (inb_any _ _ _ _).mono ?_; rintro e w' ⟨rfl, rfl⟩)
            go_ret
            exact ⟨rfl, lo_alloc (lo_refl w) _⟩
        · have i3 := inB_no h3
          have he : s.err = 8 := if_neg (fun h => by unfold St.ok at h; omega)
          rw [he]
          clear h0 h2 h3 he
          go_enter Try.func13, Try.ntmps13
          go_wp2_with (go_at_call 17; refine (inb_any _ _ _ _).mono ?_; rintro e w' ⟨rfl, rfl⟩)
          go_ret
          exact ⟨rfl, lo_alloc (lo_refl w) _⟩
      · have i2 := inB_no h2
        have he : s.err = 8 := if_neg (fun h => by unfold St.ok at h; omega)
        rw [he]
        clear h0 h2 he
        go_enter Try.func13, Try.ntmps13
        go_wp2_with (go_at_call 17; refine (inb_any _ _ _ _).mono ?_; rintro e w' ⟨rfl, rfl⟩)
        go_ret
        exact ⟨rfl, lo_alloc (lo_refl w) _⟩
    · have he : s.err = 8 := if_neg (fun h => by unfold St.ok at h; omega)
      rw [he]
      clear h0 he
      go_enter Try.func13, Try.ntmps13
      go_wp2_with (go_at_call 17; refine (inb_any _ _ _ _).mono ?_; rintro e w' ⟨rfl, rfl⟩)
      go_ret
      exact ⟨rfl, lo_alloc (lo_refl w) _⟩
  · have i0 := inB_no h0
    have he : s.err = 8 := if_neg (fun h => by unfold St.ok at h; omega)
    rw [he]
    clear h0 he
    go_enter Try.func13, Try.ntmps13
    go_wp2_with (go_at_call 17; refine (inb_any _ _ _ _).mono ?_; rintro e w' ⟨rfl, rfl⟩)
    go_ret
    exact ⟨rfl, lo_alloc (lo_refl w) _⟩
/-- A new controller. -/
def newS (least most low high quiet : Int) : St := if (St.mk most least most low high quiet 0).err = 0 then ⟨most, least, most, low, high, quiet, 0⟩ else ⟨0, 0, 0, 0, 0, 0, 0⟩
def NewPost (w : World) (s : St) (n : Int) (e : Ending) (w' : World) : Prop := e = .returned (.tuple #[.agg #[.int .i64 s.limit, .int .i64 s.least, .int .i64 s.most, .int .i64 s.low, .int .i64 s.high, .int .i64 s.quiet, .int .i64 s.calm], .int .i64 n]) ∧ Below w.heap.size w w'
theorem err_cases (s : St) : s.err = 0 ∨ s.err = 8 := by
  unfold St.err
  split
  · exact .inl rfl
  · exact .inr rfl
set_option maxRecDepth 100000 in
set_option maxHeartbeats 3200000 in
theorem new_any (least most low high quiet : Int) (w : World) : Calls Try.prog 6 #[.int .i64 least, .int .i64 most, .int .i64 low, .int .i64 high, .int .i64 quiet] w (NewPost w (newS least most low high quiet) (St.mk most least most low high quiet 0).err) := by
  unfold newS
  have H := Lib.hid (check_any (St.mk most least most low high quiet 0))
  have hA0 := (Blk.new w 24 #[.int .i64 0, .int .i64 0, .int .i64 0, .int .i64 0, .int .i64 0, .int .i64 0, .int .i64 0]).alloc (.cells #[.int .i64 most, .int .i64 least, .int .i64 most, .int .i64 low, .int .i64 high, .int .i64 quiet, .int .i64 0] 24)
  have hB0 := Blk.new (w.alloc (.cells #[.int .i64 0, .int .i64 0, .int .i64 0, .int .i64 0, .int .i64 0, .int .i64 0, .int .i64 0] 24)) 24 #[.int .i64 most, .int .i64 least, .int .i64 most, .int .i64 low, .int .i64 high, .int .i64 quiet, .int .i64 0]
  simp only [World.size_alloc] at hB0
  have hL0 := lo_alloc (lo_alloc (lo_refl w) (.cells #[.int .i64 0, .int .i64 0, .int .i64 0, .int .i64 0, .int .i64 0, .int .i64 0, .int .i64 0] 24)) (.cells #[.int .i64 most, .int .i64 least, .int .i64 most, .int .i64 low, .int .i64 high, .int .i64 quiet, .int .i64 0] 24)
  have HA0 := Lib.hid hA0
  have HB0 := Lib.hid hB0
  have HL0 := Lib.hid hL0
  clear hA0 hB0 hL0
  rcases err_cases (St.mk most least most low high quiet 0) with he | he
  · rw [he] at H ⊢
    clear he
    go_enter Try.func6, Try.ntmps6
    go_wp2_with fail
    refine (H.out _).mono ?_
    rintro e w1 ⟨rfl, hb⟩
    have hA := HA0.out.lo hb
    have hB := HB0.out.lo hb
    have hL := Lib.hid (lo_trans HL0.out hb)
    clear hb
    obtain ⟨cA, fA⟩ := hA.facts
    obtain ⟨cB, fB⟩ := hB.facts
    have lA := hA.lt
    clear hA hB
    go_wp2_with fail
    refine bodyPost_ret (v := .tuple #[.agg #[.int .i64 most, .int .i64 least, .int .i64 most, .int .i64 low, .int .i64 high, .int .i64 quiet, .int .i64 0], .int .i64 0]) (by simp [results, Try.results6, go_sem, cA]) rfl ⟨by simp, ?_⟩
    have hl := hL.out
    repeat' (first | with_reducible exact hl | with_reducible apply lo_set | simp)
  · rw [he] at H ⊢
    clear he
    go_enter Try.func6, Try.ntmps6
    go_wp2_with fail
    refine (H.out _).mono ?_
    rintro e w1 ⟨rfl, hb⟩
    have hA := HA0.out.lo hb
    have hB := HB0.out.lo hb
    have hL := Lib.hid (lo_trans HL0.out hb)
    clear hb
    obtain ⟨cA, fA⟩ := hA.facts
    obtain ⟨cB, fB⟩ := hB.facts
    have lA := hA.lt
    clear hA hB
    go_wp2_with fail
    refine bodyPost_ret (v := .tuple #[.agg #[.int .i64 0, .int .i64 0, .int .i64 0, .int .i64 0, .int .i64 0, .int .i64 0, .int .i64 0], .int .i64 8]) (by simp [results, Try.results6, go_sem, cA]) rfl ⟨by simp, ?_⟩
    have hl := hL.out
    repeat' (first | with_reducible exact hl | with_reducible apply lo_set | simp)
set_option maxRecDepth 100000 in
set_option maxHeartbeats 3200000 in
theorem new_ref (least most low high quiet : Int) (w : World) : Calls Try.prog 7 #[.int .i64 least, .int .i64 most, .int .i64 low, .int .i64 high, .int .i64 quiet] w (NewPost w (newS least most low high quiet) (St.mk most least most low high quiet 0).err) := by
  unfold newS
  have H := Lib.hid (check_ref (St.mk most least most low high quiet 0))
  have hA0 := (Blk.new w 28 #[.int .i64 0, .int .i64 0, .int .i64 0, .int .i64 0, .int .i64 0, .int .i64 0, .int .i64 0]).alloc (.cells #[.int .i64 most, .int .i64 least, .int .i64 most, .int .i64 low, .int .i64 high, .int .i64 quiet, .int .i64 0] 28)
  have hB0 := Blk.new (w.alloc (.cells #[.int .i64 0, .int .i64 0, .int .i64 0, .int .i64 0, .int .i64 0, .int .i64 0, .int .i64 0] 28)) 28 #[.int .i64 most, .int .i64 least, .int .i64 most, .int .i64 low, .int .i64 high, .int .i64 quiet, .int .i64 0]
  simp only [World.size_alloc] at hB0
  have hL0 := lo_alloc (lo_alloc (lo_refl w) (.cells #[.int .i64 0, .int .i64 0, .int .i64 0, .int .i64 0, .int .i64 0, .int .i64 0, .int .i64 0] 28)) (.cells #[.int .i64 most, .int .i64 least, .int .i64 most, .int .i64 low, .int .i64 high, .int .i64 quiet, .int .i64 0] 28)
  have HA0 := Lib.hid hA0
  have HB0 := Lib.hid hB0
  have HL0 := Lib.hid hL0
  clear hA0 hB0 hL0
  rcases err_cases (St.mk most least most low high quiet 0) with he | he
  · rw [he] at H ⊢
    clear he
    go_enter Try.func7, Try.ntmps7
    go_wp2_with fail
    refine (H.out _).mono ?_
    rintro e w1 ⟨rfl, hb⟩
    have hA := HA0.out.lo hb
    have hB := HB0.out.lo hb
    have hL := Lib.hid (lo_trans HL0.out hb)
    clear hb
    obtain ⟨cA, fA⟩ := hA.facts
    obtain ⟨cB, fB⟩ := hB.facts
    have lA := hA.lt
    clear hA hB
    go_wp2_with fail
    refine bodyPost_ret (v := .tuple #[.agg #[.int .i64 most, .int .i64 least, .int .i64 most, .int .i64 low, .int .i64 high, .int .i64 quiet, .int .i64 0], .int .i64 0]) (by simp [results, Try.results7, go_sem, cA]) rfl ⟨by simp, ?_⟩
    have hl := hL.out
    repeat' (first | with_reducible exact hl | with_reducible apply lo_set | simp)
  · rw [he] at H ⊢
    clear he
    go_enter Try.func7, Try.ntmps7
    go_wp2_with fail
    refine (H.out _).mono ?_
    rintro e w1 ⟨rfl, hb⟩
    have hA := HA0.out.lo hb
    have hB := HB0.out.lo hb
    have hL := Lib.hid (lo_trans HL0.out hb)
    clear hb
    obtain ⟨cA, fA⟩ := hA.facts
    obtain ⟨cB, fB⟩ := hB.facts
    have lA := hA.lt
    clear hA hB
    go_wp2_with fail
    refine bodyPost_ret (v := .tuple #[.agg #[.int .i64 0, .int .i64 0, .int .i64 0, .int .i64 0, .int .i64 0, .int .i64 0, .int .i64 0], .int .i64 8]) (by simp [results, Try.results7, go_sem, cA]) rfl ⟨by simp, ?_⟩
    have hl := hL.out
    repeat' (first | with_reducible exact hl | with_reducible apply lo_set | simp)
end Go.Proofs.Ytbjfdmgfmdccgaa
