import Derived.Test.YtokedcdjclbliaaPlain
namespace Go.Proofs.Ytokedcdjclbliaa
open Go.RowKit

/-- The bucket's value, as it comes in: two boxes of it. -/
def C5 (b : Bk) : Array Value := #[.int .i64 b.burst, .int .i64 b.rate, .int .i64 b.per, .int .i64 b.level, .int .i64 b.now]
set_option maxHeartbeats 3200000 in
theorem waits_walk (b : Bk) (g : Int) (hg : 0 ≤ g) (hg2 : g ≤ 65535) (w : World) :
    Calls Try.prog 5 #[.agg #[.int .i64 b.burst, .int .i64 b.rate, .int .i64 b.per, .int .i64 b.level, .int .i64 b.now], .int .u16 g] w (AwakePost w) := by
  have hA0 := (Blk.new w 27 #[.int .i64 b.burst, .int .i64 b.rate, .int .i64 b.per, .int .i64 b.level, .int .i64 b.now]).alloc (.cells #[.int .i64 b.burst, .int .i64 b.rate, .int .i64 b.per, .int .i64 b.level, .int .i64 b.now] 23)
  have hB0 := Blk.new (w.alloc (.cells #[.int .i64 b.burst, .int .i64 b.rate, .int .i64 b.per, .int .i64 b.level, .int .i64 b.now] 27)) 23 #[.int .i64 b.burst, .int .i64 b.rate, .int .i64 b.per, .int .i64 b.level, .int .i64 b.now]
  simp only [World.size_alloc] at hB0
  have hL0 := lo_alloc (lo_alloc (lo_refl w) (.cells #[.int .i64 b.burst, .int .i64 b.rate, .int .i64 b.per, .int .i64 b.level, .int .i64 b.now] 27)) (.cells #[.int .i64 b.burst, .int .i64 b.rate, .int .i64 b.per, .int .i64 b.level, .int .i64 b.now] 23)
  have HA0 := Lib.hid hA0
  have HB0 := Lib.hid hB0
  have HL0 := Lib.hid hL0
  clear hA0 hB0 hL0
  have hC := check_any b
  rcases err_cases b with ⟨hok, he⟩ | ⟨hok, he⟩
  · rw [he] at hC
    have HC := Lib.hid hC
    clear hC he
    by_cases hn : 1073741824 < b.now
    · clear hok
      go_enter Try.func5, Try.ntmps5
      go_wp2_with fail
      refine (HC.out _).mono ?_
      rintro e w1 ⟨rfl, hb1⟩
      obtain ⟨cB, fB⟩ := (HB0.out.lo hb1).facts
      have hL := Lib.hid (lo_trans HL0.out hb1)
      clear hb1
      go_wp2_with fail
      refine (awake_any _).mono ?_
      rintro e w2 ⟨rfl, hb2⟩
      go_wp2_with fail
      go_ret
      exact ⟨rfl, lo_trans hL.out hb2⟩
    · have hW := waits hok (by omega) hg hg2
      have HWt := Lib.hid (wait_any b (b.now + g))
      have hn0 := hok.2.2.1
      generalize waitB b (b.now + g) = n at hW HWt
      by_cases hneg : n < 0
      · obtain ⟨rfl, f1, f2⟩ := hW.1 hneg
        clear hW hneg
        have HAt := Lib.hid (at_any b (b.now + g + 1000))
        have HHa := Lib.hid (has_any (atB b (b.now + g + 1000)))
        rw [f1] at HHa
        generalize atB b (b.now + g + 1000) = a at HAt HHa
        have F2 := Lib.hid f2
        clear f1 f2 hok
        go_enter Try.func5, Try.ntmps5
        go_wp2_with fail
        refine (HC.out _).mono ?_
        rintro e w1 ⟨rfl, hb1⟩
        have hB := HB0.out.lo hb1
        have hA := HA0.out.lo hb1
        obtain ⟨cB, fB⟩ := hB.facts
        have hL := Lib.hid (lo_trans HL0.out hb1)
        clear hb1
        go_wp2_with fail
        refine (HWt.out _).mono ?_
        rintro e w2 ⟨rfl, hb2⟩
        have hB := hB.lo hb2
        have hA := hA.lo hb2
        have hL := Lib.hid (lo_trans hL.out hb2)
        clear hb2 cB fB
        obtain ⟨cB, fB⟩ := hB.facts
        go_wp2_with fail
        refine (HAt.out _).mono ?_
        rintro e w3 ⟨rfl, hb3⟩
        have hA := hA.lo hb3
        have hL := Lib.hid (lo_trans hL.out hb3)
        clear hb3 cB fB hB
        go_wp2_with fail
        refine (HHa.out _).mono ?_
        rintro e w4 ⟨rfl, hb4⟩
        have hA := hA.lo hb4
        have hL := Lib.hid (lo_trans hL.out hb4)
        clear hb4
        obtain ⟨cA, fA⟩ := hA.facts
        have hbr : (b.rate == 0) = true := by rw [F2.out]; rfl
        go_wp2_with fail
        refine (awake_any _).mono ?_
        rintro e w5 ⟨rfl, hb5⟩
        go_wp2_with fail
        go_ret
        exact ⟨rfl, lo_trans hL.out hb5⟩
      · obtain ⟨f1, f2, f3⟩ := hW.2 (by omega)
        clear hW
        have HTk := Lib.hid (take_any b (b.now + g + n))
        generalize hr : takeB b (b.now + g + n) = r at f2 HTk
        obtain ⟨r1, r2⟩ := r
        simp only at f2
        subst f2
        have HAt := Lib.hid (at_any b (b.now + g + n - 1))
        have HHa := Lib.hid (has_any (atB b (b.now + g + n - 1)))
        have F3 := Lib.hid f3
        generalize atB b (b.now + g + n - 1) = a at HAt HHa F3
        clear f3 hok hr
        by_cases hp : 0 < n
        · have hz := F3.out hp
          have HHa2 := HHa.out
          rw [hz] at HHa2
          have HHa3 := Lib.hid HHa2
          clear hz HHa2
          go_enter Try.func5, Try.ntmps5
          go_wp2_with fail
          refine (HC.out _).mono ?_
          rintro e w1 ⟨rfl, hb1⟩
          have hB := HB0.out.lo hb1
          obtain ⟨cB, fB⟩ := hB.facts
          have hL := Lib.hid (lo_trans HL0.out hb1)
          clear hb1
          go_wp2_with fail
          refine (HWt.out _).mono ?_
          rintro e w2 ⟨rfl, hb2⟩
          have hB := hB.lo hb2
          have hL := Lib.hid (lo_trans hL.out hb2)
          clear hb2 cB fB
          obtain ⟨cB, fB⟩ := hB.facts
          go_wp2_with fail
          refine (HTk.out _).mono ?_
          rintro e w3 ⟨rfl, hb3⟩
          have hB := hB.lo hb3
          have hL := Lib.hid (lo_alloc (lo_trans hL.out hb3) (.cells #[.int .i64 r1.burst, .int .i64 r1.rate, .int .i64 r1.per, .int .i64 r1.level, .int .i64 r1.now] 23))
          clear hb3 cB fB
          obtain ⟨cB, fB⟩ := (hB.alloc (.cells #[.int .i64 r1.burst, .int .i64 r1.rate, .int .i64 r1.per, .int .i64 r1.level, .int .i64 r1.now] 23)).facts
          go_wp2_with fail
          refine (HAt.out _).mono ?_
          rintro e w4 ⟨rfl, hb4⟩
          have hL := Lib.hid (lo_trans hL.out hb4)
          clear hb4 cB fB hB
          go_wp2_with fail
          refine (HHa3.out _).mono ?_
          rintro e w5 ⟨rfl, hb5⟩
          have hL := Lib.hid (lo_trans hL.out hb5)
          clear hb5
          go_wp2_with fail
          refine (awake_any _).mono ?_
          rintro e w6 ⟨rfl, hb6⟩
          go_wp2_with fail
          go_ret
          exact ⟨rfl, lo_trans hL.out hb6⟩
        · have hn00 : n = 0 := by omega
          subst hn00
          have hp0 : ¬ (0 : Int) < 0 := by omega
          clear hneg hp
          rw [Int.add_zero] at HTk
          go_enter Try.func5, Try.ntmps5
          go_wp2_with fail
          refine (HC.out _).mono ?_
          rintro e w1 ⟨rfl, hb1⟩
          have hB := HB0.out.lo hb1
          obtain ⟨cB, fB⟩ := hB.facts
          have hL := Lib.hid (lo_trans HL0.out hb1)
          clear hb1
          go_wp2_with fail
          refine (HWt.out _).mono ?_
          rintro e w2 ⟨rfl, hb2⟩
          have hB := hB.lo hb2
          have hL := Lib.hid (lo_trans hL.out hb2)
          clear hb2 cB fB
          obtain ⟨cB, fB⟩ := hB.facts
          go_wp2_with fail
          refine (HTk.out _).mono ?_
          rintro e w3 ⟨rfl, hb3⟩
          have hL := Lib.hid (lo_alloc (lo_trans hL.out hb3) (.cells #[.int .i64 r1.burst, .int .i64 r1.rate, .int .i64 r1.per, .int .i64 r1.level, .int .i64 r1.now] 23))
          clear hb3 cB fB hB
          go_wp2_with fail
          refine (awake_any _).mono ?_
          rintro e w6 ⟨rfl, hb6⟩
          go_wp2_with fail
          go_ret
          exact ⟨rfl, lo_trans hL.out hb6⟩
  · rw [he] at hC
    have HC := Lib.hid hC
    clear hC he hok
    go_enter Try.func5, Try.ntmps5
    go_wp2_with fail
    refine (HC.out _).mono ?_
    rintro e w1 ⟨rfl, hb1⟩
    have hL := Lib.hid (lo_trans HL0.out hb1)
    clear hb1
    go_wp2_with fail
    refine (awake_any _).mono ?_
    rintro e w2 ⟨rfl, hb2⟩
    go_wp2_with fail
    go_ret
    exact ⟨rfl, lo_trans hL.out hb2⟩

theorem walk_BucketWaits (s0_0 : Int) (s0_1 : Int) (s0_2 : Int) (s0_3 : Int) (s0_4 : Int) (a1 : Int) (w : World) (_w0_0 : (Lit.int .i64 s0_0).wf = true) (_w0_1 : (Lit.int .i64 s0_1).wf = true) (_w0_2 : (Lit.int .i64 s0_2).wf = true) (_w0_3 : (Lit.int .i64 s0_3).wf = true) (_w0_4 : (Lit.int .i64 s0_4).wf = true) (w1 : (Lit.int .u16 a1).wf = true) :
    Calls Try.prog 5 #[.agg #[.int .i64 s0_0, .int .i64 s0_1, .int .i64 s0_2, .int .i64 s0_3, .int .i64 s0_4], .int .u16 a1] w fun e w' => e = .returned (.bool true) ∧ Below w.heap.size w w' := by
  have h := bounds_u16 w1
  exact waits_walk ⟨s0_0, s0_1, s0_2, s0_3, s0_4⟩ a1 (by omega) (by omega) w
end Go.Proofs.Ytokedcdjclbliaa
