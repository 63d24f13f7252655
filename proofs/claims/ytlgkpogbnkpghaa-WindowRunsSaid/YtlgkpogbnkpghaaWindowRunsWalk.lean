import Derived.Test.YtlgkpogbnkpghaaWindowChangesWalk
import Derived.Laws.OwnMore
import Derived.Deep.DeepFit
import Derived.Deep.RegionHeld3
import Derived.WalkSmall
import Derived.Deep.RegionWith
import Derived.Deep.QuietTactic
import Derived.BigQuiet
namespace Go.Proofs.Ytlgkpogbnkpghaa
open Go.RowKit

theorem step_code (a k n : Int) : 0 ≤ (stepW a k n).2 ∧ (stepW a k n).2 ≤ 3 := by
  unfold stepW
  split
  · split <;> simp
  · split
    · exact give_code _ _
    · split
      · exact shift_code _ _ _
      · split
        · exact shift_code _ _ _
        · simp
theorem run_code : ∀ (l : List (Int × Int)) (a : Int), 0 ≤ (runW l a).2 ∧ (runW l a).2 ≤ 3
  | [], _ => by simp [runW]
  | x :: t, a => by
    unfold runW
    split
    · exact run_code t _
    · exact step_code _ _ _
theorem info41 : (Try.prog.info? 41).map (fun i => (i.zero, i.size, i.bytes)) = some (some (.agg #[.int .u8 0, .int .i64 0]), 2, 16) := by kernel_rfl
def cellsW (x : Int × Int) : List Value := [Value.int .u8 x.1, Value.int .i64 x.2]
theorem take_flat (l : List (Int × Int)) (k : Nat) (h : k < l.length) : (l.take k).flatMap cellsW ++ cellsW l[k] = (l.take (k + 1)).flatMap cellsW := by
  rw [← List.take_append_getElem h, List.flatMap_append]
  simp
theorem keep3 {W w' : World} {p : Nat} {p0 p1 p2 : Value} (hb : Below W.heap.size W w') (h : W.cell? ⟨p, 0, none⟩ = some p0 ∧ W.cell? ⟨p, 1, none⟩ = some p1 ∧ W.cell? ⟨p, 2, none⟩ = some p2 ∧ p < W.heap.size) :
    w'.cell? ⟨p, 0, none⟩ = some p0 ∧ w'.cell? ⟨p, 1, none⟩ = some p1 ∧ w'.cell? ⟨p, 2, none⟩ = some p2 ∧ p < w'.heap.size := by
  obtain ⟨h0, h1, h2, h3⟩ := h
  exact ⟨(hb.cell h3).trans h0, (hb.cell h3).trans h1, (hb.cell h3).trans h2, Nat.lt_of_lt_of_le h3 hb.size⟩
set_option maxRecDepth 100000 in
set_option maxHeartbeats 3200000 in
theorem walk_WindowRuns (a0 : Int) (a1 : Option Addr) (len1 cap1 : Nat) (xs1 : List (Int × Int)) (s2_0 : Int) (s2_1 : Int) (s2_2 : Int) (w : World) (_w0 : (Lit.int .i64 a0).wf = true) (w1 : AggRow 2 (fun x : Int × Int => [Value.int .u8 x.1, Value.int .i64 x.2]) (fun x : Int × Int => (Lit.int .u8 x.1).wf = true ∧ (Lit.int .i64 x.2).wf = true) w a1 len1 cap1 xs1) (_w2_0 : (Lit.int .i64 s2_0).wf = true) (_w2_1 : (Lit.int .i64 s2_1).wf = true) (_w2_2 : (Lit.int .i64 s2_2).wf = true) :
    Calls Try.prog 4 #[.int .i64 a0, .slice a1 len1 cap1, .agg #[.int .i64 s2_0, .int .i64 s2_1, .int .i64 s2_2]] w fun e w' => e = .returned (.bool true) ∧ Below w.heap.size w w' := by
  clear _w0 _w2_0 _w2_1 _w2_2
  have HL := Lib.hid w1
  have hll := w1.1
  have hlm : len1 ≤ maxLen := Nat.le_trans w1.2.1 w1.2.2.1
  obtain ⟨i0, hi, hz0, hz1, hz2⟩ := info_parts info41
  clear w1
  by_cases hbig : len1 > 60
  · go_enter Try.func4, Try.ntmps4
    go_wp2_with fail
    refine (awake_any _).mono ?_
    rintro e w2 ⟨rfl, hb2⟩
    have hM := Lib.hid (lo_trans (lo_alloc (lo_refl w) (.cells #[.int .i64 s2_0, .int .i64 s2_1, .int .i64 s2_2] 38)) hb2)
    go_wp2_with fail
    go_ret
    exact ⟨rfl, hM.out⟩
  · go_enter Try.func4, Try.ntmps4
    go_wp2_with fail
    go_loopw [7, 8] (fun v y wr => ∃ (k : Nat), k ≤ len1 ∧ y = .int .i64 k ∧ wr.ownsRow (w.heap.size + 1) 41 2 v k ((xs1.take k).flatMap cellsW) ∧ Blk wr w.heap.size 38 #[.int .i64 s2_0, .int .i64 s2_1, .int .i64 s2_2] ∧ Below w.heap.size w wr) (fun _ y _ => len1 - (intOf y).toNat)
    case atStart => exact ⟨0, by omega, rfl, World.ownsRow_nil _ _ _ _, Blk.new _ _ _, lo_alloc (lo_refl w) _⟩
    case round =>
      obtain ⟨k, hk, rfl, hown, hblk, hbel⟩ := hrel
      by_cases hkl : k < len1
      · obtain ⟨b, off, rfl, hlt, hc⟩ := (agg_below HL.out hbel).2.2.2.2.1 k xs1[k] (List.getElem?_eq_getElem (by omega))
        have ht := take_flat xs1 k (by omega)
        generalize xs1[k] = x at hc ht
        obtain ⟨kd, n⟩ := x
        have hc0 := hc 0 _ rfl
        have hc1 := hc 1 _ rfl
        simp only [Nat.add_zero] at hc0 hc1
        have hkl' : (k : Int) < (len1 : Int) := by omega
        have hsz : w.heap.size + 1 ≤ wr.heap.size := hblk.lt
        have HT := Lib.hid ht
        clear hc ht
        go_wp2_with (at_builtin; refine wp_append_box rfl _ _ 39 rfl (w.heap.size + 1) 41 i0 _ 2 16 Try.underlying39 hi hz0 hz1 hz2 rfl (by decide) _ _ _ rfl hown 1 _ rfl rfl (by intro u hu; simp at hu; rcases hu with rfl | rfl <;> rfl) (by omega) (by decide) hsz ?_; intro v' w1 hown1 hbel1)
        go_roundw
        case rel =>
          refine ⟨k + 1, by omega, by go_num, ?_, hblk.below hbel1 (Nat.lt_succ_self _), hbel.trans (hbel1.mono (Nat.le_succ _))⟩
          rw [← HT.out]
          exact hown1
        case measure => simp [intOf]; omega
      · have hkl' : ¬ (k : Int) < (len1 : Int) := by omega
        have hke : k = len1 := by omega
        subst hke
        have hfull : xs1.take k = xs1 := List.take_of_length_le (by omega)
        rw [hfull] at hown
        obtain ⟨A, cap, rfl, hcap, hnil⟩ := own_shape hown
        have hA : Acts wr A k cap xs1 := agg_own (C := cellsW) (fun _ => rfl) (by decide) hown HL.out.2.2.2.2.2
        have H1 := Lib.hid (run_any a0 A k cap xs1 wr hA (by omega))
        have H2 := Lib.hid fun (w2 : World) (hb : Below wr.heap.size wr w2) => run_ref a0 a1 k cap1 xs1 w2 (agg_below HL.out (lo_trans hbel hb)) (by omega)
        have hr := run_code xs1 a0
        generalize runW xs1 a0 = R at H1 H2 hr
        obtain ⟨r1, r2⟩ := R
        obtain ⟨hr1, hr2⟩ := hr
        simp only at hr1 hr2
        have H3 := Lib.hid (may_any a0 s2_0 s2_1 s2_2)
        have H4 := Lib.hid (may_ref a0 s2_0 s2_1 s2_2)
        generalize mayW a0 s2_0 s2_1 s2_2 = m at H3 H4
        have hbel' := Lib.hid hbel
        clear hbel hown hA hfull hcap hnil hlm HL
        go_wp2_with fail
        refine H1.out.mono ?_
        rintro e w2 ⟨rfl, hb1⟩
        have hblk2 := hblk.lo hb1
        have hL2 := Lib.hid (lo_trans hbel'.out hb1)
        have H5 := Lib.hid (H2.out w2 hb1)
        clear hblk hb1 hbel'
        go_wp2_with fail
        refine H5.out.mono ?_
        rintro e w3 ⟨rfl, hb3⟩
        have hblk3 := hblk2.lo hb3
        have hL3 := Lib.hid (lo_trans hL2.out hb3)
        clear hblk2 hb3 hL2
        obtain ⟨cC, fC⟩ := hblk3.facts
        have hgl := hblk3.lt
        have hz1 : (0 : Int) < 3 := by decide
        go_wp2_with fail
        obtain rfl | rfl | rfl | rfl : r2 = 0 ∨ r2 = 1 ∨ r2 = 2 ∨ r2 = 3 := by omega
        all_goals
          go_region_held3 (fun W => W.cell? ⟨w.heap.size, 0, none⟩ = some (.int .i64 s2_0) ∧ W.cell? ⟨w.heap.size, 1, none⟩ = some (.int .i64 s2_1) ∧ W.cell? ⟨w.heap.size, 2, none⟩ = some (.int .i64 s2_2) ∧ w.heap.size < W.heap.size) (first | exact keep3 hb9 (by assumption) | (simp [*]; done) | go_keep)
            (first
              | (go_at_call 18; refine (H3.out _).mono ?_; rintro e w' ⟨rfl, rfl⟩)
              | (go_at_call 19; refine (H4.out _).mono ?_; rintro e w' ⟨rfl, rfl⟩)
              | (go_at_call 15; refine (awake_any _).mono ?_; rintro e w' ⟨rfl, hb9⟩))
          have hM := lo_trans (lo_drew hL3.out) hb9
          clear hblk3
          go_wp2_with fail
          go_ret
          exact ⟨rfl, hM⟩
end Go.Proofs.Ytlgkpogbnkpghaa
