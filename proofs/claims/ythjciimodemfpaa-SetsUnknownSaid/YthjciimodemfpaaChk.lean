import Derived.Test.YthjciimodemfpaaRow
namespace Go.Proofs.Ythjciimodemfpaa
open Go.RowKit
attribute [local go_sem ↓] Go.wp_at_zero Go.wp_at_succ

def goodN (id n : Int) : Prop := 0 ≤ n ∧ n ≤ 4294967295 ∧ faultL id n = 0
instance (id n : Int) : Decidable (goodN id n) := by unfold goodN; infer_instance
def goodK (v : Vs) : Nat → Prop
  | 0 => goodN 1 v.table
  | 1 => goodN 2 v.push
  | 2 => goodN 3 v.streams
  | 3 => goodN 4 v.window
  | 4 => goodN 5 v.frame
  | _ => goodN 6 v.list
/-- Values that may be. -/
def Vs.ok (v : Vs) : Prop := goodN 1 v.table ∧ goodN 2 v.push ∧ goodN 3 v.streams ∧ goodN 4 v.window ∧ goodN 5 v.frame ∧ goodN 6 v.list
instance (v : Vs) : Decidable v.ok := by unfold Vs.ok; infer_instance
def Vs.err (v : Vs) : Int := if v.ok then 0 else 8
theorem err_cases (v : Vs) : (v.ok ∧ v.err = 0) ∨ (¬ v.ok ∧ v.err = 8) := by
  by_cases h : v.ok
  · exact .inl ⟨h, if_pos h⟩
  · exact .inr ⟨h, if_neg h⟩
theorem ok_of_good {v : Vs} (h : ∀ j, j < 6 → goodK v j) : v.ok := ⟨h 0 (by decide), h 1 (by decide), h 2 (by decide), h 3 (by decide), h 4 (by decide), h 5 (by decide)⟩
theorem good_next {v : Vs} {k : Nat} (h : ∀ j, j < k → goodK v j) (hk : goodK v k) : ∀ j, j < k + 1 → goodK v j := fun j hj => by
  rcases Nat.lt_or_ge j k with h1 | h1
  · exact h j h1
  · rw [show j = k by omega]; exact hk
set_option maxRecDepth 100000 in
set_option maxHeartbeats 1600000 in
theorem check_any (v : Vs) (w : World) : Calls Try.prog 10 #[.agg #[.int .i64 v.table, .int .i64 v.push, .int .i64 v.streams, .int .i64 v.window, .int .i64 v.frame, .int .i64 v.list]] w (IntPost w v.err) := by
  have hL := lo_alloc (lo_refl w) (.cells #[.int .i64 v.table, .int .i64 v.push, .int .i64 v.streams, .int .i64 v.window, .int .i64 v.frame, .int .i64 v.list] 26)
  go_enter Try.func10, Try.ntmps10
  go_wp2_with fail
  refine (row_any v _).mono ?_
  rintro e w1 ⟨rfl, hb⟩
  have hL := Lib.hid (lo_trans hL hb)
  clear hb
  go_wp2_with fail
  go_loop [7] (fun y => ∃ k : Nat, k ≤ 6 ∧ y = .int .i64 k ∧ Hid (∀ j, j < k → goodK v j)) (fun y => 6 - (intOf y).toNat)
  case atStart => exact ⟨0, by omega, rfl, Lib.hid fun j hj => absurd hj (by omega)⟩
  case round =>
    obtain ⟨k, hk, hy, HG⟩ := hrel
    rcases upto6 hk with rfl | rfl | rfl | rfl | rfl | rfl | rfl
    · obtain rfl : u7 = .int .i64 0 := hy
      have ix : ∀ w', (Instr.index 55 (.agg #[.int .i64 v.table, .int .i64 v.push, .int .i64 v.streams, .int .i64 v.window, .int .i64 v.frame, .int .i64 v.list]) (.int .i64 0)).run Try.prog w' = .ok (.int .i64 v.table) w' := fun _ => by kernel_rfl
      have h := fault_any 1 v.table
      generalize hf : faultL 1 v.table = ft at h
      have HF := Lib.hid hf
      have H := Lib.hid h
      clear h hf
      by_cases c0 : v.table < 0
      · have he : Hid (v.err = 8) := Lib.hid (if_neg fun q => by have := q.1.1; omega)
        go_wp2_with fail
        go_ret
        exact ⟨by rw [he.out]; rfl, hL.out⟩
      · by_cases c1 : 4294967295 < v.table
        · have he : Hid (v.err = 8) := Lib.hid (if_neg fun q => by have := q.1.2.1; omega)
          go_wp2_with fail
          go_ret
          exact ⟨by rw [he.out]; rfl, hL.out⟩
        · by_cases c2 : ft = 0
          · subst c2
            have HN := Lib.hid (good_next HG.out (show goodK v 0 from ⟨by omega, by omega, HF.out⟩))
            go_wp2_with (go_at_call 20; refine (H.out _).mono ?_; rintro e w' ⟨rfl, rfl⟩)
            go_round
            case rel => exact ⟨1, by omega, by first | rfl | simp, HN⟩
            case measure => simp [intOf]
          · have he : Hid (v.err = 8) := Lib.hid (if_neg fun q => c2 (HF.out.symm.trans q.1.2.2))
            go_wp2_with (go_at_call 20; refine (H.out _).mono ?_; rintro e w' ⟨rfl, rfl⟩)
            go_ret
            exact ⟨by rw [he.out]; rfl, hL.out⟩
    · obtain rfl : u7 = .int .i64 1 := hy
      have ix : ∀ w', (Instr.index 55 (.agg #[.int .i64 v.table, .int .i64 v.push, .int .i64 v.streams, .int .i64 v.window, .int .i64 v.frame, .int .i64 v.list]) (.int .i64 1)).run Try.prog w' = .ok (.int .i64 v.push) w' := fun _ => by kernel_rfl
      have h := fault_any 2 v.push
      generalize hf : faultL 2 v.push = ft at h
      have HF := Lib.hid hf
      have H := Lib.hid h
      clear h hf
      by_cases c0 : v.push < 0
      · have he : Hid (v.err = 8) := Lib.hid (if_neg fun q => by have := q.2.1.1; omega)
        go_wp2_with fail
        go_ret
        exact ⟨by rw [he.out]; rfl, hL.out⟩
      · by_cases c1 : 4294967295 < v.push
        · have he : Hid (v.err = 8) := Lib.hid (if_neg fun q => by have := q.2.1.2.1; omega)
          go_wp2_with fail
          go_ret
          exact ⟨by rw [he.out]; rfl, hL.out⟩
        · by_cases c2 : ft = 0
          · subst c2
            have HN := Lib.hid (good_next HG.out (show goodK v 1 from ⟨by omega, by omega, HF.out⟩))
            go_wp2_with (go_at_call 20; refine (H.out _).mono ?_; rintro e w' ⟨rfl, rfl⟩)
            go_round
            case rel => exact ⟨2, by omega, by first | rfl | simp, HN⟩
            case measure => simp [intOf]
          · have he : Hid (v.err = 8) := Lib.hid (if_neg fun q => c2 (HF.out.symm.trans q.2.1.2.2))
            go_wp2_with (go_at_call 20; refine (H.out _).mono ?_; rintro e w' ⟨rfl, rfl⟩)
            go_ret
            exact ⟨by rw [he.out]; rfl, hL.out⟩
    · obtain rfl : u7 = .int .i64 2 := hy
      have ix : ∀ w', (Instr.index 55 (.agg #[.int .i64 v.table, .int .i64 v.push, .int .i64 v.streams, .int .i64 v.window, .int .i64 v.frame, .int .i64 v.list]) (.int .i64 2)).run Try.prog w' = .ok (.int .i64 v.streams) w' := fun _ => by kernel_rfl
      have h := fault_any 3 v.streams
      generalize hf : faultL 3 v.streams = ft at h
      have HF := Lib.hid hf
      have H := Lib.hid h
      clear h hf
      by_cases c0 : v.streams < 0
      · have he : Hid (v.err = 8) := Lib.hid (if_neg fun q => by have := q.2.2.1.1; omega)
        go_wp2_with fail
        go_ret
        exact ⟨by rw [he.out]; rfl, hL.out⟩
      · by_cases c1 : 4294967295 < v.streams
        · have he : Hid (v.err = 8) := Lib.hid (if_neg fun q => by have := q.2.2.1.2.1; omega)
          go_wp2_with fail
          go_ret
          exact ⟨by rw [he.out]; rfl, hL.out⟩
        · by_cases c2 : ft = 0
          · subst c2
            have HN := Lib.hid (good_next HG.out (show goodK v 2 from ⟨by omega, by omega, HF.out⟩))
            go_wp2_with (go_at_call 20; refine (H.out _).mono ?_; rintro e w' ⟨rfl, rfl⟩)
            go_round
            case rel => exact ⟨3, by omega, by first | rfl | simp, HN⟩
            case measure => simp [intOf]
          · have he : Hid (v.err = 8) := Lib.hid (if_neg fun q => c2 (HF.out.symm.trans q.2.2.1.2.2))
            go_wp2_with (go_at_call 20; refine (H.out _).mono ?_; rintro e w' ⟨rfl, rfl⟩)
            go_ret
            exact ⟨by rw [he.out]; rfl, hL.out⟩
    · obtain rfl : u7 = .int .i64 3 := hy
      have ix : ∀ w', (Instr.index 55 (.agg #[.int .i64 v.table, .int .i64 v.push, .int .i64 v.streams, .int .i64 v.window, .int .i64 v.frame, .int .i64 v.list]) (.int .i64 3)).run Try.prog w' = .ok (.int .i64 v.window) w' := fun _ => by kernel_rfl
      have h := fault_any 4 v.window
      generalize hf : faultL 4 v.window = ft at h
      have HF := Lib.hid hf
      have H := Lib.hid h
      clear h hf
      by_cases c0 : v.window < 0
      · have he : Hid (v.err = 8) := Lib.hid (if_neg fun q => by have := q.2.2.2.1.1; omega)
        go_wp2_with fail
        go_ret
        exact ⟨by rw [he.out]; rfl, hL.out⟩
      · by_cases c1 : 4294967295 < v.window
        · have he : Hid (v.err = 8) := Lib.hid (if_neg fun q => by have := q.2.2.2.1.2.1; omega)
          go_wp2_with fail
          go_ret
          exact ⟨by rw [he.out]; rfl, hL.out⟩
        · by_cases c2 : ft = 0
          · subst c2
            have HN := Lib.hid (good_next HG.out (show goodK v 3 from ⟨by omega, by omega, HF.out⟩))
            go_wp2_with (go_at_call 20; refine (H.out _).mono ?_; rintro e w' ⟨rfl, rfl⟩)
            go_round
            case rel => exact ⟨4, by omega, by first | rfl | simp, HN⟩
            case measure => simp [intOf]
          · have he : Hid (v.err = 8) := Lib.hid (if_neg fun q => c2 (HF.out.symm.trans q.2.2.2.1.2.2))
            go_wp2_with (go_at_call 20; refine (H.out _).mono ?_; rintro e w' ⟨rfl, rfl⟩)
            go_ret
            exact ⟨by rw [he.out]; rfl, hL.out⟩
    · obtain rfl : u7 = .int .i64 4 := hy
      have ix : ∀ w', (Instr.index 55 (.agg #[.int .i64 v.table, .int .i64 v.push, .int .i64 v.streams, .int .i64 v.window, .int .i64 v.frame, .int .i64 v.list]) (.int .i64 4)).run Try.prog w' = .ok (.int .i64 v.frame) w' := fun _ => by kernel_rfl
      have h := fault_any 5 v.frame
      generalize hf : faultL 5 v.frame = ft at h
      have HF := Lib.hid hf
      have H := Lib.hid h
      clear h hf
      by_cases c0 : v.frame < 0
      · have he : Hid (v.err = 8) := Lib.hid (if_neg fun q => by have := q.2.2.2.2.1.1; omega)
        go_wp2_with fail
        go_ret
        exact ⟨by rw [he.out]; rfl, hL.out⟩
      · by_cases c1 : 4294967295 < v.frame
        · have he : Hid (v.err = 8) := Lib.hid (if_neg fun q => by have := q.2.2.2.2.1.2.1; omega)
          go_wp2_with fail
          go_ret
          exact ⟨by rw [he.out]; rfl, hL.out⟩
        · by_cases c2 : ft = 0
          · subst c2
            have HN := Lib.hid (good_next HG.out (show goodK v 4 from ⟨by omega, by omega, HF.out⟩))
            go_wp2_with (go_at_call 20; refine (H.out _).mono ?_; rintro e w' ⟨rfl, rfl⟩)
            go_round
            case rel => exact ⟨5, by omega, by first | rfl | simp, HN⟩
            case measure => simp [intOf]
          · have he : Hid (v.err = 8) := Lib.hid (if_neg fun q => c2 (HF.out.symm.trans q.2.2.2.2.1.2.2))
            go_wp2_with (go_at_call 20; refine (H.out _).mono ?_; rintro e w' ⟨rfl, rfl⟩)
            go_ret
            exact ⟨by rw [he.out]; rfl, hL.out⟩
    · obtain rfl : u7 = .int .i64 5 := hy
      have ix : ∀ w', (Instr.index 55 (.agg #[.int .i64 v.table, .int .i64 v.push, .int .i64 v.streams, .int .i64 v.window, .int .i64 v.frame, .int .i64 v.list]) (.int .i64 5)).run Try.prog w' = .ok (.int .i64 v.list) w' := fun _ => by kernel_rfl
      have h := fault_any 6 v.list
      generalize hf : faultL 6 v.list = ft at h
      have HF := Lib.hid hf
      have H := Lib.hid h
      clear h hf
      by_cases c0 : v.list < 0
      · have he : Hid (v.err = 8) := Lib.hid (if_neg fun q => by have := q.2.2.2.2.2.1; omega)
        go_wp2_with fail
        go_ret
        exact ⟨by rw [he.out]; rfl, hL.out⟩
      · by_cases c1 : 4294967295 < v.list
        · have he : Hid (v.err = 8) := Lib.hid (if_neg fun q => by have := q.2.2.2.2.2.2.1; omega)
          go_wp2_with fail
          go_ret
          exact ⟨by rw [he.out]; rfl, hL.out⟩
        · by_cases c2 : ft = 0
          · subst c2
            have HN := Lib.hid (good_next HG.out (show goodK v 5 from ⟨by omega, by omega, HF.out⟩))
            go_wp2_with (go_at_call 20; refine (H.out _).mono ?_; rintro e w' ⟨rfl, rfl⟩)
            go_round
            case rel => exact ⟨6, by omega, by first | rfl | simp, HN⟩
            case measure => simp [intOf]
          · have he : Hid (v.err = 8) := Lib.hid (if_neg fun q => c2 (HF.out.symm.trans q.2.2.2.2.2.2.2))
            go_wp2_with (go_at_call 20; refine (H.out _).mono ?_; rintro e w' ⟨rfl, rfl⟩)
            go_ret
            exact ⟨by rw [he.out]; rfl, hL.out⟩
    · obtain rfl : u7 = .int .i64 6 := hy
      have he : Hid (v.err = 0) := Lib.hid (if_pos (ok_of_good HG.out))
      go_wp2_with fail
      go_ret
      exact ⟨by rw [he.out]; rfl, hL.out⟩

def rangeK (v : Vs) : Nat → Prop
  | 0 => 0 ≤ v.table ∧ v.table ≤ 4294967295
  | 1 => 0 ≤ v.push ∧ v.push ≤ 4294967295
  | 2 => 0 ≤ v.streams ∧ v.streams ≤ 4294967295
  | 3 => 0 ≤ v.window ∧ v.window ≤ 4294967295
  | 4 => 0 ≤ v.frame ∧ v.frame ≤ 4294967295
  | _ => 0 ≤ v.list ∧ v.list ≤ 4294967295
theorem range_next {v : Vs} {k : Nat} (h : ∀ j, j < k → rangeK v j) (hk : rangeK v k) : ∀ j, j < k + 1 → rangeK v j := fun j hj => by
  rcases Nat.lt_or_ge j k with h1 | h1
  · exact h j h1
  · rw [show j = k by omega]; exact hk
theorem fault2_iff {n : Int} : faultL 2 n = 0 ↔ n ≤ 1 := by
  rw [fault_2]; split <;> omega
theorem fault4_iff {n : Int} : faultL 4 n = 0 ↔ n ≤ 2147483647 := by
  rw [fault_4]; split <;> omega
theorem fault5_iff {n : Int} : faultL 5 n = 0 ↔ 16384 ≤ n ∧ n ≤ 16777215 := by
  rw [fault_5]; split <;> omega
theorem ok_of_range {v : Vs} (h : ∀ j, j < 6 → rangeK v j) (h1 : v.push ≤ 1) (h2 : v.window ≤ 2147483647) (h3 : 16384 ≤ v.frame) (h4 : v.frame ≤ 16777215) : v.ok :=
  ⟨⟨(h 0 (by decide)).1, (h 0 (by decide)).2, rfl⟩, ⟨(h 1 (by decide)).1, (h 1 (by decide)).2, fault2_iff.2 h1⟩, ⟨(h 2 (by decide)).1, (h 2 (by decide)).2, rfl⟩, ⟨(h 3 (by decide)).1, (h 3 (by decide)).2, fault4_iff.2 h2⟩, ⟨(h 4 (by decide)).1, (h 4 (by decide)).2, fault5_iff.2 ⟨h3, h4⟩⟩, ⟨(h 5 (by decide)).1, (h 5 (by decide)).2, rfl⟩⟩
set_option maxRecDepth 100000 in
set_option maxHeartbeats 1600000 in
theorem check_ref (v : Vs) (w : World) : Calls Try.prog 11 #[.agg #[.int .i64 v.table, .int .i64 v.push, .int .i64 v.streams, .int .i64 v.window, .int .i64 v.frame, .int .i64 v.list]] w (IntPost w v.err) := by
  have hA := Blk.new w 23 #[.int .i64 v.table, .int .i64 v.push, .int .i64 v.streams, .int .i64 v.window, .int .i64 v.frame, .int .i64 v.list]
  have hL := lo_alloc (lo_refl w) (.cells #[.int .i64 v.table, .int .i64 v.push, .int .i64 v.streams, .int .i64 v.window, .int .i64 v.frame, .int .i64 v.list] 23)
  go_enter Try.func11, Try.ntmps11
  go_wp2_with fail
  refine (all_ref v _).mono ?_
  rintro e w1 ⟨g, hg, rfl, hB, hb⟩
  have hA := hA.lo hb
  have hL := Lib.hid (lo_trans hL hb)
  obtain ⟨cA, fA⟩ := hA.facts
  obtain ⟨cB, fB⟩ := hB.facts
  clear hb hA hB hg
  go_wp2_with fail
  go_loop [4] (fun y => ∃ k : Nat, k ≤ 6 ∧ y = .int .i64 k ∧ Hid (∀ j, j < k → rangeK v j)) (fun y => 6 - (intOf y).toNat)
  case atStart => exact ⟨0, by omega, rfl, Lib.hid fun j hj => absurd hj (by omega)⟩
  case round =>
    obtain ⟨k, hk, hy, HG⟩ := hrel
    rcases upto6 hk with rfl | rfl | rfl | rfl | rfl | rfl | rfl
    · obtain rfl : u4 = .int .i64 0 := hy
      by_cases c0 : v.table < 0
      · have he : Hid (v.err = 8) := Lib.hid (if_neg fun q => by have := q.1.1; omega)
        go_wp2_with fail
        go_ret
        exact ⟨by rw [he.out]; rfl, hL.out⟩
      · by_cases c1 : 4294967295 < v.table
        · have he : Hid (v.err = 8) := Lib.hid (if_neg fun q => by have := q.1.2.1; omega)
          go_wp2_with fail
          go_ret
          exact ⟨by rw [he.out]; rfl, hL.out⟩
        · have HN := Lib.hid (range_next HG.out (show rangeK v 0 from ⟨by omega, by omega⟩))
          go_wp2_with fail
          go_round
          case rel => exact ⟨1, by omega, by first | rfl | simp, HN⟩
          case measure => simp [intOf]
    · obtain rfl : u4 = .int .i64 1 := hy
      by_cases c0 : v.push < 0
      · have he : Hid (v.err = 8) := Lib.hid (if_neg fun q => by have := q.2.1.1; omega)
        go_wp2_with fail
        go_ret
        exact ⟨by rw [he.out]; rfl, hL.out⟩
      · by_cases c1 : 4294967295 < v.push
        · have he : Hid (v.err = 8) := Lib.hid (if_neg fun q => by have := q.2.1.2.1; omega)
          go_wp2_with fail
          go_ret
          exact ⟨by rw [he.out]; rfl, hL.out⟩
        · have HN := Lib.hid (range_next HG.out (show rangeK v 1 from ⟨by omega, by omega⟩))
          go_wp2_with fail
          go_round
          case rel => exact ⟨2, by omega, by first | rfl | simp, HN⟩
          case measure => simp [intOf]
    · obtain rfl : u4 = .int .i64 2 := hy
      by_cases c0 : v.streams < 0
      · have he : Hid (v.err = 8) := Lib.hid (if_neg fun q => by have := q.2.2.1.1; omega)
        go_wp2_with fail
        go_ret
        exact ⟨by rw [he.out]; rfl, hL.out⟩
      · by_cases c1 : 4294967295 < v.streams
        · have he : Hid (v.err = 8) := Lib.hid (if_neg fun q => by have := q.2.2.1.2.1; omega)
          go_wp2_with fail
          go_ret
          exact ⟨by rw [he.out]; rfl, hL.out⟩
        · have HN := Lib.hid (range_next HG.out (show rangeK v 2 from ⟨by omega, by omega⟩))
          go_wp2_with fail
          go_round
          case rel => exact ⟨3, by omega, by first | rfl | simp, HN⟩
          case measure => simp [intOf]
    · obtain rfl : u4 = .int .i64 3 := hy
      by_cases c0 : v.window < 0
      · have he : Hid (v.err = 8) := Lib.hid (if_neg fun q => by have := q.2.2.2.1.1; omega)
        go_wp2_with fail
        go_ret
        exact ⟨by rw [he.out]; rfl, hL.out⟩
      · by_cases c1 : 4294967295 < v.window
        · have he : Hid (v.err = 8) := Lib.hid (if_neg fun q => by have := q.2.2.2.1.2.1; omega)
          go_wp2_with fail
          go_ret
          exact ⟨by rw [he.out]; rfl, hL.out⟩
        · have HN := Lib.hid (range_next HG.out (show rangeK v 3 from ⟨by omega, by omega⟩))
          go_wp2_with fail
          go_round
          case rel => exact ⟨4, by omega, by first | rfl | simp, HN⟩
          case measure => simp [intOf]
    · obtain rfl : u4 = .int .i64 4 := hy
      by_cases c0 : v.frame < 0
      · have he : Hid (v.err = 8) := Lib.hid (if_neg fun q => by have := q.2.2.2.2.1.1; omega)
        go_wp2_with fail
        go_ret
        exact ⟨by rw [he.out]; rfl, hL.out⟩
      · by_cases c1 : 4294967295 < v.frame
        · have he : Hid (v.err = 8) := Lib.hid (if_neg fun q => by have := q.2.2.2.2.1.2.1; omega)
          go_wp2_with fail
          go_ret
          exact ⟨by rw [he.out]; rfl, hL.out⟩
        · have HN := Lib.hid (range_next HG.out (show rangeK v 4 from ⟨by omega, by omega⟩))
          go_wp2_with fail
          go_round
          case rel => exact ⟨5, by omega, by first | rfl | simp, HN⟩
          case measure => simp [intOf]
    · obtain rfl : u4 = .int .i64 5 := hy
      by_cases c0 : v.list < 0
      · have he : Hid (v.err = 8) := Lib.hid (if_neg fun q => by have := q.2.2.2.2.2.1; omega)
        go_wp2_with fail
        go_ret
        exact ⟨by rw [he.out]; rfl, hL.out⟩
      · by_cases c1 : 4294967295 < v.list
        · have he : Hid (v.err = 8) := Lib.hid (if_neg fun q => by have := q.2.2.2.2.2.2.1; omega)
          go_wp2_with fail
          go_ret
          exact ⟨by rw [he.out]; rfl, hL.out⟩
        · have HN := Lib.hid (range_next HG.out (show rangeK v 5 from ⟨by omega, by omega⟩))
          go_wp2_with fail
          go_round
          case rel => exact ⟨6, by omega, by first | rfl | simp, HN⟩
          case measure => simp [intOf]
    · obtain rfl : u4 = .int .i64 6 := hy
      by_cases c1 : 1 < v.push
      · have he : Hid (v.err = 8) := Lib.hid (if_neg fun q => by have := fault2_iff.1 q.2.1.2.2; omega)
        go_wp2_with fail
        go_ret
        exact ⟨by rw [he.out]; rfl, hL.out⟩
      by_cases c2 : 2147483647 < v.window
      · have he : Hid (v.err = 8) := Lib.hid (if_neg fun q => by have := fault4_iff.1 q.2.2.2.1.2.2; omega)
        go_wp2_with fail
        go_ret
        exact ⟨by rw [he.out]; rfl, hL.out⟩
      by_cases c3 : v.frame < 16384
      · have he : Hid (v.err = 8) := Lib.hid (if_neg fun q => by have := fault5_iff.1 q.2.2.2.2.1.2.2; omega)
        go_wp2_with fail
        go_ret
        exact ⟨by rw [he.out]; rfl, hL.out⟩
      by_cases c4 : 16777215 < v.frame
      · have he : Hid (v.err = 8) := Lib.hid (if_neg fun q => by have := fault5_iff.1 q.2.2.2.2.1.2.2; omega)
        go_wp2_with fail
        go_ret
        exact ⟨by rw [he.out]; rfl, hL.out⟩
      have he : Hid (v.err = 0) := Lib.hid (if_pos (ok_of_range HG.out (by omega) (by omega) (by omega) (by omega)))
      go_wp2_with fail
      go_ret
      exact ⟨by rw [he.out]; rfl, hL.out⟩
end Go.Proofs.Ythjciimodemfpaa
