import Derived.Test.YthjciimodemfpaaSmall
namespace Go.Proofs.Ythjciimodemfpaa
open Go.RowKit
attribute [local go_sem ↓] Go.wp_at_zero Go.wp_at_succ
abbrev Prs (w : World) (A : Option Addr) (len cap : Nat) (l : List (Int × Int)) : Prop :=
  AggRow 2 (fun x : Int × Int => [Value.int .u16 x.1, Value.int .u32 x.2]) (fun x : Int × Int => (Lit.int .u16 x.1).wf = true ∧ (Lit.int .u32 x.2).wf = true) w A len cap l
theorem take_same {xs ys : List (Int × Int)} {k : Nat} (h : xs.take k = ys.take k) (hx : k < xs.length) (hy : k < ys.length) (he : xs[k] = ys[k]) : xs.take (k + 1) = ys.take (k + 1) := by
  rw [← List.take_append_getElem hx, ← List.take_append_getElem hy, h, he]
set_option maxRecDepth 100000 in
set_option maxHeartbeats 1600000 in
theorem same_any (A : Option Addr) (len cap : Nat) (xs : List (Int × Int)) (A' : Option Addr) (len' cap' : Nat) (ys : List (Int × Int)) (w : World) (hx : Prs w A len cap xs) (hy : Prs w A' len' cap' ys) :
    Calls Try.prog 14 #[.slice A len cap, .slice A' len' cap'] w fun e w' => e = .returned (.bool (decide (xs = ys))) ∧ Below w.heap.size w w' := by
  have HX := Lib.hid hx
  have HY := Lib.hid hy
  have lx := hx.1
  have ly := hy.1
  have lm : len ≤ 9223372036854775807 := by have h : len ≤ maxLen := Nat.le_trans hx.2.1 hx.2.2.1; unfold maxLen at h; omega
  clear hx hy
  by_cases hl : len = len'
  · subst hl
    go_enter Try.func14, Try.ntmps14
    go_wp2_with fail
    go_loopw [5] (fun y wr => ∃ k : Nat, k ≤ len ∧ y = .int .i64 k ∧ Hid (xs.take k = ys.take k) ∧ Below w.heap.size w wr) (fun y _ => len - (intOf y).toNat)
    case atStart => exact ⟨0, by omega, rfl, Lib.hid rfl, lo_refl w⟩
    case round =>
      obtain ⟨k, hk, rfl, HT, hbel⟩ := hrel
      by_cases hkl : k < len
      · obtain ⟨b, off, rfl, hlt, hc⟩ := (agg_lo HX.out hbel).2.2.2.2.1 k xs[k] (List.getElem?_eq_getElem (by omega))
        obtain ⟨b', off', rfl, hlt', hc'⟩ := (agg_lo HY.out hbel).2.2.2.2.1 k ys[k] (List.getElem?_eq_getElem (by omega))
        have hs : xs[k] = ys[k] → _ := fun he => take_same HT.out (by omega) (by omega) he
        have hn : xs[k] ≠ ys[k] → ¬ xs = ys := fun hne he => hne (by subst he; rfl)
        generalize xs[k] = x at hc hs hn
        generalize ys[k] = y at hc' hs hn
        obtain ⟨x1, x2⟩ := x
        obtain ⟨y1, y2⟩ := y
        have hc0 := hc 0 _ rfl
        have hc1 := hc 1 _ rfl
        have hc0' := hc' 0 _ rfl
        have hc1' := hc' 1 _ rfl
        simp only [Nat.add_zero] at hc0 hc1 hc0' hc1'
        have hkl' : (k : Int) < (len : Int) := by omega
        have HB := Lib.hid hbel
        have HS := Lib.hid hs
        have HN := Lib.hid hn
        clear hc hc' hs hn hbel
        by_cases e1 : x1 = y1
        · subst e1
          by_cases e2 : x2 = y2
          · subst e2
            go_wp2_with go_quiet (fail)
            go_roundw
            case rel => exact ⟨k + 1, by omega, by go_num, Lib.hid (HS.out rfl), lo_drewN HB.out _⟩
            case measure => simp [intOf]; omega
          · go_wp2_with go_quiet (fail)
            go_ret
            exact ⟨by rw [decide_eq_false (HN.out (by simp [e2]))]; rfl, lo_drewN HB.out _⟩
        · go_wp2_with go_quiet (fail)
          go_ret
          exact ⟨by rw [decide_eq_false (HN.out (by simp [e1]))]; rfl, lo_drewN HB.out _⟩
      · have hkl' : ¬ (k : Int) < (len : Int) := by omega
        have hke : k = len := by omega
        have hE : xs = ys := by
          have := HT.out
          rw [List.take_of_length_le (by omega), List.take_of_length_le (by omega)] at this
          exact this
        have HE := Lib.hid hE
        clear hE
        go_wp2_with fail
        go_ret
        exact ⟨by rw [decide_eq_true HE.out]; rfl, hbel⟩
  · have hl' : ¬ (len : Int) = (len' : Int) := by omega
    go_enter Try.func14, Try.ntmps14
    go_wp2_with fail
    go_ret
    exact ⟨by rw [decide_eq_false (fun he => hl (by rw [← lx, ← ly, he]))]; rfl, lo_refl w⟩
end Go.Proofs.Ythjciimodemfpaa
