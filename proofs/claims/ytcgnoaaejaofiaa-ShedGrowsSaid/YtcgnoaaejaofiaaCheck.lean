import Derived.Test.YtcgnoaaejaofiaaSmall
import Derived.Deep.RegionWith
import Derived.Deep.RegionWith
import Derived.BigQuiet
import Derived.Deep.RegionWith
namespace Go.Proofs.Ytcgnoaaejaofiaa
open Go.RowKit

def Bk.ok (b : Bk) : Prop := ((1 ≤ b.burst ∧ b.burst ≤ 1000) ∧ (0 ≤ b.rate ∧ b.rate ≤ 1000) ∧ (1 ≤ b.per ∧ b.per ≤ 1000)) ∧ (0 ≤ b.level ∧ b.level ≤ b.burst * b.per) ∧ (0 ≤ b.now ∧ b.now ≤ 1099511627776)
open Classical in
noncomputable def Bk.err (b : Bk) : Int := if b.ok then 0 else 8
def IntPost (w : World) (n : Int) (e : Ending) (w' : World) : Prop := e = .returned (.int .i64 n) ∧ Below w.heap.size w w'
set_option maxHeartbeats 1600000 in
theorem check_any (b : Bk) (w : World) :
    Calls Try.prog 18 #[.agg #[.int .i64 b.burst, .int .i64 b.rate, .int .i64 b.per, .int .i64 b.level, .int .i64 b.now]] w (IntPost w b.err) := by
  by_cases h1 : 1 ≤ b.burst ∧ b.burst ≤ 1000
  · have i1 := inB_yes h1
    by_cases h2 : 0 ≤ b.rate ∧ b.rate ≤ 1000
    · have i2 := inB_yes h2
      by_cases h3 : 1 ≤ b.per ∧ b.per ≤ 1000
      · have i3 := inB_yes h3
        have HF := Lib.hid (full_any b h1.1 h1.2 h3.1 h3.2)
        by_cases h4 : 0 ≤ b.level ∧ b.level ≤ b.burst * b.per
        · have i4 := inB_yes h4
          by_cases h5 : 0 ≤ b.now ∧ b.now ≤ 1099511627776
          · have i5 := inB_yes h5
            have he : b.err = 0 := if_pos ⟨⟨h1, h2, h3⟩, h4, h5⟩
            rw [he]
            clear h1 h2 h3 h4 h5 he
            go_enter Try.func18, Try.ntmps18
            go_wp2_with (go_at_call 27; refine (in_any _ _ _ _).mono ?_; rintro e w' ⟨rfl, rfl⟩)
            go_region_held3 (fun W => W.cell? ⟨w.heap.size, 0, none⟩ = some (.int .i64 b.burst) ∧ W.cell? ⟨w.heap.size, 1, none⟩ = some (.int .i64 b.rate) ∧ W.cell? ⟨w.heap.size, 2, none⟩ = some (.int .i64 b.per) ∧ W.cell? ⟨w.heap.size, 3, none⟩ = some (.int .i64 b.level) ∧ W.cell? ⟨w.heap.size, 4, none⟩ = some (.int .i64 b.now) ∧ w.heap.size < W.heap.size) (first | exact keep5 hb (by assumption) | go_keep)
              (first
                | (go_at_call 27; refine (in_any _ _ _ _).mono ?_; rintro e w' ⟨rfl, rfl⟩)
                | (go_at_call 26; refine (HF.out _).mono ?_; rintro e w' ⟨rfl, hb⟩))
            go_wp2
            go_ret
            exact ⟨rfl, ((Below.refl _ _).alloc (Nat.le_refl _) _).drew.trans (hb.mono (by simp))⟩
          · have i5 := inB_no h5
            have he : b.err = 8 := if_neg fun h => h5 h.2.2
            rw [he]
            clear h1 h2 h3 h4 h5 he
            go_enter Try.func18, Try.ntmps18
            go_wp2_with (go_at_call 27; refine (in_any _ _ _ _).mono ?_; rintro e w' ⟨rfl, rfl⟩)
            go_region_held3 (fun W => W.cell? ⟨w.heap.size, 0, none⟩ = some (.int .i64 b.burst) ∧ W.cell? ⟨w.heap.size, 1, none⟩ = some (.int .i64 b.rate) ∧ W.cell? ⟨w.heap.size, 2, none⟩ = some (.int .i64 b.per) ∧ W.cell? ⟨w.heap.size, 3, none⟩ = some (.int .i64 b.level) ∧ W.cell? ⟨w.heap.size, 4, none⟩ = some (.int .i64 b.now) ∧ w.heap.size < W.heap.size) (first | exact keep5 hb (by assumption) | go_keep)
              (first
                | (go_at_call 27; refine (in_any _ _ _ _).mono ?_; rintro e w' ⟨rfl, rfl⟩)
                | (go_at_call 26; refine (HF.out _).mono ?_; rintro e w' ⟨rfl, hb⟩))
            go_wp2
            go_ret
            exact ⟨rfl, ((Below.refl _ _).alloc (Nat.le_refl _) _).drew.trans (hb.mono (by simp))⟩
        · have i4 := inB_no h4
          have he : b.err = 8 := if_neg fun h => h4 h.2.1
          rw [he]
          clear h1 h2 h3 h4 he
          go_enter Try.func18, Try.ntmps18
          go_wp2_with (go_at_call 27; refine (in_any _ _ _ _).mono ?_; rintro e w' ⟨rfl, rfl⟩)
          first
          | go_region_with (first
              | (go_at_call 27; refine (in_any _ _ _ _).mono ?_; rintro e w' ⟨rfl, rfl⟩)
              | (go_at_call 26; refine (HF.out _).mono ?_; rintro e w' ⟨rfl, hb⟩; obtain ⟨k0, k1, k2, k3, k4, k5⟩ := keep5 (g := w.heap.size) (a := .int .i64 b.burst) (b := .int .i64 b.rate) (c := .int .i64 b.per) (d := .int .i64 b.level) (e := .int .i64 b.now) hb ⟨by simp, by simp, by simp, by simp, by simp, by simp⟩))
          | fail
          all_goals (go_wp2; go_ret; exact ⟨rfl, ((Below.refl _ _).alloc (Nat.le_refl _) _).drew.trans (hb.mono (by simp))⟩)
      · have i3 := inB_no h3
        have he : b.err = 8 := if_neg fun h => h3 h.1.2.2
        rw [he]
        clear h1 h2 h3 he
        go_enter Try.func18, Try.ntmps18
        go_wp2_with (go_at_call 27; refine (in_any _ _ _ _).mono ?_; rintro e w' ⟨rfl, rfl⟩)
        go_ret
        exact ⟨rfl, (Below.refl _ _).alloc (Nat.le_refl _) _⟩
    · have i2 := inB_no h2
      have he : b.err = 8 := if_neg fun h => h2 h.1.2.1
      rw [he]
      clear h1 h2 he
      go_enter Try.func18, Try.ntmps18
      go_wp2_with (go_at_call 27; refine (in_any _ _ _ _).mono ?_; rintro e w' ⟨rfl, rfl⟩)
      go_ret
      exact ⟨rfl, (Below.refl _ _).alloc (Nat.le_refl _) _⟩
  · have i1 := inB_no h1
    have he : b.err = 8 := if_neg fun h => h1 h.1.1
    rw [he]
    clear h1 he
    go_enter Try.func18, Try.ntmps18
    go_wp2_with (go_at_call 27; refine (in_any _ _ _ _).mono ?_; rintro e w' ⟨rfl, rfl⟩)
    go_ret
    exact ⟨rfl, (Below.refl _ _).alloc (Nat.le_refl _) _⟩
end Go.Proofs.Ytcgnoaaejaofiaa
