import Derived.Test.YtcgnoaaejaofiaaPlain
import Derived.Deep.DrawnRows
import Derived.Deep.DeepFit
import Derived.Deep.RegionHeld3
import Derived.Deep.RegionWith
import Derived.Deep.QuietTactic
import Derived.BigQuiet
import Derived.WalkSmall
namespace Go.Proofs.Ytcgnoaaejaofiaa
open Go.RowKit
attribute [local go_sem ↓] Go.wp_at_zero Go.wp_at_succ

def BoolPost (w : World) (b : Bool) (e : Ending) (w' : World) : Prop := e = .returned (.bool b) ∧ Below w.heap.size w w'
set_option maxHeartbeats 1600000 in
theorem fits_any (x : Lk) (hcap : x.cap ≤ 9223372036854775807) (w : World) :
    Calls Try.prog 9 #[.agg #[.int .i64 x.opn, .int .i64 x.told, .int .i64 x.agreed, .bool x.away, .int .i64 x.cost, .int .i64 x.backlog, .int .i64 x.cap, .int .i64 x.tick, .int .i64 x.second]] w (BoolPost w x.fits) := by
  unfold BoolPost
  by_cases c1 : 0 < x.cost
  · by_cases c2 : 0 ≤ x.backlog
    · by_cases c3 : x.backlog ≤ x.cap
      · unfold Lk.fits
        by_cases c4 : x.cost ≤ x.cap - x.backlog
        all_goals
          go_enter Try.func9, Try.ntmps9
          go_wp2_with fail
          go_ret
          exact ⟨by simp [c1, c2, c3, c4], lo_alloc (lo_refl w) _⟩
      · have e : x.fits = false := decide_eq_false (by omega)
        rw [e]
        go_enter Try.func9, Try.ntmps9
        go_wp2_with fail
        go_ret
        exact ⟨rfl, lo_alloc (lo_refl w) _⟩
    · have e : x.fits = false := decide_eq_false (by omega)
      rw [e]
      go_enter Try.func9, Try.ntmps9
      go_wp2_with fail
      go_ret
      exact ⟨rfl, lo_alloc (lo_refl w) _⟩
  · have e : x.fits = false := decide_eq_false (by omega)
    rw [e]
    go_enter Try.func9, Try.ntmps9
    go_wp2_with fail
    go_ret
    exact ⟨rfl, lo_alloc (lo_refl w) _⟩
theorem status_any (f : Int) (w : World) : Calls Try.prog 11 #[.int .i64 f] w fun e w' => e = .returned (.int .i64 (statusB f)) ∧ w = w' := by
  have h : f = 2 ∨ f = 3 ∨ (¬ f = 2 ∧ ¬ f = 3) := by omega
  rcases h with rfl | rfl | ⟨h1, h2⟩
  · go_enter Try.func11, Try.ntmps11
    go_wp2_with fail
    go_ret
    exact ⟨rfl, rfl⟩
  · go_enter Try.func11, Try.ntmps11
    go_wp2_with fail
    go_ret
    exact ⟨rfl, rfl⟩
  · have e : statusB f = 0 := by unfold statusB; rw [if_neg h1, if_neg h2]
    rw [e]
    go_enter Try.func11, Try.ntmps11
    go_wp2_with fail
    go_ret
    exact ⟨rfl, rfl⟩
theorem code_any (f : Int) (w : World) : Calls Try.prog 13 #[.int .i64 f] w fun e w' => e = .returned (.int .u32 (codeB f)) ∧ w = w' := by
  have h : f = 1 ∨ f = 4 ∨ (¬ f = 1 ∧ ¬ f = 4) := by omega
  rcases h with rfl | rfl | ⟨h1, h2⟩
  · go_enter Try.func13, Try.ntmps13
    go_wp2_with fail
    go_ret
    exact ⟨rfl, rfl⟩
  · go_enter Try.func13, Try.ntmps13
    go_wp2_with fail
    go_ret
    exact ⟨rfl, rfl⟩
  · have e : codeB f = 0 := by unfold codeB; rw [if_neg h1, if_neg h2]
    rw [e]
    go_enter Try.func13, Try.ntmps13
    go_wp2_with fail
    go_ret
    exact ⟨rfl, rfl⟩
theorem secs_any (n s : Int) (h : n ≤ 1099511627776) (h' : -1 ≤ n) (w : World) : Calls Try.prog 21 #[.int .i64 n, .int .i64 s] w fun e w' => e = .returned (.int .i64 (secs n s)) ∧ w = w' := by
  unfold secs
  by_cases c : n < 1
  · rw [if_pos c]
    go_enter Try.func21, Try.ntmps21
    go_wp2_with fail
    go_ret
    exact ⟨rfl, rfl⟩
  · rw [if_neg c]
    by_cases hs : s < 1
    · have e : max s 1 = 1 := by omega
      rw [e]
      have e2 : (n - 1) / 1 + 1 = n := by omega
      rw [e2]
      have k1 : IntKind.i64.wrap n = n := IntWalk.i64_in _ (by omega)
      go_enter Try.func21, Try.ntmps21
      go_wp2_with fail
      go_ret
      exact ⟨by go_num, rfl⟩
    · have e : max s 1 = s := by omega
      rw [e]
      have hd0 : 0 ≤ (n - 1) / s := Int.ediv_nonneg (by omega) (by omega)
      have hd1 : (n - 1) / s ≤ n - 1 := Int.ediv_le_self _ (by omega)
      go_enter Try.func21, Try.ntmps21
      go_wp2_with fail
      go_ret
      exact ⟨by go_num, rfl⟩
set_option maxHeartbeats 1600000 in
theorem ahead_any (x : Lk) (hcap : x.cap ≤ 9223372036854775807) (w : World) :
    Calls Try.prog 19 #[.agg #[.int .i64 x.opn, .int .i64 x.told, .int .i64 x.agreed, .bool x.away, .int .i64 x.cost, .int .i64 x.backlog, .int .i64 x.cap, .int .i64 x.tick, .int .i64 x.second]] w fun e w' => e = .returned (.int .i64 x.ahead) ∧ Below w.heap.size w w' := by
  have hA := Blk.new w 29 #[.int .i64 x.opn, .int .i64 x.told, .int .i64 x.agreed, .bool x.away, .int .i64 x.cost, .int .i64 x.backlog, .int .i64 x.cap, .int .i64 x.tick, .int .i64 x.second]
  obtain ⟨cA, fA⟩ := hA.facts
  have HF := Lib.hid (fits_any x hcap)
  rcases ahead_cases x with ⟨h, h1⟩ | ⟨h, h1, h2⟩ | ⟨h, h1, h2, h3, h4⟩ | ⟨h, h1, h2, h3, h4⟩
  · rw [h]
    clear h
    go_enter Try.func19, Try.ntmps19
    go_wp2_with fail
    go_ret
    exact ⟨rfl, lo_alloc (lo_refl w) _⟩
  · rw [h]
    clear h
    cases ha : x.away
    · have h3 : x.told ≤ x.opn := by rcases h2 with h2 | h2; rw [ha] at h2; cases h2; exact h2
      clear h2
      rw [ha] at cA
      go_enter Try.func19, Try.ntmps19
      go_wp2_with fail
      go_ret
      exact ⟨rfl, lo_alloc (lo_refl w) _⟩
    · clear h2
      rw [ha] at cA
      go_enter Try.func19, Try.ntmps19
      go_wp2_with fail
      go_ret
      exact ⟨rfl, lo_alloc (lo_refl w) _⟩
  all_goals
    rw [h]
    rw [h4] at HF
    rw [h2] at cA hA HF ⊢
    clear h
    go_enter Try.func19, Try.ntmps19
    go_wp2_with fail
    refine (HF.out _).mono ?_
    rintro e w1 ⟨rfl, hb1⟩
    have hL := Lib.hid (lo_trans (lo_alloc (lo_refl w) _) hb1)
    clear hb1
    go_wp2_with fail
    go_ret
    exact ⟨rfl, hL.out⟩
end Go.Proofs.Ytcgnoaaejaofiaa
