import Derived.Test.YtbjfdmgfmdccgaaKit
import Derived.WalkSpells
import Derived.Deep.DeepFit
import Derived.WalkLawsBesides
import Derived.Deep.DeepFit
import Derived.Deep.RegionHeld3
import Derived.WalkSmall
import Derived.Deep.RegionWith
import Derived.Deep.QuietTactic
import Derived.BigQuiet
import Derived.Deep.DrawnRows
import Derived.Deep.DeepCutAuto
namespace Go.Proofs.Ytbjfdmgfmdccgaa
open Go.RowKit
attribute [local go_sem ↓] Go.wp_at_zero Go.wp_at_succ

theorem nan_any (a : Int) (w : World) : Calls Try.prog 19 #[.int .i64 a] w fun e w' => e = .returned (.bool false) ∧ w = w' := by
  go_enter Try.func19, Try.ntmps19
  go_wp2_with fail
  go_ret
  exact ⟨by simp, rfl⟩
theorem less_any (a b : Int) (w : World) : Calls Try.prog 21 #[.int .i64 a, .int .i64 b] w fun e w' => e = .returned (.bool (decide (a < b))) ∧ w = w' := by
  go_enter Try.func21, Try.ntmps21
  go_wp2_with (go_at_call 19; refine (nan_any _ _).mono ?_; rintro e w' ⟨rfl, rfl⟩)
  go_ret
  exact ⟨by simp, rfl⟩
/-- Of two numbers. -/
def cmpL (a b : Int) : Int := if a < b then -1 else if b < a then 1 else 0
theorem cmp_any (a b : Int) (w : World) : Calls Try.prog 15 #[.int .i64 a, .int .i64 b] w fun e w' => e = .returned (.int .i64 (cmpL a b)) ∧ w = w' := by
  unfold cmpL
  by_cases h1 : a < b
  · go_enter Try.func15, Try.ntmps15
    go_wp2_with (go_at_call 19; refine (nan_any _ _).mono ?_; rintro e w' ⟨rfl, rfl⟩)
    go_ret
    exact ⟨by simp, rfl⟩
  · by_cases h2 : b < a
    · go_enter Try.func15, Try.ntmps15
      go_wp2_with (go_at_call 19; refine (nan_any _ _).mono ?_; rintro e w' ⟨rfl, rfl⟩)
      go_ret
      exact ⟨by simp, rfl⟩
    · go_enter Try.func15, Try.ntmps15
      go_wp2_with (go_at_call 19; refine (nan_any _ _).mono ?_; rintro e w' ⟨rfl, rfl⟩)
      go_ret
      exact ⟨by simp, rfl⟩
def Rises (xs : List Int) : Prop := ∀ (j : Nat) (x y : Int), xs[j]? = some x → xs[j + 1]? = some y → x ≤ y
def RisePost (w : World) (xs : List Int) (e : Ending) (w' : World) : Prop := ∃ b : Bool, e = .returned (.bool b) ∧ (b = true ↔ Rises xs) ∧ Below w.heap.size w w'
set_option maxRecDepth 100000 in
set_option maxHeartbeats 1600000 in
theorem sorted_any (g n : Nat) (xs : List Int) (w : World) (hn : xs.length = n) (hn1 : 1 ≤ n) (hn2 : n ≤ 1000)
    (hc : ∀ (j : Nat) (x : Int), xs[j]? = some x → w.cell? ⟨g, j, none⟩ = some (.int .i64 x)) (hg : g < w.heap.size) :
    Calls Try.prog 18 #[.slice (some ⟨g, 0, none⟩) n n] w (RisePost w xs) := by
  have HC := Lib.hid hc
  clear hc
  go_enter Try.func18, Try.ntmps18
  go_wp2_with fail
  go_loopw [3] (fun y wr => ∃ (k : Nat), k < n ∧ y = .int .i64 k ∧ Hid (∀ (j : Nat) (x z : Int), k ≤ j → xs[j]? = some x → xs[j + 1]? = some z → x ≤ z) ∧ Below w.heap.size w wr) (fun y _ => (intOf y).toNat)
  case atStart => exact ⟨n - 1, by omega, by congr 1; omega, Lib.hid (fun j x z hj _ hz => by have := (List.getElem?_eq_some_iff.1 hz).1; omega), lo_refl w⟩
  case round =>
    obtain ⟨k, hk, rfl, hup, hbel⟩ := hrel
    by_cases hk0 : 0 < k
    · obtain ⟨k, rfl⟩ : ∃ k', k = k' + 1 := ⟨k - 1, by omega⟩
      have hk0' : (0 : Int) < ((k + 1 : Nat) : Int) := by omega
      have hkn : (k : Int) + 1 < (n : Int) := by omega
      have hkn0 : (k : Int) < (n : Int) := by omega
      have hkp : (0 : Int) ≤ (k : Int) + 1 := by omega
      have hkt : ((k : Int) + 1).toNat = k + 1 := by omega
      have hkw : IntKind.i64.wrap (k : Int) = (k : Int) := IntWalk.i64_in _ (by omega)
      have hx := HC.out k xs[k] (List.getElem?_eq_getElem (by omega))
      have hy := HC.out (k + 1) xs[k + 1] (List.getElem?_eq_getElem (by omega))
      have hx := (hbel.cell (p := ⟨g, k, none⟩) hg).trans hx
      have hy := (hbel.cell (p := ⟨g, k + 1, none⟩) hg).trans hy
      have ex : xs[k]? = some xs[k] := List.getElem?_eq_getElem (by omega)
      have ey : xs[k + 1]? = some xs[k + 1] := List.getElem?_eq_getElem (by omega)
      generalize xs[k] = x at hx ex
      generalize xs[k + 1] = y at hy ey
      have Ex := Lib.hid ex
      have Ey := Lib.hid ey
      clear ex ey
      go_upto_region 4 with fail
      go_quiet (first | (go_at_call 21; exact Calls.quiet_of_same ((less_any _ _ _).mono fun _ _ h => ⟨h.1, h.2.symm⟩)))
      have hbel := lo_drewN hbel nq
      have Hbel := Lib.hid hbel
      clear hbel hx hy
      by_cases hlt : y < x
      · go_wp2_with fail
        go_ret
        exact ⟨false, rfl, ⟨fun h => (nomatch h), fun h => absurd (h k x y Ex.out Ey.out) (by omega)⟩, Hbel.out⟩
      · have hle : x ≤ y := by omega
        have Hup : Hid (∀ (j : Nat) (x z : Int), k ≤ j → xs[j]? = some x → xs[j + 1]? = some z → x ≤ z) := Lib.hid (fun j a z hj ha hz => by
          rcases Nat.lt_or_eq_of_le hj with h | h
          · exact hup.out j a z h ha hz
          · subst h
            rw [Ex.out] at ha
            rw [Ey.out] at hz
            cases ha
            cases hz
            exact hle)
        clear hup
        go_wp2_with fail
        go_roundw
        case rel => exact ⟨k, by omega, by go_num, Hup, Hbel.out⟩
        case measure => simp [intOf]
    · obtain rfl : k = 0 := by omega
      have Hbel := Lib.hid hbel
      have Hup := Lib.hid hup.out
      clear hbel hup
      go_wp2_with fail
      go_ret
      exact ⟨true, rfl, ⟨fun _ => fun j x y hx hy => Hup.out j x y (Nat.zero_le _) hx hy, fun _ => rfl⟩, Hbel.out⟩
theorem rising_any (g n : Nat) (xs : List Int) (w : World) (hn : xs.length = n) (hn1 : 1 ≤ n) (hn2 : n ≤ 1000)
    (hc : ∀ (j : Nat) (x : Int), xs[j]? = some x → w.cell? ⟨g, j, none⟩ = some (.int .i64 x)) (hg : g < w.heap.size) :
    Calls Try.prog 14 #[.slice (some ⟨g, 0, none⟩) n n] w (RisePost w xs) := by
  have H := Lib.hid (sorted_any g n xs w hn hn1 hn2 hc hg)
  clear hc
  go_enter Try.func14, Try.ntmps14
  go_wp2_with fail
  refine H.out.mono ?_
  rintro e w' ⟨b, rfl, hb, hbel⟩
  have Hb := Lib.hid hb
  have Hbel := Lib.hid hbel
  clear hb hbel
  go_wp2_with fail
  go_ret
  exact ⟨b, rfl, Hb.out, Hbel.out⟩
/-- Does a number lie between two others? -/
theorem in_any (n a b : Int) (w : World) : Calls Try.prog 17 #[.int .i64 n, .int .i64 a, .int .i64 b] w fun e w' => e = .returned (.bool (decide (a ≤ n ∧ n ≤ b))) ∧ w = w' := by
  by_cases h1 : a ≤ n
  · go_enter Try.func17, Try.ntmps17
    go_wp2_with fail
    go_ret
    exact ⟨by simp [h1], rfl⟩
  · go_enter Try.func17, Try.ntmps17
    go_wp2_with fail
    go_ret
    exact ⟨by simp; omega, rfl⟩
end Go.Proofs.Ytbjfdmgfmdccgaa
