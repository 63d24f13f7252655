import Derived.Test.YtpafncellopphaaAt
import Derived.Deep.DrawnRows
import Derived.Deep.DeepCutAuto
import Derived.WalkSmall
import Derived.Lib.Strings
namespace Go.Proofs.Ytpafncellopphaa
open Go.RowKit
attribute [local go_sem ↓] Go.wp_at_zero Go.wp_at_succ

/-- Where a field stands from a place on: 'k' fields are behind, 'named' is the first place of its name among them. -/
noncomputable def findL (n v : ByteArray) : List (ByteArray × ByteArray) → Nat → Nat → Nat × Bool
  | [], _, named => (named, false)
  | x :: t, k, named =>
    if x.1 = n then
      if x.2 = v then (k + 1, true) else findL n v t (k + 1) (if named = 0 then k + 1 else named)
    else findL n v t (k + 1) named
noncomputable def findT (n v : ByteArray) : Nat × Bool := findL n v tab 0 0
theorem str_eq (a b : ByteArray) : (a.toList == b.toList) = decide (a = b) := by
  rw [Lib.toList_data, Lib.toList_data]
  obtain ⟨⟨a⟩⟩ := a
  obtain ⟨⟨b⟩⟩ := b
  by_cases h : a = b
  · subst h
    simp
  · rw [beq_eq_false_iff_ne.2 h, decide_eq_false]
    intro h'
    exact h (by simpa using h')
theorem str_ne {a b : ByteArray} (h : ¬ a = b) : (a.toList == b.toList) = false := by rw [str_eq]; exact decide_eq_false h
def FindPost (w : World) (r : Nat × Bool) (e : Ending) (w' : World) : Prop := e = .returned (.tuple #[.int .i64 r.1, .bool r.2]) ∧ Below w.heap.size w w'
set_option maxRecDepth 100000 in
set_option maxHeartbeats 3200000 in
theorem find_any (n v : ByteArray) (w : World) : Calls Try.prog 12 #[.string n, .string v] w (FindPost w (findT n v)) := by
  have HF := Lib.hid fields_any
  go_enter Try.func12, Try.ntmps12
  go_wp2_with fail
  refine (HF.out _).mono ?_
  rintro e w1 ⟨rfl, hb1⟩
  go_wp2_with fail
  go_loopw [6, 10] (fun x y wr => ∃ (k nm : Nat), k ≤ 61 ∧ nm ≤ k ∧ x = .int .i64 nm ∧ y = .int .i64 k ∧ Hid (findT n v = findL n v (tab.drop k) k nm) ∧ Below w.heap.size w wr) (fun _ y _ => 61 - (intOf y).toNat)
  case atStart => exact ⟨0, 0, by omega, by omega, rfl, rfl, Lib.hid rfl, hb1⟩
  case round =>
    obtain ⟨k, nm, hk, hnm, rfl, rfl, hf, hbel⟩ := hrel
    by_cases hkl : k < 61
    · have hkl' : (k : Int) < 61 := by omega
      have hix := index_tab k hkl
      have hd : tab.drop k = tab.getD k nofield :: tab.drop (k + 1) := by
        rw [List.drop_eq_getElem_cons (by rw [tab_len]; exact hkl), show tab.getD k nofield = tab[k]'(by rw [tab_len]; exact hkl) by simp [List.getD, List.getElem?_eq_getElem (show k < tab.length by rw [tab_len]; exact hkl)]]
      have hf2 := hf.out
      rw [hd, findL] at hf2
      generalize tab.getD k nofield = x at hix hf2
      obtain ⟨xn, xv⟩ := x
      simp only at hf2
      by_cases h1 : xn = n
      · subst h1
        rw [if_pos rfl] at hf2
        by_cases h2 : xv = v
        · subst h2
          rw [if_pos rfl] at hf2
          rw [hf2]
          have hL := Lib.hid hbel
          clear hf hf2 hd hbel hb1
          go_wp2_with fail
          go_ret2
          exact ⟨by simp, lo_alloc hL.out _⟩
        · rw [if_neg h2] at hf2
          have s2 := str_ne h2
          have hL := Lib.hid (lo_alloc hbel (.cells #[.string xn, .string xv, .bool false] 23))
          have Hf2 := Lib.hid hf2
          clear hf hf2 hd hbel hb1
          by_cases h3 : nm = 0
          · subst h3
            go_wp2_with fail
            go_roundw
            case rel => exact ⟨k + 1, k + 1, by omega, by omega, by go_num, by go_num, Lib.hid (by have := Hf2.out; rwa [if_pos rfl] at this), hL.out⟩
            case measure => simp [intOf]; omega
          · have h3' : ¬ (nm : Int) = 0 := by omega
            go_wp2_with fail
            go_roundw
            case rel => exact ⟨k + 1, nm, by omega, by omega, by go_num, by go_num, Lib.hid (by have := Hf2.out; rwa [if_neg h3] at this), hL.out⟩
            case measure => simp [intOf]; omega
      · rw [if_neg h1] at hf2
        have s1 := str_ne h1
        have hL := Lib.hid (lo_alloc hbel (.cells #[.string xn, .string xv, .bool false] 23))
        have Hf2 := Lib.hid hf2
        clear hf hf2 hd hbel hb1
        go_wp2_with fail
        go_roundw
        case rel => exact ⟨k + 1, nm, by omega, by omega, by go_num, by go_num, Hf2, hL.out⟩
        case measure => simp [intOf]; omega
    · have hkl' : ¬ (k : Int) < 61 := by omega
      have hf2 := hf.out
      rw [List.drop_eq_nil_of_le (by rw [tab_len]; omega), findL] at hf2
      have Hf2 := Lib.hid hf2
      have hL := Lib.hid hbel
      clear hf hf2 hbel hb1
      go_wp2_with fail
      go_ret2
      exact ⟨by rw [Hf2.out]; rfl, hL.out⟩
end Go.Proofs.Ytpafncellopphaa
