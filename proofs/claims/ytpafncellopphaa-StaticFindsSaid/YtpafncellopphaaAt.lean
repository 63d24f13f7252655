import Derived.Test.YtpafncellopphaaTab
namespace Go.Proofs.Ytpafncellopphaa
open Go.RowKit

def nofield : ByteArray × ByteArray := (⟨#[]⟩, ⟨#[]⟩)
/-- The field at a place, and whether there is one. -/
def atT (i : Int) : (ByteArray × ByteArray) × Bool := if 1 ≤ i ∧ i ≤ 61 then (tab.getD (i - 1).toNat nofield, true) else (nofield, false)
def AtPost (w : World) (r : (ByteArray × ByteArray) × Bool) (e : Ending) (w' : World) : Prop :=
  e = .returned (.tuple #[.agg #[.string r.1.1, .string r.1.2, .bool false], .bool r.2]) ∧ Below w.heap.size w w'
theorem at_in {n : Nat} (h : n < 61) : atT ((n : Int) + 1) = (tab.getD n nofield, true) := by
  unfold atT
  rw [if_pos (by omega), show ((n : Int) + 1 - 1).toNat = n by omega]
theorem at_out {i : Int} (h : ¬ (1 ≤ i ∧ i ≤ 61)) : atT i = (nofield, false) := if_neg h
set_option maxRecDepth 100000 in
theorem index_tab (n : Nat) (hn : n < 61) (w : World) : (Instr.index 35 (.agg tabArr) (.int .i64 (n : Int))).run Try.prog w = .ok (.agg #[.string (tab.getD n nofield).1, .string (tab.getD n nofield).2, .bool false]) w := by
  have h : n = 0 ∨ n = 1 ∨ n = 2 ∨ n = 3 ∨ n = 4 ∨ n = 5 ∨ n = 6 ∨ n = 7 ∨ n = 8 ∨ n = 9 ∨ n = 10 ∨ n = 11 ∨ n = 12 ∨ n = 13 ∨ n = 14 ∨ n = 15 ∨ n = 16 ∨ n = 17 ∨ n = 18 ∨ n = 19 ∨ n = 20 ∨ n = 21 ∨ n = 22 ∨ n = 23 ∨ n = 24 ∨ n = 25 ∨ n = 26 ∨ n = 27 ∨ n = 28 ∨ n = 29 ∨ n = 30 ∨ n = 31 ∨ n = 32 ∨ n = 33 ∨ n = 34 ∨ n = 35 ∨ n = 36 ∨ n = 37 ∨ n = 38 ∨ n = 39 ∨ n = 40 ∨ n = 41 ∨ n = 42 ∨ n = 43 ∨ n = 44 ∨ n = 45 ∨ n = 46 ∨ n = 47 ∨ n = 48 ∨ n = 49 ∨ n = 50 ∨ n = 51 ∨ n = 52 ∨ n = 53 ∨ n = 54 ∨ n = 55 ∨ n = 56 ∨ n = 57 ∨ n = 58 ∨ n = 59 ∨ n = 60 := by omega
  rcases h with rfl | rfl | rfl | rfl | rfl | rfl | rfl | rfl | rfl | rfl | rfl | rfl | rfl | rfl | rfl | rfl | rfl | rfl | rfl | rfl | rfl | rfl | rfl | rfl | rfl | rfl | rfl | rfl | rfl | rfl | rfl | rfl | rfl | rfl | rfl | rfl | rfl | rfl | rfl | rfl | rfl | rfl | rfl | rfl | rfl | rfl | rfl | rfl | rfl | rfl | rfl | rfl | rfl | rfl | rfl | rfl | rfl | rfl | rfl | rfl | rfl
  all_goals (show _ = _; kernel_rfl)
set_option maxRecDepth 100000 in
set_option maxHeartbeats 3200000 in
theorem at_any (i : Int) (w : World) : Calls Try.prog 7 #[.int .i64 i] w (AtPost w (atT i)) := by
  by_cases h : 1 ≤ i ∧ i ≤ 61
  · obtain ⟨n, rfl⟩ : ∃ n : Nat, i = (n : Int) + 1 := ⟨(i - 1).toNat, by omega⟩
    have hn : n < 61 := by omega
    rw [at_in hn]
    have hix := index_tab n hn
    generalize tab.getD n nofield = x at hix ⊢
    have HF := Lib.hid fields_any
    have h1 : ¬ (n : Int) + 1 < 1 := by omega
    have h2 : ¬ (61 : Int) < (n : Int) + 1 := by omega
    have hA0 := Lib.hid (Blk.new w 23 #[.string ⟨#[]⟩, .string ⟨#[]⟩, .bool false])
    go_enter Try.func7, Try.ntmps7
    go_wp2_with fail
    refine (HF.out _).mono ?_
    rintro e w1 ⟨rfl, hb1⟩
    obtain ⟨cA, fA⟩ := (hA0.out.lo hb1).facts
    have hL := Lib.hid (lo_trans (lo_alloc (lo_refl w) _) hb1)
    clear hb1
    go_wp2_with fail
    refine bodyPost_ret (v := .tuple #[.agg #[.string x.1, .string x.2, .bool false], .bool true]) (by simp [results, Try.results7, go_sem, cA]) rfl ⟨rfl, ?_⟩
    have hl := hL.out
    repeat' (first | with_reducible exact hl | with_reducible apply lo_set | simp)
  · rw [at_out h]
    have h1 : i < 1 ∨ (¬ i < 1 ∧ 61 < i) := by omega
    rcases h1 with h1 | ⟨h1, h2⟩
    all_goals
      go_enter Try.func7, Try.ntmps7
      go_wp2_with fail
      refine bodyPost_ret (v := .tuple #[.agg #[.string ⟨#[]⟩, .string ⟨#[]⟩, .bool false], .bool false]) (by simp [results, Try.results7, go_sem]) rfl ⟨rfl, ?_⟩
      repeat' (first | with_reducible exact lo_refl _ | with_reducible apply lo_set | with_reducible apply lo_alloc | simp)
end Go.Proofs.Ytpafncellopphaa
