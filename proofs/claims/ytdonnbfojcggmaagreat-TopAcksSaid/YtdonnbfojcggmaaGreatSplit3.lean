import Derived.Test.YtdonnbfojcggmaaGreatSplit2
namespace Go.Proofs.YtdonnbfojcggmaaGreat
open Go.RowKit
attribute [local go_sem ↓] Go.wp_at_zero Go.wp_at_succ

theorem kept_lo {w w1 w3 : World} {g : Nat} (h : Below w.heap.size w w1) (hk : Kept w1 w3 g) (hg : w.heap.size ≤ g) : Below w.heap.size w w3 :=
  ⟨hk.os.trans h.os, hk.tape.trans h.tape, hk.output.trans h.output, Nat.le_trans h.size hk.size, fun k hk' => (hk.block k (Nat.lt_of_lt_of_le hk' h.size) (by omega)).trans (h.block k hk')⟩
theorem conv_bytes (w : World) (b off cap : Nat) (fl : Int) (s : ByteArray) (hs : strOfNums [0, 0, 0, 4, fl, 0, 0, 0, 0] = s) (h : ∀ i, i < 9 → w.cell? ⟨b, off + i, none⟩ = some (.int .u8 (([0, 0, 0, 4, fl, 0, 0, 0, 0] : List Int).getD i 0))) : (convert 53 9 (.slice (some ⟨b, off, none⟩) 9 cap)).run Tryz.prog w = .ok (.string s) w := by
  rw [← hs]
  exact run_convert_bytes_arg (P := Tryz.prog) w 53 5 Tryz.underlying53 Tryz.underlying5 b off 9 cap [0, 0, 0, 4, fl, 0, 0, 0, 0] rfl h 9 Tryz.underlying9
/-- One frame came: its head's flags. -/
def FeedPost (w : World) (fl : Int) (e : Ending) (w' : World) : Prop := ∃ A c, e = .returned (.tuple #[.agg #[.int .i64 24, .string ⟨#[]⟩, .bool false], .slice A 1 c, .int .u32 0]) ∧ w'.ownsRow w.heap.size 99 5 (.slice A 1 c) 1 [.int .i64 0, .int .u8 4, .int .u8 fl, .int .i64 0, .string ⟨#[]⟩] ∧ Below w.heap.size w w'
set_option maxRecDepth 100000 in
set_option maxHeartbeats 1600000 in
theorem feed_0 (b off cap : Nat) (w : World) (hlt : b < w.heap.size) (hcap : 33 ≤ cap) (hc : ∀ j, j < 33 → w.cell? ⟨b, off + j, none⟩ = some (.int .u8 (([80, 82, 73, 32, 42, 32, 72, 84, 84, 80, 47, 50, 46, 48, 13, 10, 13, 10, 83, 77, 13, 10, 13, 10, 0, 0, 0, 4, 0, 0, 0, 0, 0] : List Int).getD j 0))) : Calls Tryz.prog 25 #[.agg #[.int .i64 0, .string ⟨#[]⟩, .bool false], .slice (some ⟨b, off, none⟩) 33 cap] w (FeedPost w 0) := by
  have H1 : Hid (∀ w0, Calls Tryz.prog 48 #[.agg #[.int .i64 0, .string ⟨#[]⟩, .bool false]] w0 (IntPost w0 0)) := Lib.hid fun w0 => scheck_0 w0
  have H2 : Hid (∀ W, Blk W w.heap.size 25 #[.int .i64 0, .string ⟨#[]⟩, .bool false] → Below w.heap.size w W → Calls Tryz.prog 49 #[.pointer (some ⟨w.heap.size, 0, none⟩), .slice (some ⟨b, off, none⟩) 33 cap] W (GreetPost W w.heap.size (.slice (some ⟨b, off + 24, none⟩) 9 (cap - 24)))) := Lib.hid (fun W hA hb => greet_0 w.heap.size b off cap W hA hcap (Nat.lt_of_lt_of_le hlt hb.size) fun j hj => by
    rw [(lo_cell hb).1 b _ hlt, hc j (by omega)]
    rcases (by omega : j = 0 ∨ j = 1 ∨ j = 2 ∨ j = 3 ∨ j = 4 ∨ j = 5 ∨ j = 6 ∨ j = 7 ∨ j = 8 ∨ j = 9 ∨ j = 10 ∨ j = 11 ∨ j = 12 ∨ j = 13 ∨ j = 14 ∨ j = 15 ∨ j = 16 ∨ j = 17 ∨ j = 18 ∨ j = 19 ∨ j = 20 ∨ j = 21 ∨ j = 22 ∨ j = 23) with rfl | rfl | rfl | rfl | rfl | rfl | rfl | rfl | rfl | rfl | rfl | rfl | rfl | rfl | rfl | rfl | rfl | rfl | rfl | rfl | rfl | rfl | rfl | rfl <;> rfl)
  have HCV : Hid (∀ W, Below w.heap.size w W → (convert 53 9 (.slice (some ⟨b, off + 24, none⟩) 9 (cap - 24))).run Tryz.prog W = .ok (.string (⟨#[0, 0, 0, 4, 0, 0, 0, 0, 0]⟩ : ByteArray)) W) := Lib.hid (fun W hb => conv_bytes W b (off + 24) (cap - 24) 0 _ rfl fun i hi => by
    rw [(lo_cell hb).1 b _ hlt, Nat.add_assoc, hc (24 + i) (by omega)]
    rcases (by omega : i = 0 ∨ i = 1 ∨ i = 2 ∨ i = 3 ∨ i = 4 ∨ i = 5 ∨ i = 6 ∨ i = 7 ∨ i = 8) with rfl | rfl | rfl | rfl | rfl | rfl | rfl | rfl | rfl <;> rfl)
  have H3 : Hid (∀ w0, Calls Tryz.prog 50 #[.string (⟨#[0, 0, 0, 4, 0, 0, 0, 0, 0]⟩ : ByteArray)] w0 (CutPost w0 0)) := Lib.hid fun w0 => cut_0 w0
  clear hc hcap
  have hA := Blk.new w 25 #[.int .i64 0, .string ⟨#[]⟩, .bool false]
  have hL := lo_alloc (lo_refl w) (.cells #[.int .i64 0, .string ⟨#[]⟩, .bool false] 25)
  have hR := Blk.new (w.alloc (.cells #[.int .i64 0, .string ⟨#[]⟩, .bool false] 25)) 25 #[.int .i64 0, .string ⟨#[]⟩, .bool false]
  replace hA := hA.alloc (.cells #[.int .i64 0, .string ⟨#[]⟩, .bool false] 25)
  replace hL := lo_alloc hL (.cells #[.int .i64 0, .string ⟨#[]⟩, .bool false] 25)
  simp only [World.size_alloc] at hR
  obtain ⟨cA, fA⟩ := hA.facts
  go_enter Tryz.func25, Tryz.ntmps25
  go_wp2_with fail
  refine (H1.out _).mono ?_
  rintro e w1 ⟨rfl, hb⟩
  clear cA fA
  replace hA := hA.lo hb
  replace hR := hR.lo hb
  replace hL := lo_trans hL hb
  clear hb H1
  obtain ⟨cA, fA⟩ := hA.facts
  go_wp2_with fail
  refine (H2.out _ hA hL).mono ?_
  rintro e w2 ⟨rfl, hA2, hk⟩
  clear cA fA H2
  replace hR := hR.kept hk (by omega)
  replace hL := kept_lo hL hk (Nat.le_refl _)
  clear hA hk
  have hA := hA2
  clear hA2
  have hcv := HCV.out _ hL
  clear HCV
  obtain ⟨cA, fA⟩ := hA.facts
  have hadd : (⟨#[]⟩ : ByteArray) ++ (⟨#[0, 0, 0, 4, 0, 0, 0, 0, 0]⟩ : ByteArray) = (⟨#[0, 0, 0, 4, 0, 0, 0, 0, 0]⟩ : ByteArray) := by decide
  go_wp2_with fail
  refine (H3.out _).mono ?_
  rintro e w3 ⟨v, rfl, hown, hb⟩
  obtain ⟨A2, cap2, rfl, _, _⟩ := own_shape hown
  have hlA : w.heap.size + 1 < w2.heap.size := hR.lt
  clear cA fA hcv hadd
  replace hA := hA.lo hb
  replace hR := hR.lo hb
  replace hL := lo_trans hL hb
  clear hb H3
  obtain ⟨cA, fA⟩ := hA.facts
  have lA := hA.lt
  go_upto_region 10 with fail
  clear cA fA lA
  have hA3 := hA.set_ 1 (.string ⟨#[]⟩)
  have hR3 := hR.far (p := ⟨w.heap.size, 1, none⟩) (show w.heap.size + 1 ≠ w.heap.size by omega) (.string ⟨#[]⟩)
  have hL3 := lo_set hL (p := ⟨w.heap.size, 1, none⟩) (Nat.le_refl _) (.string ⟨#[]⟩)
  have hown3 := own_low hown (p := ⟨w.heap.size, 1, none⟩) (show w.heap.size < w2.heap.size by omega) (.string ⟨#[]⟩)
  clear hA hR hL hown
  generalize w3.setCell ⟨w.heap.size, 1, none⟩ (.string ⟨#[]⟩) = w4 at hA3 hR3 hL3 hown3 ⊢
  simp only [List.setIfInBounds_toArray, List.set_cons_zero, List.set_cons_succ] at hA3
  obtain ⟨cA, fA⟩ := hA3.facts
  obtain ⟨cR, fR⟩ := hR3.facts
  have lA := hA3.lt
  have lR := hR3.lt
  go_wp2_with fail
  clear cA fA cR fR
  have hR7 := ((hR3.set_ 0 (.int .i64 24)).set_ 1 (.string ⟨#[]⟩)).set_ 2 (.bool false)
  have hL7 := lo_set (lo_set (lo_set hL3 (p := ⟨w.heap.size + 1, 0, none⟩) (Nat.le_succ _) (.int .i64 24)) (p := ⟨w.heap.size + 1, 1, none⟩) (Nat.le_succ _) (.string ⟨#[]⟩)) (p := ⟨w.heap.size + 1, 2, none⟩) (Nat.le_succ _) (.bool false)
  have hown7 := own_low (own_low (own_low hown3 (p := ⟨w.heap.size + 1, 0, none⟩) hlA (.int .i64 24)) (p := ⟨w.heap.size + 1, 1, none⟩) hlA (.string ⟨#[]⟩)) (p := ⟨w.heap.size + 1, 2, none⟩) hlA (.bool false)
  clear hA3 hR3 hL3 hown3 lA lR
  generalize ((w4.setCell ⟨w.heap.size + 1, 0, none⟩ (.int .i64 24)).setCell ⟨w.heap.size + 1, 1, none⟩ (.string ⟨#[]⟩)).setCell ⟨w.heap.size + 1, 2, none⟩ (.bool false) = w7 at hR7 hL7 hown7 ⊢
  simp only [List.setIfInBounds_toArray, List.set_cons_zero, List.set_cons_succ] at hR7
  obtain ⟨cR, fR⟩ := hR7.facts
  exact bodyPost_ret (v := .tuple #[.agg #[.int .i64 24, .string ⟨#[]⟩, .bool false], .slice A2 1 cap2, .int .u32 0]) (by simp [results, Tryz.results25, go_sem, cR] <;> (repeat' (first | apply And.intro | (show _ = _; kernel_rfl)))) rfl ⟨A2, cap2, rfl, own_mono hown7 (by omega), hL7⟩
set_option maxRecDepth 100000 in
set_option maxHeartbeats 1600000 in
theorem feed_24 (b off cap : Nat) (w : World) (hlt : b < w.heap.size) (hc : ∀ j, j < 9 → w.cell? ⟨b, off + j, none⟩ = some (.int .u8 (([0, 0, 0, 4, 1, 0, 0, 0, 0] : List Int).getD j 0))) : Calls Tryz.prog 25 #[.agg #[.int .i64 24, .string ⟨#[]⟩, .bool false], .slice (some ⟨b, off, none⟩) 9 cap] w (FeedPost w 1) := by
  have H1 : Hid (∀ w0, Calls Tryz.prog 48 #[.agg #[.int .i64 24, .string ⟨#[]⟩, .bool false]] w0 (IntPost w0 0)) := Lib.hid fun w0 => scheck_24 w0
  have H2 : Hid (∀ W, Blk W w.heap.size 25 #[.int .i64 24, .string ⟨#[]⟩, .bool false] → Below w.heap.size w W → Calls Tryz.prog 49 #[.pointer (some ⟨w.heap.size, 0, none⟩), .slice (some ⟨b, off, none⟩) 9 cap] W (GreetPost W w.heap.size (.slice (some ⟨b, off, none⟩) 9 cap))) := Lib.hid (fun W hA hb => greet_24 w.heap.size b off cap W hA)
  have HCV : Hid (∀ W, Below w.heap.size w W → (convert 53 9 (.slice (some ⟨b, off, none⟩) 9 cap)).run Tryz.prog W = .ok (.string (⟨#[0, 0, 0, 4, 1, 0, 0, 0, 0]⟩ : ByteArray)) W) := Lib.hid (fun W hb => conv_bytes W b off cap 1 _ rfl fun i hi => by
    rw [(lo_cell hb).1 b _ hlt]
    exact hc i hi)
  have H3 : Hid (∀ w0, Calls Tryz.prog 50 #[.string (⟨#[0, 0, 0, 4, 1, 0, 0, 0, 0]⟩ : ByteArray)] w0 (CutPost w0 1)) := Lib.hid fun w0 => cut_1 w0
  clear hc 
  have hA := Blk.new w 25 #[.int .i64 24, .string ⟨#[]⟩, .bool false]
  have hL := lo_alloc (lo_refl w) (.cells #[.int .i64 24, .string ⟨#[]⟩, .bool false] 25)
  have hR := Blk.new (w.alloc (.cells #[.int .i64 24, .string ⟨#[]⟩, .bool false] 25)) 25 #[.int .i64 0, .string ⟨#[]⟩, .bool false]
  replace hA := hA.alloc (.cells #[.int .i64 0, .string ⟨#[]⟩, .bool false] 25)
  replace hL := lo_alloc hL (.cells #[.int .i64 0, .string ⟨#[]⟩, .bool false] 25)
  simp only [World.size_alloc] at hR
  obtain ⟨cA, fA⟩ := hA.facts
  go_enter Tryz.func25, Tryz.ntmps25
  go_wp2_with fail
  refine (H1.out _).mono ?_
  rintro e w1 ⟨rfl, hb⟩
  clear cA fA
  replace hA := hA.lo hb
  replace hR := hR.lo hb
  replace hL := lo_trans hL hb
  clear hb H1
  obtain ⟨cA, fA⟩ := hA.facts
  go_wp2_with fail
  refine (H2.out _ hA hL).mono ?_
  rintro e w2 ⟨rfl, hA2, hk⟩
  clear cA fA H2
  replace hR := hR.kept hk (by omega)
  replace hL := kept_lo hL hk (Nat.le_refl _)
  clear hA hk
  have hA := hA2
  clear hA2
  have hcv := HCV.out _ hL
  clear HCV
  obtain ⟨cA, fA⟩ := hA.facts
  have hadd : (⟨#[]⟩ : ByteArray) ++ (⟨#[0, 0, 0, 4, 1, 0, 0, 0, 0]⟩ : ByteArray) = (⟨#[0, 0, 0, 4, 1, 0, 0, 0, 0]⟩ : ByteArray) := by decide
  go_wp2_with fail
  refine (H3.out _).mono ?_
  rintro e w3 ⟨v, rfl, hown, hb⟩
  obtain ⟨A2, cap2, rfl, _, _⟩ := own_shape hown
  have hlA : w.heap.size + 1 < w2.heap.size := hR.lt
  clear cA fA hcv hadd
  replace hA := hA.lo hb
  replace hR := hR.lo hb
  replace hL := lo_trans hL hb
  clear hb H3
  obtain ⟨cA, fA⟩ := hA.facts
  have lA := hA.lt
  go_upto_region 10 with fail
  clear cA fA lA
  have hA3 := hA.set_ 1 (.string ⟨#[]⟩)
  have hR3 := hR.far (p := ⟨w.heap.size, 1, none⟩) (show w.heap.size + 1 ≠ w.heap.size by omega) (.string ⟨#[]⟩)
  have hL3 := lo_set hL (p := ⟨w.heap.size, 1, none⟩) (Nat.le_refl _) (.string ⟨#[]⟩)
  have hown3 := own_low hown (p := ⟨w.heap.size, 1, none⟩) (show w.heap.size < w2.heap.size by omega) (.string ⟨#[]⟩)
  clear hA hR hL hown
  generalize w3.setCell ⟨w.heap.size, 1, none⟩ (.string ⟨#[]⟩) = w4 at hA3 hR3 hL3 hown3 ⊢
  simp only [List.setIfInBounds_toArray, List.set_cons_zero, List.set_cons_succ] at hA3
  obtain ⟨cA, fA⟩ := hA3.facts
  obtain ⟨cR, fR⟩ := hR3.facts
  have lA := hA3.lt
  have lR := hR3.lt
  go_wp2_with fail
  clear cA fA cR fR
  have hR7 := ((hR3.set_ 0 (.int .i64 24)).set_ 1 (.string ⟨#[]⟩)).set_ 2 (.bool false)
  have hL7 := lo_set (lo_set (lo_set hL3 (p := ⟨w.heap.size + 1, 0, none⟩) (Nat.le_succ _) (.int .i64 24)) (p := ⟨w.heap.size + 1, 1, none⟩) (Nat.le_succ _) (.string ⟨#[]⟩)) (p := ⟨w.heap.size + 1, 2, none⟩) (Nat.le_succ _) (.bool false)
  have hown7 := own_low (own_low (own_low hown3 (p := ⟨w.heap.size + 1, 0, none⟩) hlA (.int .i64 24)) (p := ⟨w.heap.size + 1, 1, none⟩) hlA (.string ⟨#[]⟩)) (p := ⟨w.heap.size + 1, 2, none⟩) hlA (.bool false)
  clear hA3 hR3 hL3 hown3 lA lR
  generalize ((w4.setCell ⟨w.heap.size + 1, 0, none⟩ (.int .i64 24)).setCell ⟨w.heap.size + 1, 1, none⟩ (.string ⟨#[]⟩)).setCell ⟨w.heap.size + 1, 2, none⟩ (.bool false) = w7 at hR7 hL7 hown7 ⊢
  simp only [List.setIfInBounds_toArray, List.set_cons_zero, List.set_cons_succ] at hR7
  obtain ⟨cR, fR⟩ := hR7.facts
  exact bodyPost_ret (v := .tuple #[.agg #[.int .i64 24, .string ⟨#[]⟩, .bool false], .slice A2 1 cap2, .int .u32 0]) (by simp [results, Tryz.results25, go_sem, cR] <;> (repeat' (first | apply And.intro | (show _ = _; kernel_rfl)))) rfl ⟨A2, cap2, rfl, own_mono hown7 (by omega), hL7⟩
end Go.Proofs.YtdonnbfojcggmaaGreat
