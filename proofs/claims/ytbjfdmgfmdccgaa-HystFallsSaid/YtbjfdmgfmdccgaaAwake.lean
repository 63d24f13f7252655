import Derived.Test.YtbjfdmgfmdccgaaRunAny
namespace Go.Proofs.Ytbjfdmgfmdccgaa
open Go.RowKit
attribute [local go_sem ↓] Go.wp_at_zero Go.wp_at_succ

def BoolPost (w : World) (b : Bool) (e : Ending) (w' : World) : Prop := e = .returned (.bool b) ∧ Below w.heap.size w w'
theorem row_of {W : World} {g : Nat} {cs : Array Value} {xs : List Int} (h : Blk W g 3 cs) (hcs : cs.toList = xs.map (Value.int .i64)) (hm : xs.length ≤ 1000) (hwf : ∀ x ∈ xs, (Lit.int .i64 x).wf = true) :
    IntRow .i64 W (some ⟨g, 0, none⟩) xs.length xs.length xs := by
  refine ⟨rfl, Nat.le_refl _, by unfold maxLen; omega, (fun e => by cases e), fun i x hx => ⟨g, 0, rfl, h.lt, ?_⟩, hwf⟩
  rw [Nat.zero_add, h.facts.1 i]
  have : cs[i]? = cs.toList[i]? := by simp
  rw [this, hcs, List.getElem?_map, hx]
  rfl
theorem new_1 : newS 1 16 5 20 3 = ⟨16, 1, 16, 5, 20, 3, 0⟩ := rfl
theorem new_1e : (St.mk 16 1 16 5 20 3 0).err = 0 := rfl
theorem new_2 : newS 0 16 5 20 3 = ⟨0, 0, 0, 0, 0, 0, 0⟩ := rfl
theorem new_2e : (St.mk 16 0 16 5 20 3 0).err = 8 := rfl
theorem see_1 : seeS ⟨16, 1, 16, 5, 20, 3, 0⟩ 21 = (⟨8, 1, 16, 5, 20, 3, 0⟩, true) := rfl
theorem run_1 : runS [0, 4, 5, 0, 0, 0] ⟨8, 1, 16, 5, 20, 3, 0⟩ 0 = (⟨9, 1, 16, 5, 20, 3, 0⟩, 1) := rfl
theorem zone_1 : zoneS ⟨16, 1, 16, 5, 20, 3, 0⟩ 21 = 1 := rfl
theorem zone_2 : zoneS ⟨16, 1, 16, 5, 20, 3, 0⟩ 20 = 0 := rfl
theorem zone_3 : zoneS ⟨16, 1, 16, 5, 20, 3, 0⟩ 4 = -1 := rfl
theorem chk_1 : (St.mk 9 1 16 5 20 3 0).err = 0 := rfl
set_option maxRecDepth 100000 in
set_option maxHeartbeats 6400000 in
theorem awake_any (w : World) : Calls Try.prog 8 #[] w (BoolPost w true) := by
  have h1 := new_any 1 16 5 20 3
  rw [new_1, new_1e] at h1
  have H1 := Lib.hid h1
  have h2 := see_any ⟨16, 1, 16, 5, 20, 3, 0⟩ 21
  rw [see_1] at h2
  have H2 := Lib.hid h2
  have h3 : ∀ (W : World) (g : Nat), Blk W g 3 #[.int .i64 0, .int .i64 4, .int .i64 5, .int .i64 0, .int .i64 0, .int .i64 0] → Calls Try.prog 12 #[.agg #[.int .i64 8, .int .i64 1, .int .i64 16, .int .i64 5, .int .i64 20, .int .i64 3, .int .i64 0], .slice (some ⟨g, 0, none⟩) 6 6] W (RunPost W (⟨9, 1, 16, 5, 20, 3, 0⟩, 1)) := fun W g hg => by
    have := run_any ⟨8, 1, 16, 5, 20, 3, 0⟩ (some ⟨g, 0, none⟩) 6 6 [0, 4, 5, 0, 0, 0] W (row_of hg rfl (by decide) (by decide)) (by decide)
    rw [run_1] at this
    exact this
  have H3 := Lib.hid h3
  have h4 := new_any 0 16 5 20 3
  rw [new_2, new_2e] at h4
  have H4 := Lib.hid h4
  have h5 := zone_any ⟨16, 1, 16, 5, 20, 3, 0⟩ 21
  rw [zone_1] at h5
  have H5 := Lib.hid h5
  have h6 := zone_any ⟨16, 1, 16, 5, 20, 3, 0⟩ 20
  rw [zone_2] at h6
  have H6 := Lib.hid h6
  have h7 := zone_any ⟨16, 1, 16, 5, 20, 3, 0⟩ 4
  rw [zone_3] at h7
  have H7 := Lib.hid h7
  have h8 := check_any ⟨9, 1, 16, 5, 20, 3, 0⟩
  rw [chk_1] at h8
  have H8 := Lib.hid h8
  clear h1 h2 h3 h4 h5 h6 h7 h8
  go_enter Try.func8, Try.ntmps8
  go_wp2_with fail
  refine (H1.out _).mono ?_
  rintro e w1 ⟨rfl, hb⟩
  have hA := Blk.new w1 24 #[.int .i64 16, .int .i64 1, .int .i64 16, .int .i64 5, .int .i64 20, .int .i64 3, .int .i64 0]
  have hL := lo_alloc hb (.cells #[.int .i64 16, .int .i64 1, .int .i64 16, .int .i64 5, .int .i64 20, .int .i64 3, .int .i64 0] 24)
  clear hb
  go_upto_region 2 with fail
  generalize w1.heap.size = ga at hA ⊢
  generalize w1.alloc (.cells #[.int .i64 16, .int .i64 1, .int .i64 16, .int .i64 5, .int .i64 20, .int .i64 3, .int .i64 0] 24) = v1 at hA hL ⊢
  obtain ⟨cA, fA⟩ := hA.facts
  go_wp2_with fail
  refine (H2.out _).mono ?_
  rintro e w2 ⟨rfl, hb⟩
  clear cA fA
  have hA := (hA.lo hb).alloc (.cells #[.int .i64 8, .int .i64 1, .int .i64 16, .int .i64 5, .int .i64 20, .int .i64 3, .int .i64 0] 24)
  have hB := Blk.new w2 24 #[.int .i64 8, .int .i64 1, .int .i64 16, .int .i64 5, .int .i64 20, .int .i64 3, .int .i64 0]
  have hL := lo_alloc (lo_trans hL hb) (.cells #[.int .i64 8, .int .i64 1, .int .i64 16, .int .i64 5, .int .i64 20, .int .i64 3, .int .i64 0] 24)
  clear hb
  go_upto_region 3 with fail
  generalize w2.heap.size = gb at hB ⊢
  generalize w2.alloc (.cells #[.int .i64 8, .int .i64 1, .int .i64 16, .int .i64 5, .int .i64 20, .int .i64 3, .int .i64 0] 24) = v2 at hA hB hL ⊢
  have hA := hA.alloc (.cells #[.int .i64 0, .int .i64 4, .int .i64 5, .int .i64 0, .int .i64 0, .int .i64 0] 3)
  have hB' := hB.alloc (.cells #[.int .i64 0, .int .i64 4, .int .i64 5, .int .i64 0, .int .i64 0, .int .i64 0] 3)
  have hR := H3.out _ _ (Blk.new v2 3 #[.int .i64 0, .int .i64 4, .int .i64 5, .int .i64 0, .int .i64 0, .int .i64 0])
  have hL := lo_alloc hL (.cells #[.int .i64 0, .int .i64 4, .int .i64 5, .int .i64 0, .int .i64 0, .int .i64 0] 3)
  obtain ⟨cB, fB⟩ := hB.facts
  go_wp2_with fail
  refine (hR).mono ?_
  rintro e w3 ⟨rfl, hb⟩
  clear cB fB
  have hA := (hA.lo hb).alloc (.cells #[.int .i64 9, .int .i64 1, .int .i64 16, .int .i64 5, .int .i64 20, .int .i64 3, .int .i64 0] 24)
  have hB := (hB'.lo hb).alloc (.cells #[.int .i64 9, .int .i64 1, .int .i64 16, .int .i64 5, .int .i64 20, .int .i64 3, .int .i64 0] 24)
  have hC := Blk.new w3 24 #[.int .i64 9, .int .i64 1, .int .i64 16, .int .i64 5, .int .i64 20, .int .i64 3, .int .i64 0]
  have hL := lo_alloc (lo_trans hL hb) (.cells #[.int .i64 9, .int .i64 1, .int .i64 16, .int .i64 5, .int .i64 20, .int .i64 3, .int .i64 0] 24)
  clear hb hR hB'
  go_upto_region 4 with fail
  generalize w3.heap.size = gc at hC ⊢
  generalize w3.alloc (.cells #[.int .i64 9, .int .i64 1, .int .i64 16, .int .i64 5, .int .i64 20, .int .i64 3, .int .i64 0] 24) = v3 at hA hB hC hL ⊢
  go_wp2_with fail
  refine (H4.out _).mono ?_
  rintro e w4 ⟨rfl, hb⟩
  have hA := (hA.lo hb).alloc (.cells #[.int .i64 0, .int .i64 0, .int .i64 0, .int .i64 0, .int .i64 0, .int .i64 0, .int .i64 0] 24)
  have hB := (hB.lo hb).alloc (.cells #[.int .i64 0, .int .i64 0, .int .i64 0, .int .i64 0, .int .i64 0, .int .i64 0, .int .i64 0] 24)
  have hC := (hC.lo hb).alloc (.cells #[.int .i64 0, .int .i64 0, .int .i64 0, .int .i64 0, .int .i64 0, .int .i64 0, .int .i64 0] 24)
  have hL := lo_alloc (lo_trans hL hb) (.cells #[.int .i64 0, .int .i64 0, .int .i64 0, .int .i64 0, .int .i64 0, .int .i64 0, .int .i64 0] 24)
  clear hb
  go_upto_region 5 with fail
  generalize w4.heap.size = gd at ⊢
  generalize w4.alloc (.cells #[.int .i64 0, .int .i64 0, .int .i64 0, .int .i64 0, .int .i64 0, .int .i64 0, .int .i64 0] 24) = v4 at hA hB hC hL ⊢
  obtain ⟨cA, fA⟩ := hA.facts
  obtain ⟨cB, fB⟩ := hB.facts
  obtain ⟨cC, fC⟩ := hC.facts
  go_wp2_with fail
  refine (H5.out _).mono ?_
  rintro e w5 ⟨rfl, hb⟩
  clear cA fA cB fB cC fC
  have hA := hA.lo hb
  have hC := hC.lo hb
  have hL := lo_trans hL hb
  clear hb
  obtain ⟨cA, fA⟩ := hA.facts
  go_wp2_with fail
  refine (H6.out _).mono ?_
  rintro e w6 ⟨rfl, hb⟩
  clear cA fA
  have hA := hA.lo hb
  have hC := hC.lo hb
  have hL := lo_trans hL hb
  clear hb
  obtain ⟨cA, fA⟩ := hA.facts
  go_wp2_with fail
  refine (H7.out _).mono ?_
  rintro e w7 ⟨rfl, hb⟩
  clear cA fA
  have hC := hC.lo hb
  have hL := lo_trans hL hb
  clear hb
  obtain ⟨cC, fC⟩ := hC.facts
  go_wp2_with fail
  refine (H8.out _).mono ?_
  rintro e w8 ⟨rfl, hb⟩
  clear cC fC
  have hL := Lib.hid (lo_trans hL hb)
  clear hb
  go_wp2_with fail
  go_ret
  exact ⟨rfl, hL.out⟩
end Go.Proofs.Ytbjfdmgfmdccgaa
