import Derived.Test.YtlakblcabebjeaaLife
import Derived.Test.YtlakblcabebjeaaRefStep
import Derived.Laws.OwnMore
import Derived.Deep.DrawnRows
import Derived.Deep.DeepFit
import Derived.Deep.RegionHeld3
import Derived.WalkSmall
import Derived.Deep.RegionWith
import Derived.Deep.QuietTactic
import Derived.BigQuiet
import Derived.Deep.DeepCutAuto
namespace Go.Proofs.Ytlakblcabebjeaa
open Go.RowKit
attribute [local go_sem ↓] Go.wp_at_zero Go.wp_at_succ

/-- Events from a state on: the state, the verdict, the event's place. -/
def runL : List (Int × Bool) → Int → Nat → Int × Vd × Nat
  | [], s, i => (s, (0, false, false), i)
  | x :: t, s, i => if (stepL s x.1 x.2).2.1 = 0 then runL t (stepL s x.1 x.2).1 (i + 1) else ((stepL s x.1 x.2).1, (stepL s x.1 x.2).2, i)
theorem step_st {s : Int} (k : Int) (e : Bool) (h : 0 ≤ s) : 0 ≤ (stepL s k e).1 ∧ ((stepL s k e).1 = s ∨ (stepL s k e).1 ≤ 5) := by
  unfold stepL takeL sendL textL beginL
  repeat' split
  all_goals (first | exact ⟨h, .inl rfl⟩ | exact ⟨by decide, .inr (by decide)⟩)
theorem step_code (s k : Int) (e : Bool) : 0 ≤ (stepL s k e).2.1 ∧ (stepL s k e).2.1 ≤ 7 := by
  unfold stepL takeL sendL textL beginL
  repeat' split
  all_goals (simp only; omega)
abbrev Evs (w : World) (A : Option Addr) (len cap : Nat) (l : List (Int × Bool)) : Prop :=
  AggRow 2 (fun x : Int × Bool => [Value.int .u8 x.1, Value.bool x.2]) (fun x : Int × Bool => (Lit.int .u8 x.1).wf = true) w A len cap l
theorem drop_run (l : List (Int × Bool)) (k : Nat) (s : Int) (h : k < l.length) : runL (l.drop k) s k = if (stepL s l[k].1 l[k].2).2.1 = 0 then runL (l.drop (k + 1)) (stepL s l[k].1 l[k].2).1 (k + 1) else ((stepL s l[k].1 l[k].2).1, (stepL s l[k].1 l[k].2).2, k) := by
  rw [List.drop_eq_getElem_cons h]
  rfl
def RunPost (w : World) (q : IntKind) (r : Int × Vd × Nat) (e : Ending) (w' : World) : Prop :=
  e = .returned (.tuple #[.int .u8 r.1, .agg #[.int q r.2.1.1, .bool r.2.1.2.1, .bool r.2.1.2.2], .int .i64 r.2.2]) ∧ Below w.heap.size w w'
set_option maxRecDepth 100000 in
set_option maxHeartbeats 3200000 in
theorem run_any (s0 : Int) (A : Option Addr) (len cap : Nat) (l : List (Int × Bool)) (w : World) (hs : 0 ≤ s0) (hl : Evs w A len cap l) (hlen : len ≤ 1000) :
    Calls Try.prog 14 #[.int .u8 s0, .slice A len cap] w (RunPost w .u32 (runL l s0 0)) := by
  have HL := Lib.hid hl
  have hll := hl.1
  clear hl
  generalize hR : runL l s0 0 = R
  have HR : Hid (runL (l.drop 0) s0 0 = R) := hR
  clear hR
  go_enter Try.func14, Try.ntmps14
  go_wp2_with fail
  go_loopw [0, 13] (fun x y wr => ∃ (k : Nat) (s : Int), k ≤ len ∧ 0 ≤ s ∧ x = .int .u8 s ∧ y = .int .i64 k ∧ Hid (runL (l.drop k) s k = R) ∧ Blk wr w.heap.size 27 #[.int .u32 0, .bool false, .bool false] ∧ Below w.heap.size w wr) (fun _ y _ => len - (intOf y).toNat)
  case atStart => exact ⟨0, s0, by omega, hs, rfl, rfl, HR, Blk.new _ _ _, lo_alloc (lo_refl w) _⟩
  case round =>
    clear HR
    obtain ⟨k, s, hk, hs0, rfl, rfl, HR, hblk, hbel⟩ := hrel
    by_cases hkl : k < len
    · obtain ⟨b, off, rfl, hlt, hc⟩ := (agg_lo HL.out hbel).2.2.2.2.1 k l[k] (List.getElem?_eq_getElem (by omega))
      have hwf := HL.out.2.2.2.2.2 l[k] (List.getElem_mem _)
      have hd := drop_run l k s (by omega)
      rw [HR.out] at hd
      generalize l[k] = x at hc hwf hd
      obtain ⟨kd, e⟩ := x
      have hc0 := hc 0 _ rfl
      have hc1 := hc 1 _ rfl
      simp only [Nat.add_zero] at hc0 hc1
      have hkd := bounds_u8 hwf
      simp only at hd hkd
      have hkl' : (k : Int) < (len : Int) := by omega
      have hst := step_st kd e hs0
      have HS := Lib.hid (step_any s kd e hs0 hkd.1)
      generalize stepL s kd e = r at hd hst HS
      obtain ⟨r1, c, va, vb⟩ := r
      simp only at hd hst
      have hr1 := hst.1
      have hblk1 := hblk.alloc (.cells #[.int .u8 kd, .bool e] 30)
      have hbel1 := Lib.hid (lo_alloc hbel (.cells #[.int .u8 kd, .bool e] 30))
      have Hd := Lib.hid hd
      clear hc hwf HR hst hkd hbel hblk hd
      go_wp2_with fail
      refine (HS.out _).mono ?_
      rintro e w2 ⟨rfl, hb2⟩
      have hblk2 := (hblk1.lo hb2).alloc (.cells #[.int .u32 c, .bool va, .bool vb] 27)
      have hV := Blk.new w2 27 #[.int .u32 c, .bool va, .bool vb]
      have hbel2 := Lib.hid (lo_alloc (lo_trans hbel1.out hb2) (.cells #[.int .u32 c, .bool va, .bool vb] 27))
      clear hb2 hblk1 hbel1
      by_cases hcz : c = 0
      · subst hcz
        have HD : Hid (runL (l.drop (k + 1)) r1 (k + 1) = R) := by have := Hd.out; rw [if_pos rfl] at this; exact this.symm
        go_wp2_with fail
        go_roundw
        case rel => exact ⟨k + 1, r1, by omega, hr1, rfl, by go_num, HD, hblk2, hbel2.out⟩
        case measure => simp [intOf]; omega
      · have HD : Hid (R = (r1, (c, va, vb), k)) := by have := Hd.out; rw [if_neg hcz] at this; exact this
        go_upto_region 7 with fail
        generalize hgv : w2.heap.size = gv at *
        generalize w2.alloc (.cells #[.int .u32 c, .bool va, .bool vb] 27) = w3 at *
        obtain ⟨cV, fV⟩ := hV.facts
        obtain ⟨cR, fR⟩ := hblk2.facts
        go_region
        go_wp2_with fail
        refine bodyPost_ret (v := .tuple #[.int .u8 r1, .agg #[.int .u32 c, .bool va, .bool vb], .int .i64 k]) (by simp [results, Try.results14, go_sem, cR] <;> rfl) rfl ⟨by rw [HD.out], ?_⟩
        have hl := hbel2.out
        repeat' (first | with_reducible exact hl | with_reducible apply lo_set | with_reducible apply lo_drew | simp)
    · have hkl' : ¬ (k : Int) < (len : Int) := by omega
      have hke : k = len := by omega
      subst hke
      have hR := HR.out
      rw [List.drop_eq_nil_of_le (by omega), runL] at hR
      have HR2 := Lib.hid hR
      obtain ⟨cR, fR⟩ := hblk.facts
      clear hR HR
      go_wp2_with fail
      refine bodyPost_ret (v := .tuple #[.int .u8 s, .agg #[.int .u32 0, .bool false, .bool false], .int .i64 k]) (by simp [results, Try.results14, go_sem, cR] <;> rfl) rfl ⟨by rw [← HR2.out], ?_⟩
      repeat' (first | with_reducible exact hbel | with_reducible apply lo_set | simp)
set_option maxRecDepth 100000 in
set_option maxHeartbeats 3200000 in
theorem run_ref (s0 : Int) (A : Option Addr) (len cap : Nat) (l : List (Int × Bool)) (w : World) (hs : 0 ≤ s0) (hl : Evs w A len cap l) (hlen : len ≤ 1000) :
    Calls Try.prog 15 #[.int .u8 s0, .slice A len cap] w (RunPost w .i64 (runL l s0 0)) := by
  have HL := Lib.hid hl
  have hll := hl.1
  clear hl
  generalize hR : runL l s0 0 = R
  have HR : Hid (runL (l.drop 0) s0 0 = R) := hR
  clear hR
  go_enter Try.func15, Try.ntmps15
  go_wp2_with fail
  go_loopw [0, 7] (fun x y wr => ∃ (k : Nat) (s : Int), k ≤ len ∧ 0 ≤ s ∧ x = .int .u8 s ∧ y = .int .i64 k ∧ Hid (runL (l.drop k) s k = R) ∧ Blk wr w.heap.size 32 #[.int .i64 0, .bool false, .bool false] ∧ Below w.heap.size w wr) (fun _ y _ => len - (intOf y).toNat)
  case atStart => exact ⟨0, s0, by omega, hs, rfl, rfl, HR, Blk.new _ _ _, lo_alloc (lo_refl w) _⟩
  case round =>
    clear HR
    obtain ⟨k, s, hk, hs0, rfl, rfl, HR, hblk, hbel⟩ := hrel
    by_cases hkl : k < len
    · obtain ⟨b, off, rfl, hlt, hc⟩ := (agg_lo HL.out hbel).2.2.2.2.1 k l[k] (List.getElem?_eq_getElem (by omega))
      have hwf := HL.out.2.2.2.2.2 l[k] (List.getElem_mem _)
      have hd := drop_run l k s (by omega)
      rw [HR.out] at hd
      generalize l[k] = x at hc hwf hd
      obtain ⟨kd, e⟩ := x
      have hc0 := hc 0 _ rfl
      have hc1 := hc 1 _ rfl
      simp only [Nat.add_zero] at hc0 hc1
      have hkd := bounds_u8 hwf
      simp only at hd hkd
      have hkl' : (k : Int) < (len : Int) := by omega
      have hst := step_st kd e hs0
      have HS := Lib.hid (ref_step s kd e hs0 hkd.1)
      generalize stepL s kd e = r at hd hst HS
      obtain ⟨r1, c, va, vb⟩ := r
      simp only at hd hst
      have hr1 := hst.1
      have hblk1 := hblk
      have hbel1 := Lib.hid hbel
      have Hd := Lib.hid hd
      clear hc hwf HR hst hkd hbel hblk hd
      go_wp2_with fail
      refine (HS.out _).mono ?_
      rintro e w2 ⟨rfl, hb2⟩
      have hblk2 := (hblk1.lo hb2).alloc (.cells #[.int .i64 c, .bool va, .bool vb] 32)
      have hV := Blk.new w2 32 #[.int .i64 c, .bool va, .bool vb]
      have hbel2 := Lib.hid (lo_alloc (lo_trans hbel1.out hb2) (.cells #[.int .i64 c, .bool va, .bool vb] 32))
      clear hb2 hblk1 hbel1
      by_cases hcz : c = 0
      · subst hcz
        have HD : Hid (runL (l.drop (k + 1)) r1 (k + 1) = R) := by have := Hd.out; rw [if_pos rfl] at this; exact this.symm
        go_wp2_with fail
        go_roundw
        case rel => exact ⟨k + 1, r1, by omega, hr1, rfl, by go_num, HD, hblk2, hbel2.out⟩
        case measure => simp [intOf]; omega
      · have HD : Hid (R = (r1, (c, va, vb), k)) := by have := Hd.out; rw [if_neg hcz] at this; exact this
        go_upto_region 7 with fail
        generalize hgv : w2.heap.size = gv at *
        generalize w2.alloc (.cells #[.int .i64 c, .bool va, .bool vb] 32) = w3 at *
        obtain ⟨cV, fV⟩ := hV.facts
        obtain ⟨cR, fR⟩ := hblk2.facts
        go_region
        go_wp2_with fail
        refine bodyPost_ret (v := .tuple #[.int .u8 r1, .agg #[.int .i64 c, .bool va, .bool vb], .int .i64 k]) (by simp [results, Try.results15, go_sem, cR] <;> rfl) rfl ⟨by rw [HD.out], ?_⟩
        have hl := hbel2.out
        repeat' (first | with_reducible exact hl | with_reducible apply lo_set | with_reducible apply lo_drew | simp)
    · have hkl' : ¬ (k : Int) < (len : Int) := by omega
      have hke : k = len := by omega
      subst hke
      have hR := HR.out
      rw [List.drop_eq_nil_of_le (by omega), runL] at hR
      have HR2 := Lib.hid hR
      obtain ⟨cR, fR⟩ := hblk.facts
      clear hR HR
      go_wp2_with fail
      refine bodyPost_ret (v := .tuple #[.int .u8 s, .agg #[.int .i64 0, .bool false, .bool false], .int .i64 k]) (by simp [results, Try.results15, go_sem, cR] <;> rfl) rfl ⟨by rw [← HR2.out], ?_⟩
      repeat' (first | with_reducible exact hbel | with_reducible apply lo_set | simp)
end Go.Proofs.Ytlakblcabebjeaa
