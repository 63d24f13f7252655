import Derived.Test.YtlgkpogbnkpghaaMay
namespace Go.Proofs.Ytlgkpogbnkpghaa
open Go.RowKit

/-- One act: the window behind it, and the code. -/
def stepW (a k n : Int) : Int × Int :=
  if k = 0 then ((takeW a n).1, if (takeW a n).2 = true then 0 else 3) else if k = 1 then giveW a n else if k = 2 then shiftW a 0 n else if k = 3 then shiftW a n 0 else (a, 0)
def runW : List (Int × Int) → Int → Int × Int
  | [], a => (a, 0)
  | x :: t, a => if (stepW a x.1 x.2).2 = 0 then runW t (stepW a x.1 x.2).1 else stepW a x.1 x.2
theorem clo_take (g : Nat) (a n : Int) (w : World) (hg : Blk w g 3 #[.int .i64 a]) :
    Calls Try.prog 24 #[.int .i64 n, .pointer (some ⟨g, 0, none⟩)] w fun e w' => e = .returned (.int .u32 (if (takeW a n).2 = true then 0 else 3)) ∧ w.setCell ⟨g, 0, none⟩ (.int .i64 (takeW a n).1) = w' := by
  obtain ⟨cg, fg⟩ := hg.facts
  have HT := Lib.hid (take_any a n)
  generalize takeW a n = r at HT ⊢
  obtain ⟨r1, r2⟩ := r
  simp only at HT ⊢
  cases r2
  all_goals
    go_enter Try.func24, Try.ntmps24
    go_wp2_with (go_at_call 7; refine (HT.out _).mono ?_; rintro e w' ⟨rfl, rfl⟩)
    go_ret
    exact ⟨rfl, rfl⟩
theorem clo_keep (g : Nat) (a x c : Int) (w : World) (hg : Blk w g 3 #[.int .i64 a]) :
    Calls Try.prog 25 #[.int .i64 x, .int .u32 c, .pointer (some ⟨g, 0, none⟩)] w fun e w' => e = .returned (.int .u32 c) ∧ w.setCell ⟨g, 0, none⟩ (.int .i64 x) = w' := by
  obtain ⟨cg, fg⟩ := hg.facts
  go_enter Try.func25, Try.ntmps25
  go_wp2
  go_ret
  exact ⟨rfl, rfl⟩
/-- Acts that lie in memory. -/
abbrev Acts (w : World) (A : Option Addr) (len cap : Nat) (l : List (Int × Int)) : Prop :=
  AggRow 2 (fun x : Int × Int => [Value.int .u8 x.1, Value.int .i64 x.2]) (fun x : Int × Int => (Lit.int .u8 x.1).wf = true ∧ (Lit.int .i64 x.2).wf = true) w A len cap l
theorem agg_below {α : Type} {nf : Nat} {C : α → List Value} {G : α → Prop} {w w' : World} {A : Option Addr} {len cap : Nat} {xs : List α} (h : AggRow nf C G w A len cap xs) (hb : Below w.heap.size w w') : AggRow nf C G w' A len cap xs := by
  obtain ⟨h1, h2, h3, h4, h5, h6⟩ := h
  refine ⟨h1, h2, h3, h4, fun i x hx => ?_, h6⟩
  obtain ⟨b, off, e, hlt, hc⟩ := h5 i x hx
  exact ⟨b, off, e, Nat.lt_of_lt_of_le hlt hb.size, fun j u hu => (hb.cell (p := ⟨b, off + i * nf + j, none⟩) hlt).trans (hc j u hu)⟩
theorem drop_run (l : List (Int × Int)) (k : Nat) (a : Int) (h : k < l.length) : runW (l.drop k) a = if (stepW a l[k].1 l[k].2).2 = 0 then runW (l.drop (k + 1)) (stepW a l[k].1 l[k].2).1 else stepW a l[k].1 l[k].2 := by
  rw [List.drop_eq_getElem_cons h]
  rfl
def RunPost (w : World) (k : IntKind) (r : Int × Int) (e : Ending) (w' : World) : Prop := e = .returned (.tuple #[.int .i64 r.1, .int k r.2]) ∧ Below w.heap.size w w'
set_option maxRecDepth 100000 in
set_option maxHeartbeats 3200000 in
theorem run_any (a0 : Int) (A : Option Addr) (len cap : Nat) (l : List (Int × Int)) (w : World) (hl : Acts w A len cap l) (hlen : len ≤ 1000) :
    Calls Try.prog 16 #[.int .i64 a0, .slice A len cap] w (RunPost w .u32 (runW l a0)) := by
  have hmf : ∀ (fn : Fn) (first cap : Array Value) (w : World), (Instr.makeFunc fn first cap).run Try.prog w = .ok (.func fn first cap) w := fun _ _ _ _ => rfl
  have HL := Lib.hid hl
  have hll := hl.1
  clear hl
  generalize hR : runW l a0 = R
  have HR : Hid (runW (l.drop 0) a0 = R) := hR
  clear hR
  go_enter Try.func16, Try.ntmps16
  go_wp2_with fail
  go_loopw [15] (fun y wr => ∃ (k : Nat) (a : Int), k ≤ len ∧ y = .int .i64 k ∧ Hid (runW (l.drop k) a = R) ∧ Blk wr w.heap.size 3 #[.int .i64 a] ∧ Below w.heap.size w wr) (fun y _ => len - (intOf y).toNat)
  case atStart => exact ⟨0, a0, by omega, rfl, HR, Blk.new _ _ _, lo_alloc (lo_refl w) _⟩
  case round =>
    clear HR
    obtain ⟨k, a, hk, rfl, HR, hblk, hbel⟩ := hrel
    by_cases hkl : k < len
    · obtain ⟨b, off, rfl, hlt, hc⟩ := (agg_below HL.out hbel).2.2.2.2.1 k l[k] (List.getElem?_eq_getElem (by omega))
      have hwf := HL.out.2.2.2.2.2 l[k] (List.getElem_mem _)
      have hd := drop_run l k a (by omega)
      rw [HR.out] at hd
      generalize l[k] = x at hc hwf hd
      obtain ⟨kd, n⟩ := x
      have hc0 := hc 0 _ rfl
      have hc1 := hc 1 _ rfl
      simp only [Nat.add_zero] at hc0 hc1
      have hkd := bounds_u8 hwf.1
      simp only at hd hkd
      have hkl' : (k : Int) < (len : Int) := by omega
      clear hc hwf HR
      have hg0 := (hblk.alloc (.cells #[.int .u8 kd, .int .i64 n] 41)).facts
      obtain ⟨cg, fg⟩ := hg0
      have hgl := hblk.lt
      have hga := hblk.alloc (.cells #[.int .u8 kd, .int .i64 n] 41)
      have hkc : kd = 0 ∨ kd = 1 ∨ kd = 2 ∨ kd = 3 ∨ (¬ kd = 0 ∧ ¬ kd = 1 ∧ ¬ kd = 2 ∧ ¬ kd = 3) := by omega
      rcases hkc with rfl | rfl | rfl | rfl | ⟨k0, k1, k2, k3⟩
      · have hst : stepW a 0 n = ((takeW a n).1, if (takeW a n).2 = true then 0 else 3) := rfl
        rw [hst] at hd
        have HK := Lib.hid (clo_take w.heap.size a n _ hga)
        generalize (takeW a n).1 = x at hd HK
        generalize (if (takeW a n).2 = true then (0 : Int) else 3) = c at hd HK
        by_cases hcz : c = 0
        · subst hcz
          have HD : Hid (runW (l.drop (k + 1)) x = R) := by rw [hd]; rfl
          clear hd hst
          go_wp2_with fail
          refine HK.out.mono ?_
          rintro e w' ⟨rfl, rfl⟩
          go_wp2_with fail
          go_roundw
          case rel => exact ⟨k + 1, x, by omega, by go_num, HD, Blk.alloc (by simpa using hblk.set_ 0 (.int .i64 x)) _, lo_alloc (lo_set hbel (Nat.le_refl _) _) _⟩
          case measure => simp [intOf]; omega
        · have hRR : R = (x, c) := by rw [hd]; exact if_neg hcz
          have hcb : (c != 0) = true := by simpa using hcz
          subst hRR
          clear hd hst
          go_wp2_with fail
          refine HK.out.mono ?_
          rintro e w' ⟨rfl, rfl⟩
          have hset : Blk (wr.setCell ⟨w.heap.size, 0, none⟩ (.int .i64 x)) w.heap.size 3 #[.int .i64 x] := by simpa using hblk.set_ 0 (.int .i64 x)
          obtain ⟨cz, fz⟩ := (hset.alloc (.cells #[.int .u8 0, .int .i64 n] 41)).facts
          clear cg fg
          go_wp2_with fail
          go_ret2
          exact ⟨rfl, lo_alloc (lo_set hbel (Nat.le_refl _) _) _⟩
      · have hst : stepW a 1 n = giveW a n := rfl
        rw [hst] at hd
        have HK1 := Lib.hid (give_any a n)
        generalize giveW a n = r at hd HK1
        obtain ⟨x, c⟩ := r
        have HK2 := Lib.hid (clo_keep w.heap.size a x c _ hga)
        simp only at hd HK1
        by_cases hcz : c = 0
        · subst hcz
          have HD : Hid (runW (l.drop (k + 1)) x = R) := by rw [hd]; rfl
          clear hd hst
          go_wp2_with fail
          refine (HK1.out _).mono ?_
          rintro e w' ⟨rfl, rfl⟩
          go_wp2_with fail
          refine HK2.out.mono ?_
          rintro e w' ⟨rfl, rfl⟩
          go_wp2_with fail
          go_roundw
          case rel => exact ⟨k + 1, x, by omega, by go_num, HD, Blk.alloc (by simpa using hblk.set_ 0 (.int .i64 x)) _, lo_alloc (lo_set hbel (Nat.le_refl _) _) _⟩
          case measure => simp [intOf]; omega
        · have hRR : R = (x, c) := by rw [hd]; exact if_neg hcz
          have hcb : (c != 0) = true := by simpa using hcz
          subst hRR
          clear hd hst
          go_wp2_with fail
          refine (HK1.out _).mono ?_
          rintro e w' ⟨rfl, rfl⟩
          go_wp2_with fail
          refine HK2.out.mono ?_
          rintro e w' ⟨rfl, rfl⟩
          have hset : Blk (wr.setCell ⟨w.heap.size, 0, none⟩ (.int .i64 x)) w.heap.size 3 #[.int .i64 x] := by simpa using hblk.set_ 0 (.int .i64 x)
          obtain ⟨cz, fz⟩ := (hset.alloc (.cells #[.int .u8 1, .int .i64 n] 41)).facts
          clear cg fg
          go_wp2_with fail
          go_ret2
          exact ⟨rfl, lo_alloc (lo_set hbel (Nat.le_refl _) _) _⟩
      · have hst : stepW a 2 n = shiftW a 0 n := rfl
        rw [hst] at hd
        have HK1 := Lib.hid (shift_any a 0 n)
        generalize shiftW a 0 n = r at hd HK1
        obtain ⟨x, c⟩ := r
        have HK2 := Lib.hid (clo_keep w.heap.size a x c _ hga)
        simp only at hd HK1
        by_cases hcz : c = 0
        · subst hcz
          have HD : Hid (runW (l.drop (k + 1)) x = R) := by rw [hd]; rfl
          clear hd hst
          go_wp2_with fail
          refine (HK1.out _).mono ?_
          rintro e w' ⟨rfl, rfl⟩
          go_wp2_with fail
          refine HK2.out.mono ?_
          rintro e w' ⟨rfl, rfl⟩
          go_wp2_with fail
          go_roundw
          case rel => exact ⟨k + 1, x, by omega, by go_num, HD, Blk.alloc (by simpa using hblk.set_ 0 (.int .i64 x)) _, lo_alloc (lo_set hbel (Nat.le_refl _) _) _⟩
          case measure => simp [intOf]; omega
        · have hRR : R = (x, c) := by rw [hd]; exact if_neg hcz
          have hcb : (c != 0) = true := by simpa using hcz
          subst hRR
          clear hd hst
          go_wp2_with fail
          refine (HK1.out _).mono ?_
          rintro e w' ⟨rfl, rfl⟩
          go_wp2_with fail
          refine HK2.out.mono ?_
          rintro e w' ⟨rfl, rfl⟩
          have hset : Blk (wr.setCell ⟨w.heap.size, 0, none⟩ (.int .i64 x)) w.heap.size 3 #[.int .i64 x] := by simpa using hblk.set_ 0 (.int .i64 x)
          obtain ⟨cz, fz⟩ := (hset.alloc (.cells #[.int .u8 2, .int .i64 n] 41)).facts
          clear cg fg
          go_wp2_with fail
          go_ret2
          exact ⟨rfl, lo_alloc (lo_set hbel (Nat.le_refl _) _) _⟩
      · have hst : stepW a 3 n = shiftW a n 0 := rfl
        rw [hst] at hd
        have HK1 := Lib.hid (shift_any a n 0)
        generalize shiftW a n 0 = r at hd HK1
        obtain ⟨x, c⟩ := r
        have HK2 := Lib.hid (clo_keep w.heap.size a x c _ hga)
        simp only at hd HK1
        by_cases hcz : c = 0
        · subst hcz
          have HD : Hid (runW (l.drop (k + 1)) x = R) := by rw [hd]; rfl
          clear hd hst
          go_wp2_with fail
          refine (HK1.out _).mono ?_
          rintro e w' ⟨rfl, rfl⟩
          go_wp2_with fail
          refine HK2.out.mono ?_
          rintro e w' ⟨rfl, rfl⟩
          go_wp2_with fail
          go_roundw
          case rel => exact ⟨k + 1, x, by omega, by go_num, HD, Blk.alloc (by simpa using hblk.set_ 0 (.int .i64 x)) _, lo_alloc (lo_set hbel (Nat.le_refl _) _) _⟩
          case measure => simp [intOf]; omega
        · have hRR : R = (x, c) := by rw [hd]; exact if_neg hcz
          have hcb : (c != 0) = true := by simpa using hcz
          subst hRR
          clear hd hst
          go_wp2_with fail
          refine (HK1.out _).mono ?_
          rintro e w' ⟨rfl, rfl⟩
          go_wp2_with fail
          refine HK2.out.mono ?_
          rintro e w' ⟨rfl, rfl⟩
          have hset : Blk (wr.setCell ⟨w.heap.size, 0, none⟩ (.int .i64 x)) w.heap.size 3 #[.int .i64 x] := by simpa using hblk.set_ 0 (.int .i64 x)
          obtain ⟨cz, fz⟩ := (hset.alloc (.cells #[.int .u8 3, .int .i64 n] 41)).facts
          clear cg fg
          go_wp2_with fail
          go_ret2
          exact ⟨rfl, lo_alloc (lo_set hbel (Nat.le_refl _) _) _⟩
      · have hst : stepW a kd n = (a, 0) := by unfold stepW; rw [if_neg k0, if_neg k1, if_neg k2, if_neg k3]
        rw [hst] at hd
        have HD : Hid (runW (l.drop (k + 1)) a = R) := by rw [hd]; rfl
        have b0 : (kd == 0) = false := by simpa using k0
        have b1 : (kd == 1) = false := by simpa using k1
        have b2 : (kd == 2) = false := by simpa using k2
        have b3 : (kd == 3) = false := by simpa using k3
        clear hd hst k0 k1 k2 k3
        go_wp2_with fail
        go_roundw
        case rel => exact ⟨k + 1, a, by omega, by go_num, HD, hblk.alloc _, lo_alloc hbel _⟩
        case measure => simp [intOf]; omega
    · obtain rfl : k = len := by omega
      have hRR : R = (a, 0) := by
        rw [← HR.out, List.drop_eq_nil_of_le (by omega)]
        rfl
      subst hRR
      obtain ⟨cg, fg⟩ := hblk.facts
      clear HR
      go_wp2_with fail
      go_ret2
      exact ⟨rfl, hbel⟩
end Go.Proofs.Ytlgkpogbnkpghaa
