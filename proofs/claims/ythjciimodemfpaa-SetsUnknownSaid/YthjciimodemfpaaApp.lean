import Derived.Test.YthjciimodemfpaaChk
import Derived.Test.YthjciimodemfpaaSame
import Derived.Test.YthjciimodemfpaaUntil
namespace Go.Proofs.Ythjciimodemfpaa
open Go.RowKit
attribute [local go_sem ↓] Go.wp_at_zero Go.wp_at_succ

theorem getop {l : List Oper} {i : Nat} {o : Oper} (h : l[i]? = some o) : l.toArray[i]? = some o := by simpa using h
theorem set_1 (x : Vs) (n : Int) : setL x 1 n = ⟨n, x.push, x.streams, x.window, x.frame, x.list⟩ := rfl
theorem set_2 (x : Vs) (n : Int) : setL x 2 n = ⟨x.table, n, x.streams, x.window, x.frame, x.list⟩ := rfl
theorem set_3 (x : Vs) (n : Int) : setL x 3 n = ⟨x.table, x.push, n, x.window, x.frame, x.list⟩ := rfl
theorem set_4 (x : Vs) (n : Int) : setL x 4 n = ⟨x.table, x.push, x.streams, n, x.frame, x.list⟩ := rfl
theorem set_5 (x : Vs) (n : Int) : setL x 5 n = ⟨x.table, x.push, x.streams, x.window, n, x.list⟩ := rfl
theorem set_6 (x : Vs) (n : Int) : setL x 6 n = ⟨x.table, x.push, x.streams, x.window, x.frame, n⟩ := rfl
theorem fault_le (id n : Int) : 0 ≤ faultL id n ∧ faultL id n ≤ 3 := by
  unfold faultL
  repeat' split
  all_goals omega
/-- Settings set one by one, till a fault. -/
def goL : List (Int × Int) → Vs → Vs × Int
  | [], x => (x, 0)
  | p :: t, x => if faultL p.1 p.2 = 0 then goL t (setL x p.1 p.2) else (x, faultL p.1 p.2)
theorem go_cons (p : Int × Int) (t : List (Int × Int)) (x : Vs) : goL (p :: t) x = if faultL p.1 p.2 = 0 then goL t (setL x p.1 p.2) else (x, faultL p.1 p.2) := rfl
theorem drop_go (l : List (Int × Int)) (k : Nat) (x : Vs) (h : k < l.length) : goL (l.drop k) x = if faultL l[k].1 l[k].2 = 0 then goL (l.drop (k + 1)) (setL x l[k].1 l[k].2) else (x, faultL l[k].1 l[k].2) := by
  rw [List.drop_eq_getElem_cons h]
  rfl
def finL (v : Vs) (r : Vs × Int) : Vs × Int := if r.2 = 0 then (r.1, 0) else (v, r.2)
theorem fin_ok (v x : Vs) : finL v (x, 0) = (x, 0) := rfl
theorem fin_bad (v x : Vs) {f : Int} (h : f ≠ 0) : finL v (x, f) = (v, f) := if_neg h
/-- What settings make of values. -/
def applyL (v : Vs) (l : List (Int × Int)) : Vs × Int := if v.ok then finL v (goL l v) else (v, 0)
def ApplyPost (w : World) (q : IntKind) (r : Vs × Int) (e : Ending) (w' : World) : Prop := e = .returned (.tuple #[.agg #[.int .i64 r.1.table, .int .i64 r.1.push, .int .i64 r.1.streams, .int .i64 r.1.window, .int .i64 r.1.frame, .int .i64 r.1.list], .int q r.2]) ∧ Below w.heap.size w w'
set_option maxRecDepth 100000 in
set_option maxHeartbeats 3200000 in
theorem apply_any (v : Vs) (A : Option Addr) (len cap : Nat) (l : List (Int × Int)) (w : World) (hl : Prs w A len cap l) : Calls Try.prog 8 #[.agg #[.int .i64 v.table, .int .i64 v.push, .int .i64 v.streams, .int .i64 v.window, .int .i64 v.frame, .int .i64 v.list], .slice A len cap] w (ApplyPost w .u32 (applyL v l)) := by
  have HL := Lib.hid hl
  have hll := hl.1
  have lm : len ≤ 9223372036854775807 := by have h : len ≤ maxLen := Nat.le_trans hl.2.1 hl.2.2.1; unfold maxLen at h; omega
  clear hl
  have hC := check_any v
  have hV := (Blk.new w 26 #[.int .i64 v.table, .int .i64 v.push, .int .i64 v.streams, .int .i64 v.window, .int .i64 v.frame, .int .i64 v.list]).alloc (.cells #[.int .i64 0, .int .i64 0, .int .i64 0, .int .i64 0, .int .i64 0, .int .i64 0] 26)
  have hZ := Blk.new (w.alloc (.cells #[.int .i64 v.table, .int .i64 v.push, .int .i64 v.streams, .int .i64 v.window, .int .i64 v.frame, .int .i64 v.list] 26)) 26 #[.int .i64 0, .int .i64 0, .int .i64 0, .int .i64 0, .int .i64 0, .int .i64 0]
  have hL := lo_alloc (lo_alloc (lo_refl w) (.cells #[.int .i64 v.table, .int .i64 v.push, .int .i64 v.streams, .int .i64 v.window, .int .i64 v.frame, .int .i64 v.list] 26)) (.cells #[.int .i64 0, .int .i64 0, .int .i64 0, .int .i64 0, .int .i64 0, .int .i64 0] 26)
  simp only [World.size_alloc] at hZ
  rcases err_cases v with ⟨hok, he⟩ | ⟨hok, he⟩
  rotate_left
  · have hr : applyL v l = (v, 0) := if_neg hok
    rw [hr]
    rw [he] at hC
    have HC := Lib.hid hC
    clear hC hr he hok
    go_enter Try.func8, Try.ntmps8
    go_wp2_with fail
    refine (HC.out _).mono ?_
    rintro e w1 ⟨rfl, hb⟩
    have hV := hV.lo hb
    have hZ := hZ.lo hb
    have hL := lo_trans hL hb
    clear hb
    obtain ⟨cV, fV⟩ := hV.facts
    obtain ⟨cZ, fZ⟩ := hZ.facts
    have lZ := hZ.lt
    go_wp2_with fail
    refine bodyPost_ret (v := .tuple #[.agg #[.int .i64 v.table, .int .i64 v.push, .int .i64 v.streams, .int .i64 v.window, .int .i64 v.frame, .int .i64 v.list], .int .u32 0]) (by simp [results, Try.results8, go_sem, cZ] <;> rfl) rfl ⟨by first | rfl | (rw [HD.out]; first | rfl | (rw [fin_bad _ _ hfz])), ?_⟩
    have hl := Lib.hid hL
    have hl2 := hl.out
    repeat' (first | with_reducible exact hl2 | with_reducible apply lo_set | (dsimp only; omega) | simp)
  · have hr : applyL v l = finL v (goL l v) := if_pos hok
    rw [hr]
    rw [he] at hC
    have HC := Lib.hid hC
    obtain ⟨R, hR⟩ : ∃ R, goL (l.drop 0) v = R := ⟨_, rfl⟩
    have hR2 : goL l v = R := hR
    rw [hR2]
    have HR := Lib.hid hR
    clear hC hr he hok hR hR2
    go_enter Try.func8, Try.ntmps8
    go_wp2_with fail
    refine (HC.out _).mono ?_
    rintro e w1 ⟨rfl, hb⟩
    have hsz := hb.size
    simp only [World.size_alloc] at hsz
    replace hV := hV.lo hb
    replace hZ := hZ.lo hb
    replace hL := lo_trans hL hb
    clear hb HC
    obtain ⟨cV, fV⟩ := hV.facts
    go_upto_region 4 with fail
    clear cV fV
    have hN := Blk.new w1 26 #[.int .i64 v.table, .int .i64 v.push, .int .i64 v.streams, .int .i64 v.window, .int .i64 v.frame, .int .i64 v.list]
    replace hV := hV.alloc (.cells #[.int .i64 v.table, .int .i64 v.push, .int .i64 v.streams, .int .i64 v.window, .int .i64 v.frame, .int .i64 v.list] 26)
    replace hZ := hZ.alloc (.cells #[.int .i64 v.table, .int .i64 v.push, .int .i64 v.streams, .int .i64 v.window, .int .i64 v.frame, .int .i64 v.list] 26)
    replace hL := lo_alloc hL (.cells #[.int .i64 v.table, .int .i64 v.push, .int .i64 v.streams, .int .i64 v.window, .int .i64 v.frame, .int .i64 v.list] 26)
    generalize w1.heap.size = gn at hN hsz ⊢
    generalize w1.alloc (.cells #[.int .i64 v.table, .int .i64 v.push, .int .i64 v.streams, .int .i64 v.window, .int .i64 v.frame, .int .i64 v.list] 26) = w2 at hN hV hZ hL ⊢
    go_wp2_with fail
    refine (places_any _ _).mono ?_
    rintro e w3 ⟨rfl, hb⟩
    have hgl := hN.lt
    have hsz2 := hb.size
    have hP := Blk.new w3 50 #[.pointer (some ⟨gn, 0, none⟩), .pointer (some ⟨gn, 1, none⟩), .pointer (some ⟨gn, 2, none⟩), .pointer (some ⟨gn, 3, none⟩), .pointer (some ⟨gn, 4, none⟩), .pointer (some ⟨gn, 5, none⟩)]
    replace hN := (hN.lo hb).alloc (.cells #[.pointer (some ⟨gn, 0, none⟩), .pointer (some ⟨gn, 1, none⟩), .pointer (some ⟨gn, 2, none⟩), .pointer (some ⟨gn, 3, none⟩), .pointer (some ⟨gn, 4, none⟩), .pointer (some ⟨gn, 5, none⟩)] 50)
    replace hV := (hV.lo hb).alloc (.cells #[.pointer (some ⟨gn, 0, none⟩), .pointer (some ⟨gn, 1, none⟩), .pointer (some ⟨gn, 2, none⟩), .pointer (some ⟨gn, 3, none⟩), .pointer (some ⟨gn, 4, none⟩), .pointer (some ⟨gn, 5, none⟩)] 50)
    replace hZ := (hZ.lo hb).alloc (.cells #[.pointer (some ⟨gn, 0, none⟩), .pointer (some ⟨gn, 1, none⟩), .pointer (some ⟨gn, 2, none⟩), .pointer (some ⟨gn, 3, none⟩), .pointer (some ⟨gn, 4, none⟩), .pointer (some ⟨gn, 5, none⟩)] 50)
    replace hL := lo_alloc (lo_trans hL hb) (.cells #[.pointer (some ⟨gn, 0, none⟩), .pointer (some ⟨gn, 1, none⟩), .pointer (some ⟨gn, 2, none⟩), .pointer (some ⟨gn, 3, none⟩), .pointer (some ⟨gn, 4, none⟩), .pointer (some ⟨gn, 5, none⟩)] 50)
    clear hb
    go_upto_region 5 with fail
    have hgp : gn < w3.heap.size := by omega
    generalize w3.heap.size = gp at hP hgp ⊢
    generalize w3.alloc (.cells #[.pointer (some ⟨gn, 0, none⟩), .pointer (some ⟨gn, 1, none⟩), .pointer (some ⟨gn, 2, none⟩), .pointer (some ⟨gn, 3, none⟩), .pointer (some ⟨gn, 4, none⟩), .pointer (some ⟨gn, 5, none⟩)] 50) = w4 at hN hV hZ hL hP ⊢
    clear hsz2 hgl
    go_wp2_with fail
    go_loopw [19] (fun y wr => ∃ (k : Nat) (x : Vs), k ≤ len ∧ y = .int .i64 k ∧ Hid (goL (l.drop k) x = R) ∧ Blk wr w.heap.size 26 #[.int .i64 v.table, .int .i64 v.push, .int .i64 v.streams, .int .i64 v.window, .int .i64 v.frame, .int .i64 v.list] ∧ Blk wr (w.heap.size + 1) 26 #[.int .i64 0, .int .i64 0, .int .i64 0, .int .i64 0, .int .i64 0, .int .i64 0] ∧ Blk wr gn 26 #[.int .i64 x.table, .int .i64 x.push, .int .i64 x.streams, .int .i64 x.window, .int .i64 x.frame, .int .i64 x.list] ∧ Blk wr gp 50 #[.pointer (some ⟨gn, 0, none⟩), .pointer (some ⟨gn, 1, none⟩), .pointer (some ⟨gn, 2, none⟩), .pointer (some ⟨gn, 3, none⟩), .pointer (some ⟨gn, 4, none⟩), .pointer (some ⟨gn, 5, none⟩)] ∧ Below w.heap.size w wr) (fun y _ => len - (intOf y).toNat)
    case atStart => exact ⟨0, v, by omega, rfl, HR, hV, hZ, hN, hP, hL⟩
    case round =>
    clear hV hZ hN hP hL
    clear HR
    obtain ⟨k, x, hk, rfl, HR, hV, hZ, hN, hP, hL⟩ := hrel
    by_cases hkl : k < len
    · obtain ⟨b, off, rfl, hlt, hc⟩ := HL.out.2.2.2.2.1 k l[k] (List.getElem?_eq_getElem (by omega))
      have hwf := HL.out.2.2.2.2.2 l[k] (List.getElem_mem _)
      have hd := drop_go l k x (by omega)
      rw [HR.out] at hd
      generalize l[k] = p at hc hwf hd
      obtain ⟨id, n⟩ := p
      have hc0 := ((lo_cell hL).1 b _ hlt).trans (hc 0 _ rfl)
      have hc1 := ((lo_cell hL).1 b _ hlt).trans (hc 1 _ rfl)
      simp only [Nat.add_zero] at hc0 hc1
      obtain ⟨d1, d2⟩ := bounds_u16 hwf.1
      obtain ⟨n1, n2⟩ := bounds_u32 hwf.2
      simp only at hd d1 d2 n1 n2
      have hkl' : (k : Int) < (len : Int) := by omega
      have hlz : b < wr.heap.size := Nat.lt_of_lt_of_le hlt hL.size
      obtain ⟨f, hf⟩ : ∃ f, faultL id n = f := ⟨_, rfl⟩
      have hS := Blk.new wr 47 #[.int .u16 id, .int .u32 n]
      have hV := hV.alloc (.cells #[.int .u16 id, .int .u32 n] 47)
      have hZ := hZ.alloc (.cells #[.int .u16 id, .int .u32 n] 47)
      have hgl : gn < wr.heap.size := hN.lt
      have hpl : gp < wr.heap.size := hP.lt
      have hN := hN.alloc (.cells #[.int .u16 id, .int .u32 n] 47)
      have hP := hP.alloc (.cells #[.int .u16 id, .int .u32 n] 47)
      have hL := lo_alloc hL (.cells #[.int .u16 id, .int .u32 n] 47)
      have h := fault_any id n
      rw [hf] at h hd
      have HF := Lib.hid h
      clear h hc hwf hf HR
      have Hd := Lib.hid hd
      clear hd
      go_upto_region 8 with fail
      clear hc0 hc1 hlz
      generalize wr.heap.size = gs at hS hgl hpl ⊢
      generalize wr.alloc (.cells #[.int .u16 id, .int .u32 n] 47) = w5 at hS hV hZ hN hP hL ⊢
      obtain ⟨cS, fS⟩ := hS.facts
      by_cases hfz : f = 0
      · subst hfz
        have HD : Hid (goL (l.drop (k + 1)) (setL x id n) = R) := by have := Hd.out; rw [if_pos rfl] at this; exact this.symm
        clear Hd
        by_cases i1 : id = 1
        · subst i1
          rw [set_1] at HD
          have lS := hS.lt
          have lN := hN.lt
          obtain ⟨cP, fP⟩ := hP.facts
          obtain ⟨cN, fN⟩ := hN.facts
          go_upto_region 12 with (go_at_call 20; refine (HF.out _).mono ?_; rintro e w' ⟨rfl, rfl⟩)
          go_region
          clear cS fS cP fP cN fN lN lS
          have hV := (hV.far (p := ⟨gn, 0, none⟩) (by dsimp only; omega) (.int .i64 n)).drew
          have hZ := (hZ.far (p := ⟨gn, 0, none⟩) (by dsimp only; omega) (.int .i64 n)).drew
          have hP := (hP.far (p := ⟨gn, 0, none⟩) (by dsimp only; omega) (.int .i64 n)).drew
          have hN := (hN.set_ 0 (.int .i64 n)).drew
          have hL := lo_drew (lo_set hL (p := ⟨gn, 0, none⟩) (by dsimp only; omega) (.int .i64 n))
          go_wp2_with fail
          go_roundw
          case rel => exact ⟨k + 1, ⟨n, x.push, x.streams, x.window, x.frame, x.list⟩, by omega, by go_num, HD, hV, hZ, hN, hP, hL⟩
          case measure => simp [intOf]; omega
        by_cases i2 : id = 2
        · subst i2
          rw [set_2] at HD
          have lS := hS.lt
          have lN := hN.lt
          obtain ⟨cP, fP⟩ := hP.facts
          obtain ⟨cN, fN⟩ := hN.facts
          go_upto_region 12 with (go_at_call 20; refine (HF.out _).mono ?_; rintro e w' ⟨rfl, rfl⟩)
          go_region
          clear cS fS cP fP cN fN lN lS
          have hV := (hV.far (p := ⟨gn, 1, none⟩) (by dsimp only; omega) (.int .i64 n)).drew
          have hZ := (hZ.far (p := ⟨gn, 1, none⟩) (by dsimp only; omega) (.int .i64 n)).drew
          have hP := (hP.far (p := ⟨gn, 1, none⟩) (by dsimp only; omega) (.int .i64 n)).drew
          have hN := (hN.set_ 1 (.int .i64 n)).drew
          have hL := lo_drew (lo_set hL (p := ⟨gn, 1, none⟩) (by dsimp only; omega) (.int .i64 n))
          go_wp2_with fail
          go_roundw
          case rel => exact ⟨k + 1, ⟨x.table, n, x.streams, x.window, x.frame, x.list⟩, by omega, by go_num, HD, hV, hZ, hN, hP, hL⟩
          case measure => simp [intOf]; omega
        by_cases i3 : id = 3
        · subst i3
          rw [set_3] at HD
          have lS := hS.lt
          have lN := hN.lt
          obtain ⟨cP, fP⟩ := hP.facts
          obtain ⟨cN, fN⟩ := hN.facts
          go_upto_region 12 with (go_at_call 20; refine (HF.out _).mono ?_; rintro e w' ⟨rfl, rfl⟩)
          go_region
          clear cS fS cP fP cN fN lN lS
          have hV := (hV.far (p := ⟨gn, 2, none⟩) (by dsimp only; omega) (.int .i64 n)).drew
          have hZ := (hZ.far (p := ⟨gn, 2, none⟩) (by dsimp only; omega) (.int .i64 n)).drew
          have hP := (hP.far (p := ⟨gn, 2, none⟩) (by dsimp only; omega) (.int .i64 n)).drew
          have hN := (hN.set_ 2 (.int .i64 n)).drew
          have hL := lo_drew (lo_set hL (p := ⟨gn, 2, none⟩) (by dsimp only; omega) (.int .i64 n))
          go_wp2_with fail
          go_roundw
          case rel => exact ⟨k + 1, ⟨x.table, x.push, n, x.window, x.frame, x.list⟩, by omega, by go_num, HD, hV, hZ, hN, hP, hL⟩
          case measure => simp [intOf]; omega
        by_cases i4 : id = 4
        · subst i4
          rw [set_4] at HD
          have lS := hS.lt
          have lN := hN.lt
          obtain ⟨cP, fP⟩ := hP.facts
          obtain ⟨cN, fN⟩ := hN.facts
          go_upto_region 12 with (go_at_call 20; refine (HF.out _).mono ?_; rintro e w' ⟨rfl, rfl⟩)
          go_region
          clear cS fS cP fP cN fN lN lS
          have hV := (hV.far (p := ⟨gn, 3, none⟩) (by dsimp only; omega) (.int .i64 n)).drew
          have hZ := (hZ.far (p := ⟨gn, 3, none⟩) (by dsimp only; omega) (.int .i64 n)).drew
          have hP := (hP.far (p := ⟨gn, 3, none⟩) (by dsimp only; omega) (.int .i64 n)).drew
          have hN := (hN.set_ 3 (.int .i64 n)).drew
          have hL := lo_drew (lo_set hL (p := ⟨gn, 3, none⟩) (by dsimp only; omega) (.int .i64 n))
          go_wp2_with fail
          go_roundw
          case rel => exact ⟨k + 1, ⟨x.table, x.push, x.streams, n, x.frame, x.list⟩, by omega, by go_num, HD, hV, hZ, hN, hP, hL⟩
          case measure => simp [intOf]; omega
        by_cases i5 : id = 5
        · subst i5
          rw [set_5] at HD
          have lS := hS.lt
          have lN := hN.lt
          obtain ⟨cP, fP⟩ := hP.facts
          obtain ⟨cN, fN⟩ := hN.facts
          go_upto_region 12 with (go_at_call 20; refine (HF.out _).mono ?_; rintro e w' ⟨rfl, rfl⟩)
          go_region
          clear cS fS cP fP cN fN lN lS
          have hV := (hV.far (p := ⟨gn, 4, none⟩) (by dsimp only; omega) (.int .i64 n)).drew
          have hZ := (hZ.far (p := ⟨gn, 4, none⟩) (by dsimp only; omega) (.int .i64 n)).drew
          have hP := (hP.far (p := ⟨gn, 4, none⟩) (by dsimp only; omega) (.int .i64 n)).drew
          have hN := (hN.set_ 4 (.int .i64 n)).drew
          have hL := lo_drew (lo_set hL (p := ⟨gn, 4, none⟩) (by dsimp only; omega) (.int .i64 n))
          go_wp2_with fail
          go_roundw
          case rel => exact ⟨k + 1, ⟨x.table, x.push, x.streams, x.window, n, x.list⟩, by omega, by go_num, HD, hV, hZ, hN, hP, hL⟩
          case measure => simp [intOf]; omega
        by_cases i6 : id = 6
        · subst i6
          rw [set_6] at HD
          have lS := hS.lt
          have lN := hN.lt
          obtain ⟨cP, fP⟩ := hP.facts
          obtain ⟨cN, fN⟩ := hN.facts
          go_upto_region 12 with (go_at_call 20; refine (HF.out _).mono ?_; rintro e w' ⟨rfl, rfl⟩)
          go_region
          clear cS fS cP fP cN fN lN lS
          have hV := (hV.far (p := ⟨gn, 5, none⟩) (by dsimp only; omega) (.int .i64 n)).drew
          have hZ := (hZ.far (p := ⟨gn, 5, none⟩) (by dsimp only; omega) (.int .i64 n)).drew
          have hP := (hP.far (p := ⟨gn, 5, none⟩) (by dsimp only; omega) (.int .i64 n)).drew
          have hN := (hN.set_ 5 (.int .i64 n)).drew
          have hL := lo_drew (lo_set hL (p := ⟨gn, 5, none⟩) (by dsimp only; omega) (.int .i64 n))
          go_wp2_with fail
          go_roundw
          case rel => exact ⟨k + 1, ⟨x.table, x.push, x.streams, x.window, x.frame, n⟩, by omega, by go_num, HD, hV, hZ, hN, hP, hL⟩
          case measure => simp [intOf]; omega
        have hno : ¬ (1 ≤ id ∧ id ≤ 6) := by omega
        rw [set_other x n hno] at HD
        have hcs : id < 1 ∨ (¬ id < 1 ∧ 6 < id) := by omega
        have lS := hS.lt
        clear i1 i2 i3 i4 i5 i6 hno
        rcases hcs with hi | ⟨hi, hj⟩
        all_goals
          go_wp2_with (go_at_call 20; refine (HF.out _).mono ?_; rintro e w' ⟨rfl, rfl⟩)
          go_roundw
          case rel => exact ⟨k + 1, x, by omega, by go_num, HD, hV, hZ, hN, hP, hL⟩
          case measure => simp [intOf]; omega
      · have HD : Hid (R = (x, f)) := by have := Hd.out; rw [if_neg hfz] at this; exact Lib.hid this
        clear Hd
        obtain ⟨cV, fV⟩ := hV.facts
        obtain ⟨cZ, fZ⟩ := hZ.facts
        have lZ := hZ.lt
        have lS := hS.lt
        go_wp2_with (go_at_call 20; refine (HF.out _).mono ?_; rintro e w' ⟨rfl, rfl⟩)
        refine bodyPost_ret (v := .tuple #[.agg #[.int .i64 v.table, .int .i64 v.push, .int .i64 v.streams, .int .i64 v.window, .int .i64 v.frame, .int .i64 v.list], .int .u32 f]) (by simp [results, Try.results8, go_sem, cZ] <;> rfl) rfl ⟨by first | rfl | (rw [HD.out]; first | rfl | (rw [fin_bad _ _ hfz])), ?_⟩
        have hl := Lib.hid hL
        have hl2 := hl.out
        repeat' (first | with_reducible exact hl2 | with_reducible apply lo_set | (dsimp only; omega) | simp)
    · have hkl' : ¬ (k : Int) < (len : Int) := by omega
      have hke : k = len := by omega
      subst hke
      have HD : Hid (R = (x, 0)) := by have := HR.out; rw [List.drop_eq_nil_of_le (by omega), goL] at this; exact Lib.hid this.symm
      obtain ⟨cN, fN⟩ := hN.facts
      obtain ⟨cZ, fZ⟩ := hZ.facts
      have lZ := hZ.lt
      go_wp2_with fail
      refine bodyPost_ret (v := .tuple #[.agg #[.int .i64 x.table, .int .i64 x.push, .int .i64 x.streams, .int .i64 x.window, .int .i64 x.frame, .int .i64 x.list], .int .u32 0]) (by simp [results, Try.results8, go_sem, cZ] <;> rfl) rfl ⟨by first | rfl | (rw [HD.out]; first | rfl | (rw [fin_bad _ _ hfz])), ?_⟩
      have hl := Lib.hid hL
      have hl2 := hl.out
      repeat' (first | with_reducible exact hl2 | with_reducible apply lo_set | (dsimp only; omega) | simp)
end Go.Proofs.Ythjciimodemfpaa
