import Derived.Test.YthjciimodemfpaaApp
namespace Go.Proofs.Ythjciimodemfpaa
open Go.RowKit
attribute [local go_sem ↓] Go.wp_at_zero Go.wp_at_succ

set_option maxRecDepth 100000 in
set_option maxHeartbeats 3200000 in
theorem apply_ref (v : Vs) (A : Option Addr) (len cap : Nat) (l : List (Int × Int)) (w : World) (hl : Prs w A len cap l) : Calls Try.prog 9 #[.agg #[.int .i64 v.table, .int .i64 v.push, .int .i64 v.streams, .int .i64 v.window, .int .i64 v.frame, .int .i64 v.list], .slice A len cap] w (ApplyPost w .i64 (applyL v l)) := by
  have HL := Lib.hid hl
  have hll := hl.1
  have lm : len ≤ 9223372036854775807 := by have h : len ≤ maxLen := Nat.le_trans hl.2.1 hl.2.2.1; unfold maxLen at h; omega
  clear hl
  have hC := check_ref v
  have hV := (Blk.new w 23 #[.int .i64 v.table, .int .i64 v.push, .int .i64 v.streams, .int .i64 v.window, .int .i64 v.frame, .int .i64 v.list]).alloc (.cells #[.int .i64 0, .int .i64 0, .int .i64 0, .int .i64 0, .int .i64 0, .int .i64 0] 23)
  have hZ := Blk.new (w.alloc (.cells #[.int .i64 v.table, .int .i64 v.push, .int .i64 v.streams, .int .i64 v.window, .int .i64 v.frame, .int .i64 v.list] 23)) 23 #[.int .i64 0, .int .i64 0, .int .i64 0, .int .i64 0, .int .i64 0, .int .i64 0]
  have hL := lo_alloc (lo_alloc (lo_refl w) (.cells #[.int .i64 v.table, .int .i64 v.push, .int .i64 v.streams, .int .i64 v.window, .int .i64 v.frame, .int .i64 v.list] 23)) (.cells #[.int .i64 0, .int .i64 0, .int .i64 0, .int .i64 0, .int .i64 0, .int .i64 0] 23)
  simp only [World.size_alloc] at hZ
  rcases err_cases v with ⟨hok, he⟩ | ⟨hok, he⟩
  rotate_left
  · have hr : applyL v l = (v, 0) := if_neg hok
    rw [hr]
    rw [he] at hC
    have HC := Lib.hid hC
    clear hC hr he hok
    go_enter Try.func9, Try.ntmps9
    go_wp2_with fail
    refine (HC.out _).mono ?_
    rintro e w1 ⟨rfl, hb⟩
    have hV := hV.lo hb
    have hZ := hZ.lo hb
    have hL := lo_trans hL hb
    clear hb
    obtain ⟨cV, fV⟩ := hV.facts
    obtain ⟨cZ, fZ⟩ := hZ.facts
    have lZ := hZ.lt
    go_wp2_with fail
    refine bodyPost_ret (v := .tuple #[.agg #[.int .i64 v.table, .int .i64 v.push, .int .i64 v.streams, .int .i64 v.window, .int .i64 v.frame, .int .i64 v.list], .int .i64 0]) (by simp [results, Try.results9, go_sem, cZ] <;> rfl) rfl ⟨by first | rfl | (rw [HD.out]; first | rfl | (rw [fin_bad _ _ hfz])), ?_⟩
    have hl := Lib.hid hL
    have hl2 := hl.out
    repeat' (first | with_reducible exact hl2 | with_reducible apply lo_set | (dsimp only; omega) | simp)
  · have hr : applyL v l = finL v (goL l v) := if_pos hok
    rw [hr]
    rw [he] at hC
    have HC := Lib.hid hC
    obtain ⟨R, hR⟩ : ∃ R, goL (l.drop 0) v = R := ⟨_, rfl⟩
    have hR2 : goL l v = R := hR
    rw [hR2]
    have HR := Lib.hid hR
    clear hC hr he hok hR hR2
    go_enter Try.func9, Try.ntmps9
    go_wp2_with fail
    refine (HC.out _).mono ?_
    rintro e w1 ⟨rfl, hb⟩
    have hsz := hb.size
    simp only [World.size_alloc] at hsz
    replace hV := hV.lo hb
    replace hZ := hZ.lo hb
    replace hL := lo_trans hL hb
    clear hb HC
    obtain ⟨cV, fV⟩ := hV.facts
    go_upto_region 4 with fail
    clear cV fV
    have hN := Blk.new w1 23 #[.int .i64 v.table, .int .i64 v.push, .int .i64 v.streams, .int .i64 v.window, .int .i64 v.frame, .int .i64 v.list]
    replace hV := hV.alloc (.cells #[.int .i64 v.table, .int .i64 v.push, .int .i64 v.streams, .int .i64 v.window, .int .i64 v.frame, .int .i64 v.list] 23)
    replace hZ := hZ.alloc (.cells #[.int .i64 v.table, .int .i64 v.push, .int .i64 v.streams, .int .i64 v.window, .int .i64 v.frame, .int .i64 v.list] 23)
    replace hL := lo_alloc hL (.cells #[.int .i64 v.table, .int .i64 v.push, .int .i64 v.streams, .int .i64 v.window, .int .i64 v.frame, .int .i64 v.list] 23)
    generalize w1.heap.size = gn at hN hsz ⊢
    generalize w1.alloc (.cells #[.int .i64 v.table, .int .i64 v.push, .int .i64 v.streams, .int .i64 v.window, .int .i64 v.frame, .int .i64 v.list] 23) = w2 at hN hV hZ hL ⊢
    go_wp2_with fail
    go_loopw [7] (fun y wr => ∃ (k : Nat) (x : Vs), k ≤ len ∧ y = .int .i64 k ∧ Hid (goL (l.drop k) x = R) ∧ Blk wr w.heap.size 23 #[.int .i64 v.table, .int .i64 v.push, .int .i64 v.streams, .int .i64 v.window, .int .i64 v.frame, .int .i64 v.list] ∧ Blk wr (w.heap.size + 1) 23 #[.int .i64 0, .int .i64 0, .int .i64 0, .int .i64 0, .int .i64 0, .int .i64 0] ∧ Blk wr gn 23 #[.int .i64 x.table, .int .i64 x.push, .int .i64 x.streams, .int .i64 x.window, .int .i64 x.frame, .int .i64 x.list] ∧ Below w.heap.size w wr) (fun y _ => len - (intOf y).toNat)
    case atStart => exact ⟨0, v, by omega, rfl, HR, hV, hZ, hN, hL⟩
    case round =>
    clear hV hZ hN hL
    clear HR
    obtain ⟨k, x, hk, rfl, HR, hV, hZ, hN, hL⟩ := hrel
    by_cases hkl : k < len
    · obtain ⟨b, off, rfl, hlt, hc⟩ := HL.out.2.2.2.2.1 k l[k] (List.getElem?_eq_getElem (by omega))
      have hwf := HL.out.2.2.2.2.2 l[k] (List.getElem_mem _)
      have hd := drop_go l k x (by omega)
      rw [HR.out] at hd
      generalize l[k] = p at hc hwf hd
      obtain ⟨id, n⟩ := p
      have hc0 := ((lo_cell hL).1 b _ hlt).trans (hc 0 _ rfl)
      have hc1 := ((lo_cell hL).1 b _ hlt).trans (hc 1 _ rfl)
      simp only [Nat.add_zero] at hc0 hc1
      obtain ⟨d1, d2⟩ := bounds_u16 hwf.1
      obtain ⟨n1, n2⟩ := bounds_u32 hwf.2
      simp only at hd d1 d2 n1 n2
      have hkl' : (k : Int) < (len : Int) := by omega
      have hlz : b < wr.heap.size := Nat.lt_of_lt_of_le hlt hL.size
      obtain ⟨f, hf⟩ : ∃ f, faultL id n = f := ⟨_, rfl⟩
      have h := fault_ref id n n1 n2
      rw [hf] at h hd
      have HF := Lib.hid h
      have Hc : Hid (w.cell? ⟨b, off + k * 2, none⟩ = some (.int .u16 id) ∧ w.cell? ⟨b, off + k * 2 + 1, none⟩ = some (.int .u32 n)) := Lib.hid ⟨hc 0 _ rfl, hc 1 _ rfl⟩
      clear h hc hwf hf HR
      have Hd := Lib.hid hd
      clear hd
      go_wp2_with fail
      refine (HF.out _).mono ?_
      rintro e wq ⟨rfl, hb⟩
      replace hV := hV.lo hb
      replace hZ := hZ.lo hb
      replace hN := hN.lo hb
      replace hL := lo_trans hL hb
      clear hb hc0 hc1 hlz
      by_cases hfz : f = 0
      · subst hfz
        have HD : Hid (goL (l.drop (k + 1)) (setL x id n) = R) := by have := Hd.out; rw [if_pos rfl] at this; exact this.symm
        have h := set_ref x id n n1 n2
        generalize setL x id n = y at h HD
        have HS := Lib.hid h
        clear Hd h HF
        go_upto_region 9 with fail
        refine wp_region_until (S := (fun W => W.cell? ⟨gn, 0, none⟩ = some (.int .i64 x.table) ∧ W.cell? ⟨gn, 1, none⟩ = some (.int .i64 x.push) ∧ W.cell? ⟨gn, 2, none⟩ = some (.int .i64 x.streams) ∧ W.cell? ⟨gn, 3, none⟩ = some (.int .i64 x.window) ∧ W.cell? ⟨gn, 4, none⟩ = some (.int .i64 x.frame) ∧ W.cell? ⟨gn, 5, none⟩ = some (.int .i64 x.list) ∧ gn < W.heap.size)) (S2 := (fun W => W.cell? ⟨b, off + k * 2, none⟩ = some (.int .u16 id) ∧ W.cell? ⟨b, off + k * 2 + 1, none⟩ = some (.int .u32 n) ∧ b < W.heap.size)) 5 (by kernel_rfl) ?_
        have hV : Blk wq.drew _ _ _ := hV
        have hZ : Blk wq.drew _ _ _ := hZ
        have hN : Blk wq.drew _ _ _ := hN
        have hL := lo_drew hL
        generalize wq.drew = wd at hV hZ hN hL ⊢
        have hG : (fun W => W.cell? ⟨b, off + k * 2, none⟩ = some (.int .u16 id) ∧ W.cell? ⟨b, off + k * 2 + 1, none⟩ = some (.int .u32 n) ∧ b < W.heap.size) wd ∧ (fun W => W.cell? ⟨gn, 0, none⟩ = some (.int .i64 x.table) ∧ W.cell? ⟨gn, 1, none⟩ = some (.int .i64 x.push) ∧ W.cell? ⟨gn, 2, none⟩ = some (.int .i64 x.streams) ∧ W.cell? ⟨gn, 3, none⟩ = some (.int .i64 x.window) ∧ W.cell? ⟨gn, 4, none⟩ = some (.int .i64 x.frame) ∧ W.cell? ⟨gn, 5, none⟩ = some (.int .i64 x.list) ∧ gn < W.heap.size) wd := by have q := hN.facts.1; exact ⟨⟨((lo_cell hL).1 b _ hlt).trans Hc.out.1, ((lo_cell hL).1 b _ hlt).trans Hc.out.2, Nat.lt_of_lt_of_le hlt hL.size⟩, q 0, q 1, q 2, q 3, q 4, q 5, hN.lt⟩
        dsimp only at hG
        (refine until_take (i := 0) (oi := _) (op := _) (v := ?_) (getop rfl) (getop rfl) (by kernel_rfl) (by decide) (by kernel_rfl) (by kernel_rfl) (by kernel_rfl) (by kernel_rfl) (fun _ _ _ h => h) (Or.inl ⟨by rfl, ?_⟩) hG ?_; rotate_left; focus (intro w hSw; (try dsimp only at hSw); (try obtain ⟨hSa, hSb⟩ := hSw); go_simp; (try with_reducible rfl); done))
        (try simp only [Act.put, List.setIfInBounds_toArray, List.set_cons_zero, List.set_cons_succ])
        (refine until_take2 (i := 1) (oi := _) (v := ?_) (getop rfl) (by decide) (by kernel_rfl) (by kernel_rfl) (by kernel_rfl) (fun _ _ _ h => h) (Or.inl ⟨by rfl, ?_⟩) ⟨hG.1, Or.inr hG.2⟩ ?_; rotate_left; focus (intro w hSw; (try dsimp only at hSw); (try obtain ⟨hSa, hSb⟩ := hSw); go_simp; (try with_reducible rfl); done))
        (try simp only [Act.put, List.setIfInBounds_toArray, List.set_cons_zero, List.set_cons_succ])
        (refine until_take2 (i := 2) (oi := _) (v := ?_) (getop rfl) (by decide) (by kernel_rfl) (by kernel_rfl) (by kernel_rfl) (fun _ _ _ h => h) (Or.inl ⟨by rfl, ?_⟩) ⟨hG.1, Or.inr hG.2⟩ ?_; rotate_left; focus (intro w hSw; (try dsimp only at hSw); (try obtain ⟨hSa, hSb⟩ := hSw); go_simp; (try with_reducible rfl); done))
        (try simp only [Act.put, List.setIfInBounds_toArray, List.set_cons_zero, List.set_cons_succ])
        (refine until_take2 (i := 3) (oi := _) (v := ?_) (getop rfl) (by decide) (by kernel_rfl) (by kernel_rfl) (by kernel_rfl) (fun _ _ _ h => h) (Or.inl ⟨by rfl, ?_⟩) ⟨hG.1, Or.inr hG.2⟩ ?_; rotate_left; focus (intro w hSw; (try dsimp only at hSw); (try obtain ⟨hSa, hSb⟩ := hSw); go_simp; (try with_reducible rfl); done))
        (try simp only [Act.put, List.setIfInBounds_toArray, List.set_cons_zero, List.set_cons_succ])
        (refine until_take2 (i := 4) (oi := _) (v := ?_) (getop rfl) (by decide) (by kernel_rfl) (by kernel_rfl) (by kernel_rfl) (fun _ _ _ h => h) (Or.inl ⟨by rfl, ?_⟩) ⟨hG.1, Or.inr hG.2⟩ ?_; rotate_left; focus (intro w hSw; (try dsimp only at hSw); (try obtain ⟨hSa, hSb⟩ := hSw); go_simp; (try with_reducible rfl); done))
        (try simp only [Act.put, List.setIfInBounds_toArray, List.set_cons_zero, List.set_cons_succ])
        clear hG
        refine until_step (i := 5) (o := _) (by kernel_rfl) (getop rfl) (by kernel_rfl) (fun K hK => ?_)
        go_simp
        refine (HS.out _).mono ?_
        rintro e wx ⟨rfl, hb⟩
        replace hV := hV.lo hb
        replace hZ := hZ.lo hb
        replace hN := hN.lo hb
        replace hL := lo_trans hL hb
        clear hb
        refine hK.out _ _ ⟨((lo_cell hL).1 b _ hlt).trans Hc.out.1, ((lo_cell hL).1 b _ hlt).trans Hc.out.2, Nat.lt_of_lt_of_le hlt hL.size⟩ ?_
        clear hK K
        (try simp only [Act.put, List.setIfInBounds_toArray, List.set_cons_zero, List.set_cons_succ])
        refine until_step (i := 6) (o := _) (by kernel_rfl) (getop rfl) (by kernel_rfl) (fun K hK => ?_)
        obtain ⟨cN, fN⟩ := hN.facts
        have lN := hN.lt
        go_simp
        clear cN fN lN
        replace hV := hV.far (p := ⟨gn, 0, none⟩) (by dsimp only; omega) (.int .i64 y.table)
        replace hZ := hZ.far (p := ⟨gn, 0, none⟩) (by dsimp only; omega) (.int .i64 y.table)
        replace hN := hN.set_ 0 (.int .i64 y.table)
        replace hL := lo_set hL (p := ⟨gn, 0, none⟩) (by dsimp only; omega) (.int .i64 y.table)
        replace hV := hV.far (p := ⟨gn, 1, none⟩) (by dsimp only; omega) (.int .i64 y.push)
        replace hZ := hZ.far (p := ⟨gn, 1, none⟩) (by dsimp only; omega) (.int .i64 y.push)
        replace hN := hN.set_ 1 (.int .i64 y.push)
        replace hL := lo_set hL (p := ⟨gn, 1, none⟩) (by dsimp only; omega) (.int .i64 y.push)
        replace hV := hV.far (p := ⟨gn, 2, none⟩) (by dsimp only; omega) (.int .i64 y.streams)
        replace hZ := hZ.far (p := ⟨gn, 2, none⟩) (by dsimp only; omega) (.int .i64 y.streams)
        replace hN := hN.set_ 2 (.int .i64 y.streams)
        replace hL := lo_set hL (p := ⟨gn, 2, none⟩) (by dsimp only; omega) (.int .i64 y.streams)
        replace hV := hV.far (p := ⟨gn, 3, none⟩) (by dsimp only; omega) (.int .i64 y.window)
        replace hZ := hZ.far (p := ⟨gn, 3, none⟩) (by dsimp only; omega) (.int .i64 y.window)
        replace hN := hN.set_ 3 (.int .i64 y.window)
        replace hL := lo_set hL (p := ⟨gn, 3, none⟩) (by dsimp only; omega) (.int .i64 y.window)
        replace hV := hV.far (p := ⟨gn, 4, none⟩) (by dsimp only; omega) (.int .i64 y.frame)
        replace hZ := hZ.far (p := ⟨gn, 4, none⟩) (by dsimp only; omega) (.int .i64 y.frame)
        replace hN := hN.set_ 4 (.int .i64 y.frame)
        replace hL := lo_set hL (p := ⟨gn, 4, none⟩) (by dsimp only; omega) (.int .i64 y.frame)
        replace hV := hV.far (p := ⟨gn, 5, none⟩) (by dsimp only; omega) (.int .i64 y.list)
        replace hZ := hZ.far (p := ⟨gn, 5, none⟩) (by dsimp only; omega) (.int .i64 y.list)
        replace hN := hN.set_ 5 (.int .i64 y.list)
        replace hL := lo_set hL (p := ⟨gn, 5, none⟩) (by dsimp only; omega) (.int .i64 y.list)
        have hN2 : Blk ((((((wx.setCell ⟨gn, 0, none⟩ (.int .i64 y.table)).setCell ⟨gn, 1, none⟩ (.int .i64 y.push)).setCell ⟨gn, 2, none⟩ (.int .i64 y.streams)).setCell ⟨gn, 3, none⟩ (.int .i64 y.window)).setCell ⟨gn, 4, none⟩ (.int .i64 y.frame)).setCell ⟨gn, 5, none⟩ (.int .i64 y.list)) gn 23 #[.int .i64 y.table, .int .i64 y.push, .int .i64 y.streams, .int .i64 y.window, .int .i64 y.frame, .int .i64 y.list] := by simpa using hN
        clear hN
        generalize ((((((wx.setCell ⟨gn, 0, none⟩ (.int .i64 y.table)).setCell ⟨gn, 1, none⟩ (.int .i64 y.push)).setCell ⟨gn, 2, none⟩ (.int .i64 y.streams)).setCell ⟨gn, 3, none⟩ (.int .i64 y.window)).setCell ⟨gn, 4, none⟩ (.int .i64 y.frame)).setCell ⟨gn, 5, none⟩ (.int .i64 y.list)) = wy at hV hZ hN2 hL ⊢
        refine hK.out _ _ ⟨((lo_cell hL).1 b _ hlt).trans Hc.out.1, ((lo_cell hL).1 b _ hlt).trans Hc.out.2, Nat.lt_of_lt_of_le hlt hL.size⟩ ?_
        clear hK K
        (try simp only [Act.put, List.setIfInBounds_toArray, List.set_cons_zero, List.set_cons_succ])
        refine until_done (by kernel_rfl) ?_ _
        go_wp2_with fail
        go_roundw
        case rel => exact ⟨k + 1, y, by omega, by go_num, HD, hV, hZ, hN2, hL⟩
        case measure => simp [intOf]; omega
      · have HD : Hid (R = (x, f)) := by have := Hd.out; rw [if_neg hfz] at this; exact Lib.hid this
        clear Hd hN
        go_upto_region 8 with fail
        refine wp_region_held_drew (S := (fun W => W.cell? ⟨w.heap.size, 0, none⟩ = some (.int .i64 v.table) ∧ W.cell? ⟨w.heap.size, 1, none⟩ = some (.int .i64 v.push) ∧ W.cell? ⟨w.heap.size, 2, none⟩ = some (.int .i64 v.streams) ∧ W.cell? ⟨w.heap.size, 3, none⟩ = some (.int .i64 v.window) ∧ W.cell? ⟨w.heap.size, 4, none⟩ = some (.int .i64 v.frame) ∧ W.cell? ⟨w.heap.size, 5, none⟩ = some (.int .i64 v.list) ∧ w.heap.size < W.heap.size ∧ W.cell? ⟨b, off + k * 2, none⟩ = some (.int .u16 id) ∧ W.cell? ⟨b, off + k * 2 + 1, none⟩ = some (.int .u32 n) ∧ b < W.heap.size)) (by kernel_rfl) ?_ (fun hHeld => ?_)
        focus ((try dsimp only); (have q := hV.facts.1; exact ⟨q 0, q 1, q 2, q 3, q 4, q 5, hV.lt, ((lo_cell hL).1 b _ hlt).trans Hc.out.1, ((lo_cell hL).1 b _ hlt).trans Hc.out.2, Nat.lt_of_lt_of_le hlt hL.size⟩))
        first
        | (refine wpAnyH_take (i := 0) (oi := _) (v := ?_) (getop rfl) (by kernel_rfl) (by kernel_rfl) (by kernel_rfl) (fun _ _ _ h => h) (Or.inl ⟨by rfl, ?_⟩) (by assumption) ?_; rotate_left; focus (intro w hSw; (try dsimp only at hSw); go_simp; (try with_reducible rfl); done))
        (try simp only [Act.put, List.setIfInBounds_toArray, List.set_cons_zero, List.set_cons_succ])
        first
        | (refine wpAnyH_take (i := 1) (oi := _) (v := ?_) (getop rfl) (by kernel_rfl) (by kernel_rfl) (by kernel_rfl) (fun _ _ _ h => h) (Or.inl ⟨by rfl, ?_⟩) (by assumption) ?_; rotate_left; focus (intro w hSw; (try dsimp only at hSw); go_simp; (try with_reducible rfl); done))
        (try simp only [Act.put, List.setIfInBounds_toArray, List.set_cons_zero, List.set_cons_succ])
        first
        | (refine wpAnyH_take (i := 2) (oi := _) (v := ?_) (getop rfl) (by kernel_rfl) (by kernel_rfl) (by kernel_rfl) (fun _ _ _ h => h) (Or.inl ⟨by rfl, ?_⟩) (by assumption) ?_; rotate_left; focus (intro w hSw; (try dsimp only at hSw); go_simp; (try with_reducible rfl); done))
        (try simp only [Act.put, List.setIfInBounds_toArray, List.set_cons_zero, List.set_cons_succ])
        first
        | (refine wpAnyH_take (i := 3) (oi := _) (v := ?_) (getop rfl) (by kernel_rfl) (by kernel_rfl) (by kernel_rfl) (fun _ _ _ h => h) (Or.inl ⟨by rfl, ?_⟩) (by assumption) ?_; rotate_left; focus (intro w hSw; (try dsimp only at hSw); go_simp; (try with_reducible rfl); done))
        (try simp only [Act.put, List.setIfInBounds_toArray, List.set_cons_zero, List.set_cons_succ])
        first
        | (refine wpAnyH_take (i := 4) (oi := _) (v := ?_) (getop rfl) (by kernel_rfl) (by kernel_rfl) (by kernel_rfl) (fun _ _ _ h => h) (Or.inl ⟨by rfl, ?_⟩) (by assumption) ?_; rotate_left; focus (intro w hSw; (try dsimp only at hSw); go_simp; (try with_reducible rfl); done))
        (try simp only [Act.put, List.setIfInBounds_toArray, List.set_cons_zero, List.set_cons_succ])
        have hV : Blk wq.drew _ _ _ := hV
        have hZ : Blk wq.drew _ _ _ := hZ
        have hL := lo_drew hL
        generalize wq.drew = wd at hV hZ hL hHeld ⊢
        refine wpAnyH_ready (rs := [5]) (by kernel_rfl) (by simp) ?_
        refine AllReadyH.cons (o := _) (getop rfl) (fun K hK => ?_) AllReadyH.nil
        go_simp
        refine (HF.out _).mono ?_
        rintro e wx ⟨rfl, hb⟩
        have hV := hV.lo hb
        have hZ := hZ.lo hb
        have hL := lo_trans hL hb
        clear hb
        refine hK.out _ _ ?_ (fun hHeld5 => ?_)
        focus ((try dsimp only); (have q := hV.facts.1; exact ⟨q 0, q 1, q 2, q 3, q 4, q 5, hV.lt, ((lo_cell hL).1 b _ hlt).trans Hc.out.1, ((lo_cell hL).1 b _ hlt).trans Hc.out.2, Nat.lt_of_lt_of_le hlt hL.size⟩))
        clear hK K hHeld
        have hHeld := hHeld5
        clear hHeld5
        (try simp only [Act.put, List.setIfInBounds_toArray, List.set_cons_zero, List.set_cons_succ])
        refine wpAnyH_ready (rs := [6]) (by kernel_rfl) (by simp) ?_
        refine AllReadyH.cons (o := _) (getop rfl) (fun K hK => ?_) AllReadyH.nil
        obtain ⟨cZ, fZ⟩ := hZ.facts
        have lZ := hZ.lt
        go_simp
        clear cZ fZ lZ
        replace hV := hV.far (p := ⟨w.heap.size + 1, 0, none⟩) (by dsimp only; omega) (.int .i64 v.table)
        replace hZ := hZ.set_ 0 (.int .i64 v.table)
        replace hL := lo_set hL (p := ⟨w.heap.size + 1, 0, none⟩) (by dsimp only; omega) (.int .i64 v.table)
        replace hV := hV.far (p := ⟨w.heap.size + 1, 1, none⟩) (by dsimp only; omega) (.int .i64 v.push)
        replace hZ := hZ.set_ 1 (.int .i64 v.push)
        replace hL := lo_set hL (p := ⟨w.heap.size + 1, 1, none⟩) (by dsimp only; omega) (.int .i64 v.push)
        replace hV := hV.far (p := ⟨w.heap.size + 1, 2, none⟩) (by dsimp only; omega) (.int .i64 v.streams)
        replace hZ := hZ.set_ 2 (.int .i64 v.streams)
        replace hL := lo_set hL (p := ⟨w.heap.size + 1, 2, none⟩) (by dsimp only; omega) (.int .i64 v.streams)
        replace hV := hV.far (p := ⟨w.heap.size + 1, 3, none⟩) (by dsimp only; omega) (.int .i64 v.window)
        replace hZ := hZ.set_ 3 (.int .i64 v.window)
        replace hL := lo_set hL (p := ⟨w.heap.size + 1, 3, none⟩) (by dsimp only; omega) (.int .i64 v.window)
        replace hV := hV.far (p := ⟨w.heap.size + 1, 4, none⟩) (by dsimp only; omega) (.int .i64 v.frame)
        replace hZ := hZ.set_ 4 (.int .i64 v.frame)
        replace hL := lo_set hL (p := ⟨w.heap.size + 1, 4, none⟩) (by dsimp only; omega) (.int .i64 v.frame)
        replace hV := hV.far (p := ⟨w.heap.size + 1, 5, none⟩) (by dsimp only; omega) (.int .i64 v.list)
        replace hZ := hZ.set_ 5 (.int .i64 v.list)
        replace hL := lo_set hL (p := ⟨w.heap.size + 1, 5, none⟩) (by dsimp only; omega) (.int .i64 v.list)
        have hZ2 : Blk ((((((wx.setCell ⟨w.heap.size + 1, 0, none⟩ (.int .i64 v.table)).setCell ⟨w.heap.size + 1, 1, none⟩ (.int .i64 v.push)).setCell ⟨w.heap.size + 1, 2, none⟩ (.int .i64 v.streams)).setCell ⟨w.heap.size + 1, 3, none⟩ (.int .i64 v.window)).setCell ⟨w.heap.size + 1, 4, none⟩ (.int .i64 v.frame)).setCell ⟨w.heap.size + 1, 5, none⟩ (.int .i64 v.list)) (w.heap.size + 1) 23 #[.int .i64 v.table, .int .i64 v.push, .int .i64 v.streams, .int .i64 v.window, .int .i64 v.frame, .int .i64 v.list] := by simpa using hZ
        clear hZ
        generalize ((((((wx.setCell ⟨w.heap.size + 1, 0, none⟩ (.int .i64 v.table)).setCell ⟨w.heap.size + 1, 1, none⟩ (.int .i64 v.push)).setCell ⟨w.heap.size + 1, 2, none⟩ (.int .i64 v.streams)).setCell ⟨w.heap.size + 1, 3, none⟩ (.int .i64 v.window)).setCell ⟨w.heap.size + 1, 4, none⟩ (.int .i64 v.frame)).setCell ⟨w.heap.size + 1, 5, none⟩ (.int .i64 v.list)) = wy at hV hZ2 hL ⊢
        refine hK.out _ _ ?_ (fun hHeld6 => ?_)
        focus ((try dsimp only); (have q := hV.facts.1; exact ⟨q 0, q 1, q 2, q 3, q 4, q 5, hV.lt, ((lo_cell hL).1 b _ hlt).trans Hc.out.1, ((lo_cell hL).1 b _ hlt).trans Hc.out.2, Nat.lt_of_lt_of_le hlt hL.size⟩))
        clear hK K hHeld
        have hHeld := hHeld6
        clear hHeld6
        (try simp only [Act.put, List.setIfInBounds_toArray, List.set_cons_zero, List.set_cons_succ])
        first
        | (refine wpAnyH_take (i := 7) (oi := _) (v := ?_) (getop rfl) (by kernel_rfl) (by kernel_rfl) (by kernel_rfl) (fun _ _ _ h => h) (Or.inl ⟨by rfl, ?_⟩) (by assumption) ?_; rotate_left; focus (intro w hSw; (try dsimp only at hSw); go_simp; (try with_reducible rfl); done))
        (try simp only [Act.put, List.setIfInBounds_toArray, List.set_cons_zero, List.set_cons_succ])
        refine wpAnyH_done (by kernel_rfl) ?_ _
        obtain ⟨cZ, fZ⟩ := hZ2.facts
        go_wp2_with fail
        refine bodyPost_ret (v := .tuple #[.agg #[.int .i64 v.table, .int .i64 v.push, .int .i64 v.streams, .int .i64 v.window, .int .i64 v.frame, .int .i64 v.list], .int .i64 f]) (by simp [results, Try.results9, go_sem, cZ] <;> rfl) rfl ⟨by first | rfl | (rw [HD.out]; first | rfl | (rw [fin_bad _ _ hfz])), ?_⟩
        have hl := Lib.hid hL
        have hl2 := hl.out
        repeat' (first | with_reducible exact hl2 | with_reducible apply lo_set | (dsimp only; omega) | simp)
    · have hkl' : ¬ (k : Int) < (len : Int) := by omega
      have hke : k = len := by omega
      subst hke
      have HD : Hid (R = (x, 0)) := by have := HR.out; rw [List.drop_eq_nil_of_le (by omega), goL] at this; exact Lib.hid this.symm
      obtain ⟨cN, fN⟩ := hN.facts
      obtain ⟨cZ, fZ⟩ := hZ.facts
      have lZ := hZ.lt
      go_wp2_with fail
      refine bodyPost_ret (v := .tuple #[.agg #[.int .i64 x.table, .int .i64 x.push, .int .i64 x.streams, .int .i64 x.window, .int .i64 x.frame, .int .i64 x.list], .int .i64 0]) (by simp [results, Try.results9, go_sem, cZ] <;> rfl) rfl ⟨by first | rfl | (rw [HD.out]; first | rfl | (rw [fin_bad _ _ hfz])), ?_⟩
      have hl := Lib.hid hL
      have hl2 := hl.out
      repeat' (first | with_reducible exact hl2 | with_reducible apply lo_set | (dsimp only; omega) | simp)
end Go.Proofs.Ythjciimodemfpaa
