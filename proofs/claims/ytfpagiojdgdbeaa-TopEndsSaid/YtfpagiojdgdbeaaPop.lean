import Derived.Test.YtfpagiojdgdbeaaHeapW
namespace Go.Proofs.Ytfpagiojdgdbeaa
open Go.RowKit
attribute [local go_sem ↓] Go.wp_at_zero Go.wp_at_succ

/-- What cut makes of a heap: its least item is gone. -/
def CutPost (w : World) (base g cap q : Nat) (t : List (Int × Int)) (e : Ending) (w' : World) : Prop :=
  ∃ l', l'.Perm t ∧ heapOk l' ∧ e = .returned (.slice (some ⟨g, 0, none⟩) q cap) ∧ w'.ownsRow base 64 2 (.slice (some ⟨g, 0, none⟩) q cap) q (l'.flatMap cellsI) ∧ w.grownBy w' (some g)
theorem cut_perm {t : List (Int × Int)} {x y : Int × Int} {q : Nat} (hq : t.length = q + 1) (hy : t[q]'(by omega) = y) : (((x :: t).set 0 y).take (q + 1)).Perm t := by
  have ht : t.take q ++ [y] = t := by
    rw [← hy, List.take_append_getElem]
    exact List.take_of_length_le (by omega)
  rw [List.set_cons_zero, List.take_succ_cons]
  have := (List.perm_append_comm : (t.take q ++ [y]).Perm ([y] ++ t.take q)).symm
  rw [ht] at this
  exact this
theorem cut_down {t : List (Int × Int)} {x y : Int × Int} (h : heapOk (x :: t)) (q : Nat) : downInv (((x :: t).set 0 y).take q) 0 := by
  constructor
  · intro k hk hk0 hkp
    rw [List.length_take, List.length_set] at hk
    rw [List.getElem_take, List.getElem_take, List.getElem_set_ne (by omega), List.getElem_set_ne (by omega)]
    exact h k (by omega) hk0
  · intro k hk hk0 hkp h0
    omega
theorem heap_one {l : List (Int × Int)} (h : l.length ≤ 1) : heapOk l := fun k hk h0 => by omega
theorem flatI_take (l : List (Int × Int)) (k : Nat) : (l.flatMap cellsI).take (k * 2) = (l.take k).flatMap cellsI := by
  induction l generalizing k with
  | nil => simp
  | cons x t ih =>
    cases k with
    | zero => simp
    | succ k =>
      rw [List.take_succ_cons, List.flatMap_cons, List.flatMap_cons, ← ih k, show (k + 1) * 2 = (cellsI x).length + k * 2 by rw [cellsI_len]; omega, List.take_length_add_append]
set_option maxRecDepth 100000 in
set_option maxHeartbeats 1600000 in
theorem cut_ok (base g cap q : Nat) (x : Int × Int) (t : List (Int × Int)) (w : World) (hq : t.length = q) (hown : w.ownsRow base 64 2 (.slice (some ⟨g, 0, none⟩) (q + 1) cap) (q + 1) ((x :: t).flatMap cellsI)) (hok : heapOk (x :: t)) (hn : q ≤ 50) :
    Calls Try.prog 29 #[.slice (some ⟨g, 0, none⟩) (q + 1) cap, .int .i64 0] w (CutPost w base g cap q t) := by
  have hcap : q + 1 ≤ cap := by
    rcases hown.2 with ⟨he, _⟩ | ⟨g', cap', cur, he, hb, hg, hnc, hcm, hcs, ht⟩
    · cases he
    · injection he with e1 e2 e3
      subst e3
      exact hnc
  have hlq : (x :: t).length = q + 1 := by rw [List.length_cons, hq]
  obtain ⟨⟨y1, y2⟩, hy⟩ : ∃ y, (x :: t)[q]'(by omega) = y := ⟨_, rfl⟩
  have hyq : (x :: t)[q]? = some (y1, y2) := by rw [List.getElem?_eq_getElem (by omega), hy]
  obtain ⟨x1, x2⟩ := x
  have c0 : w.cell? ⟨g, 0, none⟩ = some (.int .i64 x1) := hown.cellAt 0 (by omega)
  have c1 : w.cell? ⟨g, 1, none⟩ = some (.int .i64 x2) := hown.cellAt 1 (by omega)
  have f0 := hown.frozenAt 0
  have f1 := hown.frozenAt 1
  have d0 : w.cell? ⟨g, q * 2, none⟩ = some (.int .i64 y1) := (hown.cellAt (q * 2) (by omega)).trans (flatMap_get cellsI_len _ q 0 _ hyq (by omega))
  have d1 : w.cell? ⟨g, q * 2 + 1, none⟩ = some (.int .i64 y2) := (hown.cellAt (q * 2 + 1) (by omega)).trans (flatMap_get cellsI_len _ q 1 _ hyq (by omega))
  have hw1 : IntKind.i64.wrap ((q : Int) + 1 - 1) = (q : Int) := by rw [IntWalk.i64_in _ (by omega)]; omega
  have hq1 : (q : Int) < (q : Int) + 1 := by omega
  have hq2 : (q : Int) ≤ (cap : Int) := by omega
  have hq0 : (0 : Int) ≤ (q : Int) := by omega
  have HO := Lib.hid hok
  have hst := ((hown.stored 0 (.int .i64 y1)).1.stored 1 (.int .i64 y2)).1
  rw [show ((((x1, x2) :: t).flatMap cellsI).set 0 (.int .i64 y1)).set 1 (.int .i64 y2) = (((x1, x2) :: t).set 0 (y1, y2)).flatMap cellsI from flatI_set _ 0 (by simp) y1 y2] at hst
  have hpre := own_prefix hst (k := q) (by omega)
  rw [flatI_take] at hpre
  have hgr := World.grownBy.trans (grown_set w g 0 (.int .i64 y1)) (grown_set _ g 1 (.int .i64 y2))
  have HP := Lib.hid (And.intro hpre hgr)
  clear hst hpre hgr hown hyq
  by_cases hz : q = 0
  · subst hz
    have ht : t = [] := List.eq_nil_of_length_eq_zero hq
    subst ht
    obtain ⟨rfl, rfl⟩ : x1 = y1 ∧ x2 = y2 := by simpa using hy
    go_enter Try.func29, Try.ntmps29
    go_wp2_with fail
    go_ret
    exact ⟨[], List.Perm.refl _, heap_one (by simp), rfl, by simpa using HP.out.1, HP.out.2⟩
  · have hz' : (0 : Int) < (q : Int) := by omega
    obtain ⟨r, rfl⟩ : ∃ r, q = r + 1 := ⟨q - 1, by omega⟩
    have hty : t[r]'(by omega) = (y1, y2) := by simpa using hy
    have HPM : Hid (((((x1, x2) :: t).set 0 (y1, y2)).take (r + 1)).Perm t) := Lib.hid (cut_perm hq hty)
    have HDN : Hid (downInv ((((x1, x2) :: t).set 0 (y1, y2)).take (r + 1)) 0) := Lib.hid (cut_down HO.out (r + 1))
    have hl2 : ((((x1, x2) :: t).set 0 (y1, y2)).take (r + 1)).length = r + 1 := by rw [HPM.out.length_eq, hq]
    generalize (((x1, x2) :: t).set 0 (y1, y2)).take (r + 1) = l2 at HP HPM HDN hl2
    clear hy hty hlq
    have HDW : Hid (Calls Try.prog 47 #[.slice (some ⟨g, 0, none⟩) (r + 1) cap, .int .i64 0] ((w.setCell ⟨g, 0, none⟩ (.int .i64 y1)).setCell ⟨g, 1, none⟩ (.int .i64 y2)) (SiftPost ((w.setCell ⟨g, 0, none⟩ (.int .i64 y1)).setCell ⟨g, 1, none⟩ (.int .i64 y2)) base g cap l2)) := Lib.hid (by
      have := down_ok base g cap l2 0 ((w.setCell ⟨g, 0, none⟩ (.int .i64 y1)).setCell ⟨g, 1, none⟩ (.int .i64 y2)) (by rw [hl2]; exact HP.out.1) (by omega) HDN.out (by omega)
      rw [hl2] at this
      exact this)
    have HUP : Hid (∀ (w0 : World) (l3 : List (Int × Int)), l3.length = r + 1 → heapOk l3 → w0.ownsRow base 64 2 (.slice (some ⟨g, 0, none⟩) (r + 1) cap) (r + 1) (l3.flatMap cellsI) → Calls Try.prog 35 #[.slice (some ⟨g, 0, none⟩) (r + 1) cap, .int .i64 0] w0 (SiftPost w0 base g cap l3)) := Lib.hid fun w0 l3 h3 hk3 ho3 => by
      have := up_ok base g cap l3 0 w0 (by rw [h3]; exact ho3) (by omega) ⟨fun k hk h0 _ => hk3 k hk h0, fun k hk h0 _ h1 => absurd h1 (Nat.lt_irrefl 0)⟩ (by omega)
      rw [h3] at this
      exact this
    clear HDN
    go_enter Try.func29, Try.ntmps29
    go_wp2_with fail
    refine HDW.out.mono ?_
    rintro e w3 ⟨l3, hp3, hk3, rfl, ho3, hg3⟩
    rw [hl2] at ho3
    have h3l : l3.length = r + 1 := by rw [hp3.length_eq, hl2]
    have H3 := Lib.hid (And.intro hp3 (World.grownBy.trans HP.out.2 hg3))
    have HU2 := Lib.hid (HUP.out w3 l3 h3l hk3 ho3)
    clear hp3 hk3 ho3 hg3 HUP
    go_wp2_with fail
    refine HU2.out.mono ?_
    rintro e w4 ⟨l4, hp4, hk4, rfl, ho4, hg4⟩
    rw [h3l] at ho4
    have H4 := Lib.hid (And.intro ho4 (World.grownBy.trans H3.out.2 hg4))
    clear ho4 hg4
    go_wp2_with fail
    go_ret
    exact ⟨l4, (hp4.trans H3.out.1).trans HPM.out, hk4, rfl, H4.out.1, H4.out.2⟩
/-- What Push makes. -/
def HPushPost (w : World) (l : List (Int × Int)) (x : Int × Int) (e : Ending) (w' : World) : Prop :=
  ∃ l' base u, l'.Perm (l ++ [x]) ∧ heapOk l' ∧ w.heap.size ≤ base ∧ base ≤ w'.heap.size ∧ e = .returned u ∧ w'.ownsRow base 64 2 u l'.length (l'.flatMap cellsI) ∧ Below w.heap.size w w'
set_option maxRecDepth 100000 in
set_option maxHeartbeats 1600000 in
theorem hpush_ok (A : Option Addr) (n cap : Nat) (l : List (Int × Int)) (x1 x2 : Int) (w : World) (hl : Its w A n cap l) (hok : heapOk l) (hn : n ≤ 50) : Calls Try.prog 20 #[.slice A n cap, .agg #[.int .i64 x1, .int .i64 x2]] w (HPushPost w l (x1, x2)) := by
  obtain rfl := hl.1
  have HL := Lib.hid hl
  have HO := Lib.hid hok
  have HOW : Hid (∀ w0, Its w0 A l.length cap l → Calls Try.prog 28 #[.slice A l.length cap] w0 (HeapPost w0 l)) := Lib.hid fun w0 h0 => ownI_ok A l.length cap l w0 h0 hok (by omega)
  obtain ⟨i0, hi, hz0, hz1, hz2⟩ := info_parts info64
  have hX := Blk.new w 64 #[.int .i64 x1, .int .i64 x2]
  have hL := lo_alloc (lo_refl w) (.cells #[.int .i64 x1, .int .i64 x2] 64)
  clear hl hok
  go_enter Try.func20, Try.ntmps20
  go_upto_region 1 with fail
  generalize w.alloc (.cells #[.int .i64 x1, .int .i64 x2] 64) = w0 at hX hL ⊢
  refine wp_region_held_drew (S := (fun W => W.cell? ⟨w.heap.size, 0, none⟩ = some (.int .i64 x1) ∧ W.cell? ⟨w.heap.size, 1, none⟩ = some (.int .i64 x2) ∧ w.heap.size < W.heap.size)) (by kernel_rfl) ?_ (fun hHeld => ?_)
  focus ((try dsimp only); (have r := hX.facts.1; exact ⟨r 0, r 1, hX.lt⟩))
  replace hX : Blk w0.drew _ _ _ := hX
  replace hL := lo_drew hL
  generalize w0.drew = wd at hX hL hHeld ⊢
  first
  | (refine wpAnyH_take (i := 0) (oi := _) (v := ?_) (getop rfl) (by kernel_rfl) (by kernel_rfl) (by kernel_rfl) (fun _ _ _ h => h) (Or.inl ⟨by rfl, ?_⟩) (by assumption) ?_; rotate_left; focus (intro w hSw; (try dsimp only at hSw); go_simp; (try with_reducible rfl); done))
  | (refine wpAnyH_take (i := 0) (oi := _) (v := undef) (getop rfl) (by kernel_rfl) (by kernel_rfl) (by kernel_rfl) (fun _ _ _ h => h) (Or.inr ⟨by rfl, rfl⟩) (by assumption) ?_)
  (try simp only [Act.put, List.setIfInBounds_toArray, List.set_cons_zero, List.set_cons_succ])
  first
  | (refine wpAnyH_take (i := 2) (oi := _) (v := ?_) (getop rfl) (by kernel_rfl) (by kernel_rfl) (by kernel_rfl) (fun _ _ _ h => h) (Or.inl ⟨by rfl, ?_⟩) (by assumption) ?_; rotate_left; focus (intro w hSw; (try dsimp only at hSw); go_simp; (try with_reducible rfl); done))
  | (refine wpAnyH_take (i := 2) (oi := _) (v := undef) (getop rfl) (by kernel_rfl) (by kernel_rfl) (by kernel_rfl) (fun _ _ _ h => h) (Or.inr ⟨by rfl, rfl⟩) (by assumption) ?_)
  (try simp only [Act.put, List.setIfInBounds_toArray, List.set_cons_zero, List.set_cons_succ])
  refine wpAnyH_ready (rs := [1, 3]) (by kernel_rfl) (by simp) ?_
  refine (AllReadyH.cons (o := _) (getop rfl) (fun K hK => ?_) (AllReadyH.cons (o := _) (getop rfl) (fun K hK => ?_) AllReadyH.nil))
  · go_simp
    refine (HOW.out _ (agg_lo HL.out hL)).mono ?_
    rintro e wz0 ⟨base, u, h1, h2, rfl, hown, hb⟩
    replace h1 := Nat.lt_of_lt_of_le hX.lt h1
    replace hX := hX.lo hb
    replace hL := lo_trans hL hb
    clear hb
    refine hK.out _ _ ?_ (fun hHeld1 => ?_)
    focus ((try dsimp only); (have r := hX.facts.1; exact ⟨r 0, r 1, hX.lt⟩))
    clear hK K hHeld
    have hHeld := hHeld1
    clear hHeld1
    (try simp only [Act.put, List.setIfInBounds_toArray, List.set_cons_zero, List.set_cons_succ])
    refine wpAnyH_ready (rs := [3]) (by kernel_rfl) (by simp) ?_
    refine (AllReadyH.cons (o := _) (getop rfl) (fun K hK => ?_) AllReadyH.nil)
    go_simp
    have hnN := own_ne hown (g := wz0.heap.size) (Or.inr (Nat.le_refl _))
    replace hown := hown.alloc (.cells #[.int .i64 x1, .int .i64 x2] 64)
    replace h2 : base ≤ (wz0.alloc (.cells #[.int .i64 x1, .int .i64 x2] 64)).heap.size := by simp; omega
    have hN := Blk.new wz0 64 #[.int .i64 x1, .int .i64 x2]
    replace hX := hX.alloc (.cells #[.int .i64 x1, .int .i64 x2] 64)
    replace hL := lo_alloc hL (.cells #[.int .i64 x1, .int .i64 x2] 64)
    generalize wz0.heap.size = gN at hN hnN ⊢
    generalize wz0.alloc (.cells #[.int .i64 x1, .int .i64 x2] 64) = wz1 at hX hN hL hown h2 ⊢
    refine hK.out _ _ ?_ (fun hHeld3 => ?_)
    focus ((try dsimp only); (have r := hX.facts.1; exact ⟨r 0, r 1, hX.lt⟩))
    clear hK K hHeld
    have hHeld := hHeld3
    clear hHeld3
    (try simp only [Act.put, List.setIfInBounds_toArray, List.set_cons_zero, List.set_cons_succ])
    refine wpAnyH_ready (rs := [4]) (by kernel_rfl) (by simp) ?_
    refine (AllReadyH.cons (o := _) (getop rfl) (fun K hK => ?_) AllReadyH.nil)
    refine step_append_lies wz1 rfl (.tmp 7) (.tmp 9) 48 rfl base 64 i0 _ 2 16 Try.underlying48 hi hz0 hz1 hz2 rfl (by decide) _ _ _ rfl hown ⟨gN, 0, none⟩ 1 1 (#[.int .i64 x1, .int .i64 x2] : Array Value).toList rfl rfl (hN.at rfl) (by intro u hu; simp at hu; rcases hu with rfl | rfl <;> rfl) (by decide) (by unfold maxLen; omega) (by omega) h2 _ rfl ?_
    intro g3 c3 wz2 hwn hgr hat hlt3
    have hXn := hX.grown hgr (own_ne hown (Or.inl h1))
    replace hL := hL.grown hgr hL.size (fun k hk => Nat.le_trans (Nat.le_of_lt h1) (hown.lt k hk).1)
    replace h2 := Nat.le_trans h2 hgr.size
    clear hX
    have hX := hXn
    clear hown hgr hat hN hnN hXn
    have hown := hwn
    clear hwn
    refine hK.out _ _ ?_ (fun hHeld4 => ?_)
    focus ((try dsimp only); (have r := hX.facts.1; exact ⟨r 0, r 1, hX.lt⟩))
    clear hK K hHeld
    have hHeld := hHeld4
    clear hHeld4
    (try simp only [Act.put, List.setIfInBounds_toArray, List.set_cons_zero, List.set_cons_succ])
    first
    | (refine wpAnyH_take (i := 5) (oi := _) (v := ?_) (getop rfl) (by kernel_rfl) (by kernel_rfl) (by kernel_rfl) (fun _ _ _ h => h) (Or.inl ⟨by rfl, ?_⟩) (by assumption) ?_; rotate_left; focus (intro w hSw; (try dsimp only at hSw); go_simp; (try with_reducible rfl); done))
    | (refine wpAnyH_take (i := 5) (oi := _) (v := undef) (getop rfl) (by kernel_rfl) (by kernel_rfl) (by kernel_rfl) (fun _ _ _ h => h) (Or.inr ⟨by rfl, rfl⟩) (by assumption) ?_)
    (try simp only [Act.put, List.setIfInBounds_toArray, List.set_cons_zero, List.set_cons_succ])
    refine wpAnyH_done (by kernel_rfl) ?_ _
    have hfl : l.flatMap cellsI ++ [Value.int .i64 x1, Value.int .i64 x2] = (l ++ [(x1, x2)]).flatMap cellsI := by simp [cellsI]
    replace hown : wz2.ownsRow base 64 2 (.slice (some ⟨g3, 0, none⟩) (l ++ [(x1, x2)]).length c3) (l ++ [(x1, x2)]).length ((l ++ [(x1, x2)]).flatMap cellsI) := by rw [← hfl, List.length_append]; exact hown
    have hU := up_ok base g3 c3 (l ++ [(x1, x2)]) l.length wz2 hown (by simp) (up_start HO.out (x1, x2)) (by simp; omega)
    rw [List.length_append, List.length_singleton] at hU
    have HU := Lib.hid hU
    have hgb := (hown.lt g3 rfl).1
    have hw1 : IntKind.i64.wrap ((l.length : Int) + 1 - 1) = (l.length : Int) := by rw [IntWalk.i64_in _ (by omega)]; omega
    clear hfl hU hown hX hHeld
    go_wp2_with fail
    refine HU.out.mono ?_
    rintro e wl ⟨l', hper, hok', rfl, hown, hgr⟩
    have HR := Lib.hid (And.intro hown (hL.grown hgr hL.size (fun k hk => by injection hk with hk; omega)))
    have h3 := Nat.le_trans h2 hgr.size
    clear hown hgr hL
    go_wp2_with fail
    go_ret
    exact ⟨l', base, .slice (some ⟨g3, 0, none⟩) (l.length + 1) c3, hper, hok', by omega, h3, rfl, by rw [hper.length_eq, List.length_append, List.length_singleton]; rw [List.length_append, List.length_singleton] at HR; exact HR.out.1, HR.out.2⟩
  · go_simp
    have hN := Blk.new wd 64 #[.int .i64 x1, .int .i64 x2]
    replace hX := hX.alloc (.cells #[.int .i64 x1, .int .i64 x2] 64)
    replace hL := lo_alloc hL (.cells #[.int .i64 x1, .int .i64 x2] 64)
    generalize wd.heap.size = gN at hN ⊢
    generalize wd.alloc (.cells #[.int .i64 x1, .int .i64 x2] 64) = wz0 at hX hN hL ⊢
    refine hK.out _ _ ?_ (fun hHeld3 => ?_)
    focus ((try dsimp only); (have r := hX.facts.1; exact ⟨r 0, r 1, hX.lt⟩))
    clear hK K hHeld
    have hHeld := hHeld3
    clear hHeld3
    (try simp only [Act.put, List.setIfInBounds_toArray, List.set_cons_zero, List.set_cons_succ])
    refine wpAnyH_ready (rs := [1]) (by kernel_rfl) (by simp) ?_
    refine (AllReadyH.cons (o := _) (getop rfl) (fun K hK => ?_) AllReadyH.nil)
    go_simp
    refine (HOW.out _ (agg_lo HL.out hL)).mono ?_
    rintro e wz1 ⟨base, u, h1, h2, rfl, hown, hb⟩
    have hnN := own_ne hown (g := gN) (Or.inl (Nat.lt_of_lt_of_le hN.lt h1))
    replace hN := hN.lo hb
    replace h1 := Nat.lt_of_lt_of_le hX.lt h1
    replace hX := hX.lo hb
    replace hL := lo_trans hL hb
    clear hb
    refine hK.out _ _ ?_ (fun hHeld1 => ?_)
    focus ((try dsimp only); (have r := hX.facts.1; exact ⟨r 0, r 1, hX.lt⟩))
    clear hK K hHeld
    have hHeld := hHeld1
    clear hHeld1
    (try simp only [Act.put, List.setIfInBounds_toArray, List.set_cons_zero, List.set_cons_succ])
    refine wpAnyH_ready (rs := [4]) (by kernel_rfl) (by simp) ?_
    refine (AllReadyH.cons (o := _) (getop rfl) (fun K hK => ?_) AllReadyH.nil)
    refine step_append_lies wz1 rfl (.tmp 7) (.tmp 9) 48 rfl base 64 i0 _ 2 16 Try.underlying48 hi hz0 hz1 hz2 rfl (by decide) _ _ _ rfl hown ⟨gN, 0, none⟩ 1 1 (#[.int .i64 x1, .int .i64 x2] : Array Value).toList rfl rfl (hN.at rfl) (by intro u hu; simp at hu; rcases hu with rfl | rfl <;> rfl) (by decide) (by unfold maxLen; omega) (by omega) h2 _ rfl ?_
    intro g3 c3 wz2 hwn hgr hat hlt3
    have hXn := hX.grown hgr (own_ne hown (Or.inl h1))
    replace hL := hL.grown hgr hL.size (fun k hk => Nat.le_trans (Nat.le_of_lt h1) (hown.lt k hk).1)
    replace h2 := Nat.le_trans h2 hgr.size
    clear hX
    have hX := hXn
    clear hown hgr hat hN hnN hXn
    have hown := hwn
    clear hwn
    refine hK.out _ _ ?_ (fun hHeld4 => ?_)
    focus ((try dsimp only); (have r := hX.facts.1; exact ⟨r 0, r 1, hX.lt⟩))
    clear hK K hHeld
    have hHeld := hHeld4
    clear hHeld4
    (try simp only [Act.put, List.setIfInBounds_toArray, List.set_cons_zero, List.set_cons_succ])
    first
    | (refine wpAnyH_take (i := 5) (oi := _) (v := ?_) (getop rfl) (by kernel_rfl) (by kernel_rfl) (by kernel_rfl) (fun _ _ _ h => h) (Or.inl ⟨by rfl, ?_⟩) (by assumption) ?_; rotate_left; focus (intro w hSw; (try dsimp only at hSw); go_simp; (try with_reducible rfl); done))
    | (refine wpAnyH_take (i := 5) (oi := _) (v := undef) (getop rfl) (by kernel_rfl) (by kernel_rfl) (by kernel_rfl) (fun _ _ _ h => h) (Or.inr ⟨by rfl, rfl⟩) (by assumption) ?_)
    (try simp only [Act.put, List.setIfInBounds_toArray, List.set_cons_zero, List.set_cons_succ])
    refine wpAnyH_done (by kernel_rfl) ?_ _
    have hfl : l.flatMap cellsI ++ [Value.int .i64 x1, Value.int .i64 x2] = (l ++ [(x1, x2)]).flatMap cellsI := by simp [cellsI]
    replace hown : wz2.ownsRow base 64 2 (.slice (some ⟨g3, 0, none⟩) (l ++ [(x1, x2)]).length c3) (l ++ [(x1, x2)]).length ((l ++ [(x1, x2)]).flatMap cellsI) := by rw [← hfl, List.length_append]; exact hown
    have hU := up_ok base g3 c3 (l ++ [(x1, x2)]) l.length wz2 hown (by simp) (up_start HO.out (x1, x2)) (by simp; omega)
    rw [List.length_append, List.length_singleton] at hU
    have HU := Lib.hid hU
    have hgb := (hown.lt g3 rfl).1
    have hw1 : IntKind.i64.wrap ((l.length : Int) + 1 - 1) = (l.length : Int) := by rw [IntWalk.i64_in _ (by omega)]; omega
    clear hfl hU hown hX hHeld
    go_wp2_with fail
    refine HU.out.mono ?_
    rintro e wl ⟨l', hper, hok', rfl, hown, hgr⟩
    have HR := Lib.hid (And.intro hown (hL.grown hgr hL.size (fun k hk => by injection hk with hk; omega)))
    have h3 := Nat.le_trans h2 hgr.size
    clear hown hgr hL
    go_wp2_with fail
    go_ret
    exact ⟨l', base, .slice (some ⟨g3, 0, none⟩) (l.length + 1) c3, hper, hok', by omega, h3, rfl, by rw [hper.length_eq, List.length_append, List.length_singleton]; rw [List.length_append, List.length_singleton] at HR; exact HR.out.1, HR.out.2⟩
/-- What Pop makes of a heap that has an item. -/
def HPopPost (w : World) (x : Int × Int) (t : List (Int × Int)) (e : Ending) (w' : World) : Prop :=
  ∃ l' base u, l'.Perm t ∧ heapOk l' ∧ w.heap.size ≤ base ∧ base ≤ w'.heap.size ∧ e = .returned (.tuple #[u, .agg #[.int .i64 x.1, .int .i64 x.2], .bool true]) ∧ w'.ownsRow base 64 2 u l'.length (l'.flatMap cellsI) ∧ Below w.heap.size w w'
theorem pop_none (A : Option Addr) (cap : Nat) (w : World) : Calls Try.prog 16 #[.slice A 0 cap] w fun e w' => e = .returned (.tuple #[.slice none 0 0, .agg #[.int .i64 0, .int .i64 0], .bool false]) ∧ Below w.heap.size w w' := by
  have hR := Blk.new w 64 #[.int .i64 0, .int .i64 0]
  have hL := lo_alloc (lo_refl w) (.cells #[.int .i64 0, .int .i64 0] 64)
  obtain ⟨cR, fR⟩ := hR.facts
  go_enter Try.func16, Try.ntmps16
  go_wp2_with fail
  refine bodyPost_ret (v := .tuple #[.slice none 0 0, .agg #[.int .i64 0, .int .i64 0], .bool false]) (by simp [results, Try.results16, go_sem, cR] <;> rfl) rfl ⟨rfl, ?_⟩
  have hl2 := hL
  repeat' (first | with_reducible exact hl2 | with_reducible apply lo_set | (dsimp only; omega) | simp)
set_option maxRecDepth 100000 in
set_option maxHeartbeats 1600000 in
theorem pop_ok (A : Option Addr) (n cap q : Nat) (x1 x2 : Int) (t : List (Int × Int)) (w : World) (hq : t.length = q) (hl : Its w A n cap ((x1, x2) :: t)) (hok : heapOk ((x1, x2) :: t)) (hn : n ≤ 50) : Calls Try.prog 16 #[.slice A n cap] w (HPopPost w (x1, x2) t) := by
  obtain rfl : n = q + 1 := by have := hl.1; rw [List.length_cons, hq] at this; omega
  have HL := Lib.hid hl
  have HO := Lib.hid hok
  have HOW : Hid (∀ w0, Its w0 A (q + 1) cap ((x1, x2) :: t) → Calls Try.prog 28 #[.slice A (q + 1) cap] w0 (HeapPost w0 ((x1, x2) :: t))) := Lib.hid fun w0 h0 => ownI_ok A (q + 1) cap ((x1, x2) :: t) w0 h0 hok (by omega)
  have hR := Blk.new w 64 #[.int .i64 0, .int .i64 0]
  have hL := lo_alloc (lo_refl w) (.cells #[.int .i64 0, .int .i64 0] 64)
  have hq1 : ¬ ((q : Int) + 1 = 0) := by omega
  clear hl hok
  go_enter Try.func16, Try.ntmps16
  go_wp2_with fail
  refine (HOW.out _ (agg_lo HL.out hL)).mono ?_
  rintro e w1 ⟨base, u, h1, h2, rfl, hown, hb⟩
  rw [List.length_cons, hq] at hown
  obtain ⟨gr, cap2, rfl, hbg, hgl⟩ := hown.form (by omega)
  replace h1 := Nat.lt_of_lt_of_le hR.lt h1
  replace hR := hR.lo hb
  replace hL := lo_trans hL hb
  clear hb
  have c0 : w1.cell? ⟨gr, 0, none⟩ = some (.int .i64 x1) := hown.cellAt 0 (by omega)
  have c1 : w1.cell? ⟨gr, 1, none⟩ = some (.int .i64 x2) := hown.cellAt 1 (by omega)
  go_upto_region 5 with fail
  have hM := Blk.new w1 64 #[.int .i64 x1, .int .i64 x2]
  have hnM := own_ne hown (g := w1.heap.size) (Or.inr (Nat.le_refl _))
  replace hR := hR.alloc (.cells #[.int .i64 x1, .int .i64 x2] 64)
  replace hown := hown.alloc (.cells #[.int .i64 x1, .int .i64 x2] 64)
  replace hL := lo_alloc hL (.cells #[.int .i64 x1, .int .i64 x2] 64)
  replace h2 : base ≤ (w1.alloc (.cells #[.int .i64 x1, .int .i64 x2] 64)).heap.size := by simp; omega
  have zM : w.heap.size < w1.heap.size := by omega
  generalize w1.heap.size = gM at hM hnM zM hgl ⊢
  generalize w1.alloc (.cells #[.int .i64 x1, .int .i64 x2] 64) = w2 at hR hM hown hL h2 ⊢
  clear c0 c1 hgl
  have HCUT : Hid (∀ w0, w0.ownsRow base 64 2 (.slice (some ⟨gr, 0, none⟩) (q + 1) cap2) (q + 1) (((x1, x2) :: t).flatMap cellsI) → Calls Try.prog 29 #[.slice (some ⟨gr, 0, none⟩) (q + 1) cap2, .int .i64 0] w0 (CutPost w0 base gr cap2 q t)) := Lib.hid fun w0 h0 => cut_ok base gr cap2 q (x1, x2) t w0 hq h0 HO.out (by omega)
  refine wp_region_held_drew (S := (fun W => W.cell? ⟨gM, 0, none⟩ = some (.int .i64 x1) ∧ W.cell? ⟨gM, 1, none⟩ = some (.int .i64 x2) ∧ gM < W.heap.size)) (by kernel_rfl) ?_ (fun hHeld => ?_)
  focus ((try dsimp only); (have r := hM.facts.1; exact ⟨r 0, r 1, hM.lt⟩))
  replace hown : w2.drew.ownsRow _ _ _ _ _ _ := hown
  replace hM : Blk w2.drew _ _ _ := hM
  replace hR : Blk w2.drew _ _ _ := hR
  replace hL := lo_drew hL
  replace h2 : base ≤ w2.drew.heap.size := h2
  generalize w2.drew = wd at hown hM hR hL h2 hHeld ⊢
  first
  | (refine wpAnyH_take (i := 0) (oi := _) (v := ?_) (getop rfl) (by kernel_rfl) (by kernel_rfl) (by kernel_rfl) (fun _ _ _ h => h) (Or.inl ⟨by rfl, ?_⟩) (by assumption) ?_; rotate_left; focus (intro w hSw; (try dsimp only at hSw); go_simp; (try with_reducible rfl); done))
  | (refine wpAnyH_take (i := 0) (oi := _) (v := undef) (getop rfl) (by kernel_rfl) (by kernel_rfl) (by kernel_rfl) (fun _ _ _ h => h) (Or.inr ⟨by rfl, rfl⟩) (by assumption) ?_)
  (try simp only [Act.put, List.setIfInBounds_toArray, List.set_cons_zero, List.set_cons_succ])
  first
  | (refine wpAnyH_take (i := 2) (oi := _) (v := ?_) (getop rfl) (by kernel_rfl) (by kernel_rfl) (by kernel_rfl) (fun _ _ _ h => h) (Or.inl ⟨by rfl, ?_⟩) (by assumption) ?_; rotate_left; focus (intro w hSw; (try dsimp only at hSw); go_simp; (try with_reducible rfl); done))
  | (refine wpAnyH_take (i := 2) (oi := _) (v := undef) (getop rfl) (by kernel_rfl) (by kernel_rfl) (by kernel_rfl) (fun _ _ _ h => h) (Or.inr ⟨by rfl, rfl⟩) (by assumption) ?_)
  (try simp only [Act.put, List.setIfInBounds_toArray, List.set_cons_zero, List.set_cons_succ])
  refine wpAnyH_ready (rs := [1]) (by kernel_rfl) (by simp) ?_
  refine (AllReadyH.cons (o := _) (getop rfl) (fun K hK => ?_) AllReadyH.nil)
  go_simp
  refine (HCUT.out _ hown).mono ?_
  rintro e wz0 ⟨l2, hper, hok2, rfl, hown2, hgr⟩
  replace hM := hM.grown hgr hnM
  replace hR := hR.grown hgr (by intro e; injection e with e; omega)
  replace hL := hL.grown hgr hL.size (fun k hk => by injection hk with hk; omega)
  replace h2 := Nat.le_trans h2 hgr.size
  clear hown hgr
  have hown := hown2
  clear hown2
  refine hK.out _ _ ?_ (fun hHeld1 => ?_)
  focus ((try dsimp only); (have r := hM.facts.1; exact ⟨r 0, r 1, hM.lt⟩))
  clear hK K hHeld
  have hHeld := hHeld1
  clear hHeld1
  (try simp only [Act.put, List.setIfInBounds_toArray, List.set_cons_zero, List.set_cons_succ])
  first
  | (refine wpAnyH_take (i := 3) (oi := _) (v := ?_) (getop rfl) (by kernel_rfl) (by kernel_rfl) (by kernel_rfl) (fun _ _ _ h => h) (Or.inl ⟨by rfl, ?_⟩) (by assumption) ?_; rotate_left; focus (intro w hSw; (try dsimp only at hSw); go_simp; (try with_reducible rfl); done))
  | (refine wpAnyH_take (i := 3) (oi := _) (v := undef) (getop rfl) (by kernel_rfl) (by kernel_rfl) (by kernel_rfl) (fun _ _ _ h => h) (Or.inr ⟨by rfl, rfl⟩) (by assumption) ?_)
  (try simp only [Act.put, List.setIfInBounds_toArray, List.set_cons_zero, List.set_cons_succ])
  refine wpAnyH_ready (rs := [4]) (by kernel_rfl) (by simp) ?_
  refine (AllReadyH.cons (o := _) (getop rfl) (fun K hK => ?_) AllReadyH.nil)
  obtain ⟨cT, fT⟩ := hR.facts
  have lT := hR.lt
  go_simp
  clear cT fT lT
  replace hM := hM.far (p := ⟨w.heap.size, 0, none⟩) (by dsimp only; omega) (.int .i64 x1)
  replace hR := hR.set_ 0 (.int .i64 x1)
  replace hown := own_set hown (p := ⟨w.heap.size, 0, none⟩) (by dsimp only; omega) (.int .i64 x1)
  replace hL := lo_set hL (p := ⟨w.heap.size, 0, none⟩) (by dsimp only; omega) (.int .i64 x1)
  replace hM := hM.far (p := ⟨w.heap.size, 1, none⟩) (by dsimp only; omega) (.int .i64 x2)
  replace hR := hR.set_ 1 (.int .i64 x2)
  replace hown := own_set hown (p := ⟨w.heap.size, 1, none⟩) (by dsimp only; omega) (.int .i64 x2)
  replace hL := lo_set hL (p := ⟨w.heap.size, 1, none⟩) (by dsimp only; omega) (.int .i64 x2)
  replace hR : Blk ((wz0.setCell ⟨w.heap.size, 0, none⟩ (.int .i64 x1)).setCell ⟨w.heap.size, 1, none⟩ (.int .i64 x2)) w.heap.size 64 #[.int .i64 x1, .int .i64 x2] := by simpa using hR
  replace h2 : base ≤ ((wz0.setCell ⟨w.heap.size, 0, none⟩ (.int .i64 x1)).setCell ⟨w.heap.size, 1, none⟩ (.int .i64 x2)).heap.size := by simpa using h2
  generalize ((wz0.setCell ⟨w.heap.size, 0, none⟩ (.int .i64 x1)).setCell ⟨w.heap.size, 1, none⟩ (.int .i64 x2)) = wz1 at hM hR hown hL h2 ⊢
  refine hK.out _ _ ?_ (fun hHeld4 => ?_)
  focus ((try dsimp only); (have r := hM.facts.1; exact ⟨r 0, r 1, hM.lt⟩))
  clear hK K hHeld
  have hHeld := hHeld4
  clear hHeld4
  (try simp only [Act.put, List.setIfInBounds_toArray, List.set_cons_zero, List.set_cons_succ])
  first
  | (refine wpAnyH_take (i := 5) (oi := _) (v := ?_) (getop rfl) (by kernel_rfl) (by kernel_rfl) (by kernel_rfl) (fun _ _ _ h => h) (Or.inl ⟨by rfl, ?_⟩) (by assumption) ?_; rotate_left; focus (intro w hSw; (try dsimp only at hSw); go_simp; (try with_reducible rfl); done))
  | (refine wpAnyH_take (i := 5) (oi := _) (v := undef) (getop rfl) (by kernel_rfl) (by kernel_rfl) (by kernel_rfl) (fun _ _ _ h => h) (Or.inr ⟨by rfl, rfl⟩) (by assumption) ?_)
  (try simp only [Act.put, List.setIfInBounds_toArray, List.set_cons_zero, List.set_cons_succ])
  refine wpAnyH_done (by kernel_rfl) ?_ _
  obtain ⟨cR, fR⟩ := hR.facts
  go_wp2_with fail
  refine bodyPost_ret (v := .tuple #[.slice (some ⟨gr, 0, none⟩) q cap2, .agg #[.int .i64 x1, .int .i64 x2], .bool true]) (by simp [results, Try.results16, go_sem, cR] <;> rfl) rfl ⟨l2, base, .slice (some ⟨gr, 0, none⟩) q cap2, hper, hok2, by omega, h2, rfl, ?_, hL⟩
  rw [hper.length_eq, hq]
  exact hown
end Go.Proofs.Ytfpagiojdgdbeaa
