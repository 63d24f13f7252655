import Derived.Test.YtfpagiojdgdbeaaHeap
namespace Go.Proofs.Ytfpagiojdgdbeaa
open Go.RowKit
attribute [local go_sem ↓] Go.wp_at_zero Go.wp_at_succ

set_option maxRecDepth 100000 in
set_option maxHeartbeats 1600000 in
theorem heap_ok (A : Option Addr) (n cap : Nat) (l : List (Int × Int)) (w : World) (hl : Its w A n cap l) (hok : heapOk l) (hn : n ≤ 100) : Calls Try.prog 44 #[.slice A n cap] w (IntPost w 0) := by
  obtain rfl := hl.1
  have HL := Lib.hid hl
  have HO := Lib.hid hok
  have hL := lo_refl w
  clear hl hok
  go_enter Try.func44, Try.ntmps44
  go_wp2_with fail
  go_loopw [3] (fun y wr => ∃ k : Nat, 1 ≤ k ∧ y = .int .i64 k ∧ Below w.heap.size w wr) (fun y _ => l.length - (intOf y).toNat)
  case atStart => exact ⟨1, Nat.le_refl _, rfl, hL⟩
  case round =>
  clear hL
  obtain ⟨k, hk, rfl, hL⟩ := hrel
  by_cases hkl : k < l.length
  · have hkl' : (k : Int) < (l.length : Int) := by omega
    have hw : IntKind.i64.wrap ((k : Int) - 1) = ((k - 1 : Nat) : Int) := by rw [IntWalk.i64_in _ (by omega)]; omega
    have HD : Hid (∀ w0, Its w0 A l.length cap l → Calls Try.prog 53 #[.slice A l.length cap, .int .i64 k, .int .i64 ((k - 1) / 2 : Nat)] w0 (BoolPost w0 false)) := Lib.hid fun w0 h0 => by
      have := less_at A l.length cap l k ((k - 1) / 2) hkl (by omega) w0 h0 (by omega)
      rw [decide_eq_false (HO.out k hkl hk)] at this
      exact this
    go_wp2_with fail
    refine (HD.out _ (agg_lo HL.out hL)).mono ?_
    rintro e w2 ⟨rfl, hb⟩
    replace hL := lo_trans hL hb
    clear hb
    go_wp2_with fail
    go_roundw
    case rel => exact ⟨k + 1, by omega, by go_num, hL⟩
    case measure => simp [intOf]; omega
  · have hkl' : ¬ (k : Int) < (l.length : Int) := by omega
    have hM := Lib.hid hL
    clear hL
    go_wp2_with fail
    go_ret
    exact ⟨rfl, hM.out⟩
set_option maxHeartbeats 800000 in
theorem ownI_ok (A : Option Addr) (n cap : Nat) (l : List (Int × Int)) (w : World) (hl : Its w A n cap l) (hok : heapOk l) (hn : n ≤ 100) : Calls Try.prog 28 #[.slice A n cap] w (HeapPost w l) := by
  have HL := Lib.hid hl
  have H1 : Hid (∀ w0, Its w0 A n cap l → Calls Try.prog 44 #[.slice A n cap] w0 (IntPost w0 0)) := Lib.hid fun w0 h0 => heap_ok A n cap l w0 h0 hok hn
  have H2 : Hid (∀ w0, Its w0 A n cap l → Calls Try.prog 46 #[.slice A n cap] w0 (HeapPost w0 l)) := Lib.hid fun w0 h0 => cloneI_any A n cap l w0 h0 (by omega)
  clear hl hok
  go_enter Try.func28, Try.ntmps28
  go_wp2_with fail
  refine (H1.out _ HL.out).mono ?_
  rintro e w1 ⟨rfl, hb⟩
  have HB := Lib.hid hb
  clear hb
  go_wp2_with fail
  refine (H2.out _ (agg_lo HL.out HB.out)).mono ?_
  rintro e w2 ⟨base, u, h1, h2, rfl, hown, hb⟩
  have HR := Lib.hid (And.intro hown (lo_trans HB.out hb))
  have h3 := HB.out.size
  clear hown hb
  go_wp2_with fail
  go_ret
  exact ⟨base, u, by omega, h2, rfl, HR.out.1, HR.out.2⟩
section
variable {P : Program} {Q : Exit → Act → World → Prop} {a : Act} {w : World}
/-- A scope whose first row is the label that is jumped back to. -/
theorem wp_scope_back {rest : Code} (l : Nat) (J : Act → World → Prop) (μ : Act → World → Nat) (h0 : J a w)
    (pass : ∀ a w, J a w → rest.wp P (Exit.jump l (fun a' w' => J a' w' ∧ μ a' w' < μ a w) Q) a w) : (Code.scope ((Code.label l).seq rest)).wp P Q a w := by
  refine wp_scope_jumps l J μ (rest := Code.skip.seq rest) (by simp [findLabel]) ?_ fun a w h => wp_seq (wp_skip (pass a w h))
  refine wp_seq (wp_label ?_)
  show rest.wp P (Exit.jump l J Q) a w
  exact wp_mono (pass a w h0) fun e a w h => by
    cases e with
    | goto l' => exact ⟨h.1, h.2.1⟩
    | _ => exact h
end
theorem grown_lo {w w1 : World} (hb : Below w.heap.size w w1) (row : Option Nat) : w.grownBy w1 row := ⟨hb.os, hb.tape, hb.output, hb.size, fun k hk _ => hb.block k hk⟩
theorem grown_set (w : World) (g j : Nat) (u : Value) : w.grownBy (w.setCell ⟨g, j, none⟩ u) (some g) := ⟨rfl, rfl, rfl, by simp, fun k _ hk => heap_setCell_other w ⟨g, j, none⟩ k u (fun e => hk (by simp [e]))⟩
/-- What up and down do with a row. -/
def SiftPost (w : World) (base g cap : Nat) (l : List (Int × Int)) (e : Ending) (w' : World) : Prop :=
  ∃ l', l'.Perm l ∧ heapOk l' ∧ e = .returned (.tuple #[]) ∧ w'.ownsRow base 64 2 (.slice (some ⟨g, 0, none⟩) l.length cap) l.length (l'.flatMap cellsI) ∧ w.grownBy w' (some g)
theorem flatI_set (l : List (Int × Int)) (i : Nat) (h : i < l.length) (a b : Int) : ((l.flatMap cellsI).set (i * 2) (.int .i64 a)).set (i * 2 + 1) (.int .i64 b) = (l.set i (a, b)).flatMap cellsI := by
  induction l generalizing i with
  | nil => simp at h
  | cons x t ih =>
    cases i with
    | zero => simp [cellsI]
    | succ i =>
      simp only [List.set_cons_succ, List.flatMap_cons]
      rw [List.set_append_right _ _ (by rw [cellsI_len]; omega), List.set_append_right _ _ (by rw [cellsI_len]; omega), cellsI_len, show (i + 1) * 2 - 2 = i * 2 by omega, show (i + 1) * 2 + 1 - 2 = i * 2 + 1 by omega, ih i (by simpa using h)]
/-- The slot of the place, as a measure. -/
def idx1 (a : Act) : Nat := (intOf (a.tmps.getD 1 undef)).toNat
def UpJ (w : World) (base g cap : Nat) (l : List (Int × Int)) (a' : Act) (w' : World) : Prop :=
  ∃ (m : List (Int × Int)) (i : Nat) (u2 u3 u4 u5 u6 u7 u8 u9 u10 u11 u12 u13 u14 u15 u16 u17 u18 u19 u20 u21 u22 u23 u24 u25 u26 u27 u28 u29 u30 : Value), a' = { tmps := #[.slice (some ⟨g, 0, none⟩) l.length cap, .int .i64 i, u2, u3, u4, u5, u6, u7, u8, u9, u10, u11, u12, u13, u14, u15, u16, u17, u18, u19, u20, u21, u22, u23, u24, u25, u26, u27, u28, u29, u30], defers := [] } ∧ m.Perm l ∧ upInv m i ∧ i < m.length ∧ w'.ownsRow base 64 2 (.slice (some ⟨g, 0, none⟩) l.length cap) l.length (m.flatMap cellsI) ∧ w.grownBy w' (some g)
set_option maxRecDepth 100000 in
set_option maxHeartbeats 1600000 in
theorem up_ok (base g cap : Nat) (l : List (Int × Int)) (i : Nat) (w : World) (hown : w.ownsRow base 64 2 (.slice (some ⟨g, 0, none⟩) l.length cap) l.length (l.flatMap cellsI)) (hi : i < l.length) (hu : upInv l i) (hn : l.length ≤ 100) :
    Calls Try.prog 35 #[.slice (some ⟨g, 0, none⟩) l.length cap, .int .i64 i] w (SiftPost w base g cap l) := by
  go_enter Try.func35, Try.ntmps35
  refine wp_scope_back 0 (UpJ w base g cap l) (fun a' _ => idx1 a') ⟨l, i, _, _, _, _, _, _, _, _, _, _, _, _, _, _, _, _, _, _, _, _, _, _, _, _, _, _, _, _, _, rfl, List.Perm.refl _, hu, hi, hown, grown_lo (lo_refl w) _⟩ ?_
  clear hown hi hu
  rintro a' w' ⟨m, i, u2, u3, u4, u5, u6, u7, u8, u9, u10, u11, u12, u13, u14, u15, u16, u17, u18, u19, u20, u21, u22, u23, u24, u25, u26, u27, u28, u29, u30, rfl, hp, hu, hi, hown, hgr⟩
  have HJ := Lib.hid (And.intro hp hu)
  have hml := hp.length_eq
  have hA := agg_own cellsI_len (by decide) hown (fun _ _ => trivial : ∀ x ∈ m, (fun _ => True) x)
  clear hp hu
  by_cases h0 : 0 < i
  · have h0' : (0 : Int) < (i : Int) := by omega
    have hw : IntKind.i64.wrap ((i : Int) - 1) = ((i - 1 : Nat) : Int) := by rw [IntWalk.i64_in _ (by omega)]; omega
    obtain ⟨p, hpe⟩ : ∃ p, (i - 1) / 2 = p := ⟨_, rfl⟩
    have hpl : p < m.length := by omega
    have ht : ((i - 1 : Nat) : Int).tdiv 2 = (p : Int) := by rw [← hpe]; rfl
    have hq : IntKind.i64.wrap (p : Int) = (p : Int) := IntWalk.i64_in _ (by omega)
    have hD := less_at (some ⟨g, 0, none⟩) l.length cap m i p hi hpl w' hA (by omega)
    have HPE := Lib.hid hpe
    clear hpe hA
    by_cases hd : lessP m[i] m[p]
    · rw [decide_eq_true hd] at hD
      have HD := Lib.hid hD
      have HLS := Lib.hid hd
      clear hD hd
      go_wp2_with fail
      refine HD.out.mono ?_
      rintro e w2 ⟨rfl, hb⟩
      replace hown := own_lo hown hb
      replace hgr := World.grownBy.trans hgr (grown_lo hb (some g))
      clear hb HD
      go_upto_region 2 with fail
      have hip : p ≠ i := by have := HPE.out; omega
      have hi1 : (i : Int) < (l.length : Int) := by omega
      have hp1 : (p : Int) < (l.length : Int) := by omega
      have hxi := List.getElem?_eq_getElem hi
      have hyp := List.getElem?_eq_getElem hpl
      obtain ⟨⟨x1, x2⟩, hx⟩ : ∃ x, m[i] = x := ⟨_, rfl⟩
      obtain ⟨⟨y1, y2⟩, hy⟩ : ∃ y, m[p] = y := ⟨_, rfl⟩
      rw [hx] at hxi
      rw [hy] at hyp
      have HX := Lib.hid (And.intro hx hy)
      clear hx hy
      replace hown : w2.drew.ownsRow _ _ _ _ _ _ := hown
      replace hgr : w.grownBy w2.drew (some g) := ⟨hgr.os, hgr.tape, hgr.output, hgr.size, hgr.block⟩
      have cx0 : w2.drew.cell? ⟨g, i * 2, none⟩ = some (.int .i64 x1) := (hown.cellAt (i * 2) (by omega)).trans (flatMap_get cellsI_len m i 0 _ hxi (by omega))
      have cx1 : w2.drew.cell? ⟨g, i * 2 + 1, none⟩ = some (.int .i64 x2) := (hown.cellAt (i * 2 + 1) (by omega)).trans (flatMap_get cellsI_len m i 1 _ hxi (by omega))
      have cy0 : w2.drew.cell? ⟨g, p * 2, none⟩ = some (.int .i64 y1) := (hown.cellAt (p * 2) (by omega)).trans (flatMap_get cellsI_len m p 0 _ hyp (by omega))
      have cy1 : w2.drew.cell? ⟨g, p * 2 + 1, none⟩ = some (.int .i64 y2) := (hown.cellAt (p * 2 + 1) (by omega)).trans (flatMap_get cellsI_len m p 1 _ hyp (by omega))
      have hgl : g < w2.drew.heap.size := (hown.lt g rfl).2
      refine wp_region_until (S := (fun W => g < W.heap.size ∧ W.cell? ⟨g, i * 2, none⟩ = some (.int .i64 x1) ∧ W.cell? ⟨g, i * 2 + 1, none⟩ = some (.int .i64 x2) ∧ W.cell? ⟨g, p * 2, none⟩ = some (.int .i64 y1) ∧ W.cell? ⟨g, p * 2 + 1, none⟩ = some (.int .i64 y2))) (S2 := fun _ => True) 12 (by kernel_rfl) ?_
      generalize w2.drew = wd at hown hgr cx0 cx1 cy0 cy1 hgl ⊢
      have hG : True ∧ (fun W => g < W.heap.size ∧ W.cell? ⟨g, i * 2, none⟩ = some (.int .i64 x1) ∧ W.cell? ⟨g, i * 2 + 1, none⟩ = some (.int .i64 x2) ∧ W.cell? ⟨g, p * 2, none⟩ = some (.int .i64 y1) ∧ W.cell? ⟨g, p * 2 + 1, none⟩ = some (.int .i64 y2)) wd := ⟨trivial, hgl, cx0, cx1, cy0, cy1⟩
      dsimp only at hG
      (refine until_take2 (i := 0) (oi := _) (v := ?_) (getop rfl) (by decide) (by kernel_rfl) (by kernel_rfl) (by kernel_rfl) (fun _ _ _ h => h) (Or.inl ⟨by rfl, ?_⟩) ⟨hG.1, Or.inr hG.2⟩ ?_; rotate_left; focus (intro w hSw; (try dsimp only at hSw); go_simp; (try with_reducible rfl); done))
      (try simp only [Act.put, List.setIfInBounds_toArray, List.set_cons_zero, List.set_cons_succ])
      (refine until_take2 (i := 1) (oi := _) (v := ?_) (getop rfl) (by decide) (by kernel_rfl) (by kernel_rfl) (by kernel_rfl) (fun _ _ _ h => h) (Or.inl ⟨by rfl, ?_⟩) ⟨hG.1, Or.inr hG.2⟩ ?_; rotate_left; focus (intro w hSw; (try dsimp only at hSw); go_simp; (try with_reducible rfl); done))
      (try simp only [Act.put, List.setIfInBounds_toArray, List.set_cons_zero, List.set_cons_succ])
      (refine until_take2 (i := 2) (oi := _) (v := ?_) (getop rfl) (by decide) (by kernel_rfl) (by kernel_rfl) (by kernel_rfl) (fun _ _ _ h => h) (Or.inl ⟨by rfl, ?_⟩) ⟨hG.1, Or.inr hG.2⟩ ?_; rotate_left; focus (intro w hSw; (try dsimp only at hSw); go_simp; (try with_reducible rfl); done))
      (try simp only [Act.put, List.setIfInBounds_toArray, List.set_cons_zero, List.set_cons_succ])
      (refine until_take2 (i := 3) (oi := _) (v := ?_) (getop rfl) (by decide) (by kernel_rfl) (by kernel_rfl) (by kernel_rfl) (fun _ _ _ h => h) (Or.inl ⟨by rfl, ?_⟩) ⟨hG.1, Or.inr hG.2⟩ ?_; rotate_left; focus (intro w hSw; (try dsimp only at hSw); go_simp; (try with_reducible rfl); done))
      (try simp only [Act.put, List.setIfInBounds_toArray, List.set_cons_zero, List.set_cons_succ])
      (refine until_take2 (i := 4) (oi := _) (v := ?_) (getop rfl) (by decide) (by kernel_rfl) (by kernel_rfl) (by kernel_rfl) (fun _ _ _ h => h) (Or.inl ⟨by rfl, ?_⟩) ⟨hG.1, Or.inr hG.2⟩ ?_; rotate_left; focus (intro w hSw; (try dsimp only at hSw); go_simp; (try with_reducible rfl); done))
      (try simp only [Act.put, List.setIfInBounds_toArray, List.set_cons_zero, List.set_cons_succ])
      (refine until_take2 (i := 5) (oi := _) (v := ?_) (getop rfl) (by decide) (by kernel_rfl) (by kernel_rfl) (by kernel_rfl) (fun _ _ _ h => h) (Or.inl ⟨by rfl, ?_⟩) ⟨hG.1, Or.inr hG.2⟩ ?_; rotate_left; focus (intro w hSw; (try dsimp only at hSw); go_simp; (try with_reducible rfl); done))
      (try simp only [Act.put, List.setIfInBounds_toArray, List.set_cons_zero, List.set_cons_succ])
      (refine until_take2 (i := 6) (oi := _) (v := ?_) (getop rfl) (by decide) (by kernel_rfl) (by kernel_rfl) (by kernel_rfl) (fun _ _ _ h => h) (Or.inl ⟨by rfl, ?_⟩) ⟨hG.1, Or.inr hG.2⟩ ?_; rotate_left; focus (intro w hSw; (try dsimp only at hSw); go_simp; (try with_reducible rfl); done))
      (try simp only [Act.put, List.setIfInBounds_toArray, List.set_cons_zero, List.set_cons_succ])
      (refine until_take (i := 7) (oi := _) (op := _) (v := ?_) (getop rfl) (getop rfl) (by kernel_rfl) (by decide) (by kernel_rfl) (by kernel_rfl) (by kernel_rfl) (by kernel_rfl) (fun _ _ _ h => h) (Or.inl ⟨by rfl, ?_⟩) hG ?_; rotate_left; focus (intro w hSw; (try dsimp only at hSw); go_simp; (try with_reducible rfl); done))
      (try simp only [Act.put, List.setIfInBounds_toArray, List.set_cons_zero, List.set_cons_succ])
      (refine until_take2 (i := 8) (oi := _) (v := ?_) (getop rfl) (by decide) (by kernel_rfl) (by kernel_rfl) (by kernel_rfl) (fun _ _ _ h => h) (Or.inl ⟨by rfl, ?_⟩) ⟨hG.1, Or.inr hG.2⟩ ?_; rotate_left; focus (intro w hSw; (try dsimp only at hSw); go_simp; (try with_reducible rfl); done))
      (try simp only [Act.put, List.setIfInBounds_toArray, List.set_cons_zero, List.set_cons_succ])
      (refine until_take2 (i := 9) (oi := _) (v := ?_) (getop rfl) (by decide) (by kernel_rfl) (by kernel_rfl) (by kernel_rfl) (fun _ _ _ h => h) (Or.inl ⟨by rfl, ?_⟩) ⟨hG.1, Or.inr hG.2⟩ ?_; rotate_left; focus (intro w hSw; (try dsimp only at hSw); go_simp; (try with_reducible rfl); done))
      (try simp only [Act.put, List.setIfInBounds_toArray, List.set_cons_zero, List.set_cons_succ])
      (refine until_take2 (i := 10) (oi := _) (v := ?_) (getop rfl) (by decide) (by kernel_rfl) (by kernel_rfl) (by kernel_rfl) (fun _ _ _ h => h) (Or.inl ⟨by rfl, ?_⟩) ⟨hG.1, Or.inr hG.2⟩ ?_; rotate_left; focus (intro w hSw; (try dsimp only at hSw); go_simp; (try with_reducible rfl); done))
      (try simp only [Act.put, List.setIfInBounds_toArray, List.set_cons_zero, List.set_cons_succ])
      (refine until_take (i := 11) (oi := _) (op := _) (v := ?_) (getop rfl) (getop rfl) (by kernel_rfl) (by decide) (by kernel_rfl) (by kernel_rfl) (by kernel_rfl) (by kernel_rfl) (fun _ _ _ h => h) (Or.inl ⟨by rfl, ?_⟩) hG ?_; rotate_left; focus (intro w hSw; (try dsimp only at hSw); go_simp; (try with_reducible rfl); done))
      (try simp only [Act.put, List.setIfInBounds_toArray, List.set_cons_zero, List.set_cons_succ])
      clear hG
      refine until_step (i := 12) (o := _) (by kernel_rfl) (getop rfl) (by kernel_rfl) (fun K hK => ?_)
      go_simp
      refine hK.out _ _ trivial ?_
      clear hK K
      (try simp only [Act.put, List.setIfInBounds_toArray, List.set_cons_zero, List.set_cons_succ])
      clear cy0 cy1
      have f0 := hown.frozenAt (i * 2)
      have f1 := hown.frozenAt (i * 2 + 1)
      refine until_step (i := 13) (o := _) (by kernel_rfl) (getop rfl) (by kernel_rfl) (fun K hK => ?_)
      go_simp
      clear cx0 cx1 f0 f1
      replace hown := ((hown.stored (i * 2) (.int .i64 y1)).1.stored (i * 2 + 1) (.int .i64 y2)).1
      rw [flatI_set m i (by first | omega | (simp; omega)) y1 y2] at hown
      replace hgr := World.grownBy.trans (World.grownBy.trans hgr (grown_set wd g (i * 2) (.int .i64 y1))) (grown_set _ g (i * 2 + 1) (.int .i64 y2))
      replace hgl : g < ((wd.setCell ⟨g, i * 2, none⟩ (.int .i64 y1)).setCell ⟨g, i * 2 + 1, none⟩ (.int .i64 y2)).heap.size := by simpa using hgl
      generalize (wd.setCell ⟨g, i * 2, none⟩ (.int .i64 y1)).setCell ⟨g, i * 2 + 1, none⟩ (.int .i64 y2) = we at hown hgr hgl ⊢
      refine hK.out _ _ trivial ?_
      clear hK K
      (try simp only [Act.put, List.setIfInBounds_toArray, List.set_cons_zero, List.set_cons_succ])
      have hyp2 : (m.set i (y1, y2))[p]? = some (y1, y2) := by rw [List.getElem?_set_ne (by omega)]; exact hyp
      have cy0 : we.cell? ⟨g, p * 2, none⟩ = some (.int .i64 y1) := (hown.cellAt (p * 2) (by omega)).trans (flatMap_get cellsI_len _ p 0 _ hyp2 (by omega))
      have cy1 : we.cell? ⟨g, p * 2 + 1, none⟩ = some (.int .i64 y2) := (hown.cellAt (p * 2 + 1) (by omega)).trans (flatMap_get cellsI_len _ p 1 _ hyp2 (by omega))
      refine until_step (i := 14) (o := _) (by kernel_rfl) (getop rfl) (by kernel_rfl) (fun K hK => ?_)
      go_simp
      refine hK.out _ _ trivial ?_
      clear hK K
      (try simp only [Act.put, List.setIfInBounds_toArray, List.set_cons_zero, List.set_cons_succ])
      have f0 := hown.frozenAt (p * 2)
      have f1 := hown.frozenAt (p * 2 + 1)
      refine until_step (i := 15) (o := _) (by kernel_rfl) (getop rfl) (by kernel_rfl) (fun K hK => ?_)
      go_simp
      clear cy0 cy1 f0 f1
      replace hown := ((hown.stored (p * 2) (.int .i64 x1)).1.stored (p * 2 + 1) (.int .i64 x2)).1
      rw [flatI_set (m.set i (y1, y2)) p (by first | omega | (simp; omega)) x1 x2] at hown
      replace hgr := World.grownBy.trans (World.grownBy.trans hgr (grown_set we g (p * 2) (.int .i64 x1))) (grown_set _ g (p * 2 + 1) (.int .i64 x2))
      replace hgl : g < ((we.setCell ⟨g, p * 2, none⟩ (.int .i64 x1)).setCell ⟨g, p * 2 + 1, none⟩ (.int .i64 x2)).heap.size := by simpa using hgl
      generalize (we.setCell ⟨g, p * 2, none⟩ (.int .i64 x1)).setCell ⟨g, p * 2 + 1, none⟩ (.int .i64 x2) = wf at hown hgr hgl ⊢
      refine hK.out _ _ trivial ?_
      clear hK K
      (try simp only [Act.put, List.setIfInBounds_toArray, List.set_cons_zero, List.set_cons_succ])
      refine until_done (by kernel_rfl) ?_ _
      replace hown : wf.ownsRow base 64 2 (.slice (some ⟨g, 0, none⟩) l.length cap) l.length ((swapL m i p hi hpl).flatMap cellsI) := by unfold swapL; rw [HX.out.1, HX.out.2]; exact hown
      have HR := Lib.hid (And.intro hown hgr)
      clear hown hgr hxi hyp hyp2
      go_wp2_with fail
      go_step3
      have hpe := HPE.out
      have hper := (swap_perm m i p hi hpl).trans HJ.out.1
      have hinv : upInv (swapL m i p hi hpl) p := by
        subst hpe
        exact up_step HJ.out.2 hi h0 hpl HLS.out
      refine ⟨rfl, ⟨swapL m i p hi hpl, p, _, _, _, _, _, _, _, _, _, _, _, _, _, _, _, _, _, _, _, _, _, _, _, _, _, _, _, _, _, rfl, hper, hinv, by rw [swap_len]; exact hpl, HR.out.1, HR.out.2⟩, ?_⟩
      simp [idx1, intOf]
      omega
    · rw [decide_eq_false hd] at hD
      have HD := Lib.hid hD
      have HLS := Lib.hid hd
      clear hD hd
      go_wp2_with fail
      refine HD.out.mono ?_
      rintro e w2 ⟨rfl, hb⟩
      have HR := Lib.hid (And.intro (own_lo hown hb) (World.grownBy.trans hgr (grown_lo hb (some g))))
      clear hb HD hown hgr
      go_wp2_with fail
      simp only [Exit.jump]
      have hpe := HPE.out
      subst hpe
      exact bodyPost_ret (v := .tuple #[]) (by simp [results, Try.results35, go_sem]) rfl ⟨m, HJ.out.1, up_done HJ.out.2 hi (.inr HLS.out), rfl, HR.out.1, HR.out.2⟩
  · have h0' : ¬ (0 : Int) < (i : Int) := by omega
    have HR := Lib.hid (And.intro hown hgr)
    clear hown hgr hA
    go_wp2_with fail
    simp only [Exit.jump]
    exact bodyPost_ret (v := .tuple #[]) (by simp [results, Try.results35, go_sem]) rfl ⟨m, HJ.out.1, up_done HJ.out.2 hi (.inl (by omega)), rfl, HR.out.1, HR.out.2⟩
theorem less_trans {a b c : Int × Int} (h : lessP a b) (k : lessP b c) : lessP a c := by
  unfold lessP at *
  omega
theorem less_irr (a : Int × Int) : ¬ lessP a a := fun h => less_asym h h
def DownJ (w : World) (base g cap : Nat) (l : List (Int × Int)) (a' : Act) (w' : World) : Prop :=
  ∃ (m : List (Int × Int)) (i : Nat) (u2 u3 u4 u5 u6 u7 u8 u9 u10 u11 u12 u13 u14 u15 u16 u17 u18 u19 u20 u21 u22 u23 u24 u25 u26 u27 u28 u29 u30 u31 u32 u33 u34 u35 u36 u37 u38 u39 u40 u41 u42 u43 u44 u45 : Value), a' = { tmps := #[.slice (some ⟨g, 0, none⟩) l.length cap, .int .i64 i, u2, u3, u4, u5, u6, u7, u8, u9, u10, u11, u12, u13, u14, u15, u16, u17, u18, u19, u20, u21, u22, u23, u24, u25, u26, u27, u28, u29, u30, u31, u32, u33, u34, u35, u36, u37, u38, u39, u40, u41, u42, u43, u44, u45], defers := [] } ∧ m.Perm l ∧ downInv m i ∧ i < m.length ∧ w'.ownsRow base 64 2 (.slice (some ⟨g, 0, none⟩) l.length cap) l.length (m.flatMap cellsI) ∧ w.grownBy w' (some g)
/-- The least one of i and of those below it, ahead of k. -/
def leastK (m : List (Int × Int)) (i k s : Nat) : Prop := ∃ (hs : s < m.length) (hi : i < m.length), (s = i ∨ (2 * i + 1 ≤ s ∧ s < k ∧ lessP m[s] m[i])) ∧ ¬ lessP m[i] m[s] ∧ ∀ j (hj : j < m.length), 2 * i + 1 ≤ j → j < k → ¬ lessP m[j] m[s]
theorem least_start {m : List (Int × Int)} {i : Nat} (hi : i < m.length) : leastK m i (2 * i + 1) i := ⟨hi, hi, .inl rfl, less_irr _, fun j hj h1 h2 => by omega⟩
theorem least_keep {m : List (Int × Int)} {i k s : Nat} (h : leastK m i k s) (hk : k < m.length) (hs : s < m.length) (hn : ¬ lessP m[k] m[s]) : leastK m i (k + 1) s := by
  obtain ⟨h1, h2, h3, h4, h5⟩ := h
  refine ⟨h1, h2, ?_, h4, fun j hj j1 j2 => ?_⟩
  · rcases h3 with h3 | ⟨a, b, c⟩
    · exact .inl h3
    · exact .inr ⟨a, by omega, c⟩
  · by_cases hjk : j = k
    · subst hjk; exact hn
    · exact h5 j hj j1 (by omega)
theorem least_take {m : List (Int × Int)} {i k s : Nat} (h : leastK m i k s) (hk : k < m.length) (hk1 : 2 * i + 1 ≤ k) (hs : s < m.length) (hn : lessP m[k] m[s]) : leastK m i (k + 1) k := by
  obtain ⟨h1, h2, h3, h4, h5⟩ := h
  have hki : lessP m[k] m[i] := by
    rcases h3 with rfl | ⟨a, b, c⟩
    · exact hn
    · exact less_trans hn c
  refine ⟨hk, h2, .inr ⟨hk1, by omega, hki⟩, less_asym hki, fun j hj j1 j2 => ?_⟩
  by_cases hjk : j = k
  · subst hjk; exact less_irr _
  · exact fun hl => h5 j hj j1 (by omega) (less_trans hl hn)
set_option maxRecDepth 100000 in
set_option maxHeartbeats 1600000 in
theorem down_ok (base g cap : Nat) (l : List (Int × Int)) (i : Nat) (w : World) (hown : w.ownsRow base 64 2 (.slice (some ⟨g, 0, none⟩) l.length cap) l.length (l.flatMap cellsI)) (hi : i < l.length) (hu : downInv l i) (hn : l.length ≤ 100) :
    Calls Try.prog 47 #[.slice (some ⟨g, 0, none⟩) l.length cap, .int .i64 i] w (SiftPost w base g cap l) := by
  go_enter Try.func47, Try.ntmps47
  refine wp_scope_back 0 (DownJ w base g cap l) (fun a' _ => l.length - idx1 a') ⟨l, i, _, _, _, _, _, _, _, _, _, _, _, _, _, _, _, _, _, _, _, _, _, _, _, _, _, _, _, _, _, _, _, _, _, _, _, _, _, _, _, _, _, _, _, _, rfl, List.Perm.refl _, hu, hi, hown, grown_lo (lo_refl w) _⟩ ?_
  clear hown hi hu
  rintro a' w' ⟨m, i, u2, u3, u4, u5, u6, u7, u8, u9, u10, u11, u12, u13, u14, u15, u16, u17, u18, u19, u20, u21, u22, u23, u24, u25, u26, u27, u28, u29, u30, u31, u32, u33, u34, u35, u36, u37, u38, u39, u40, u41, u42, u43, u44, u45, rfl, hp, hu, hi, hown, hgr⟩
  have HJ := Lib.hid (And.intro hp hu)
  have hml := hp.length_eq
  have HIL := Lib.hid hi
  clear hp hu
  have hw1 : IntKind.i64.wrap (2 * (i : Int)) = 2 * (i : Int) := IntWalk.i64_in _ (by omega)
  have hw2 : IntKind.i64.wrap (2 * (i : Int) + 1) = 2 * (i : Int) + 1 := IntWalk.i64_in _ (by omega)
  have hw3 : IntKind.i64.wrap (2 * (i : Int) + 2) = 2 * (i : Int) + 2 := IntWalk.i64_in _ (by omega)
  go_wp2_with fail
  go_loopw [4, 5] (fun z y wr => ∃ s k : Nat, z = .int .i64 s ∧ y = .int .i64 k ∧ 2 * i + 1 ≤ k ∧ k ≤ 2 * i + 3 ∧ Hid (leastK m i k s) ∧ wr.ownsRow base 64 2 (.slice (some ⟨g, 0, none⟩) l.length cap) l.length (m.flatMap cellsI) ∧ w.grownBy wr (some g)) (fun _ y _ => 2 * i + 3 - (intOf y).toNat)
  case atStart => exact ⟨i, 2 * i + 1, rfl, by go_num, Nat.le_refl _, by omega, Lib.hid (least_start hi), hown, hgr⟩
  case round =>
  clear hown hgr
  obtain ⟨s, k, rfl, rfl, k1, k2, HLS, hown, hgr⟩ := hrel
  have hsl : s < m.length := HLS.out.1
  by_cases hgo : k ≤ 2 * i + 2 ∧ k < m.length
  · obtain ⟨g1, g2⟩ := hgo
    have g1' : (k : Int) ≤ 2 * (i : Int) + 2 := by omega
    have g2' : (k : Int) < (l.length : Int) := by omega
    have hA := agg_own cellsI_len (by decide) hown (fun _ _ => trivial : ∀ x ∈ m, (fun _ => True) x)
    have hD := less_at (some ⟨g, 0, none⟩) l.length cap m k s g2 hsl wr hA (by omega)
    clear hA
    by_cases hd : lessP m[k] m[s]
    · rw [decide_eq_true hd] at hD
      have HD := Lib.hid hD
      have HN := Lib.hid (least_take HLS.out g2 k1 hsl hd)
      clear hD hd
      go_wp2_with fail
      refine HD.out.mono ?_
      rintro e w2 ⟨rfl, hb⟩
      replace hown := own_lo hown hb
      replace hgr := World.grownBy.trans hgr (grown_lo hb (some g))
      clear hb HD
      go_wp2_with fail
      go_roundw
      case rel => exact ⟨k, k + 1, rfl, by go_num, by omega, by omega, HN, hown, hgr⟩
      case measure => simp [intOf]; omega
    · rw [decide_eq_false hd] at hD
      have HD := Lib.hid hD
      have HN := Lib.hid (least_keep HLS.out g2 hsl hd)
      clear hD hd
      go_wp2_with fail
      refine HD.out.mono ?_
      rintro e w2 ⟨rfl, hb⟩
      replace hown := own_lo hown hb
      replace hgr := World.grownBy.trans hgr (grown_lo hb (some g))
      clear hb HD
      go_wp2_with fail
      go_roundw
      case rel => exact ⟨s, k + 1, rfl, by go_num, by omega, by omega, HN, hown, hgr⟩
      case measure => simp [intOf]; omega
  · go_upto_region 2 with fail
    go_cut [20] (fun u wc => u = .bool false ∧ wc = wr)
    case first =>
      by_cases g1 : k ≤ 2 * i + 2
      · have g1' : (k : Int) ≤ 2 * (i : Int) + 2 := by omega
        have g2' : ¬ (k : Int) < (l.length : Int) := by omega
        go_wp2_with fail
        go_meet
        exact ⟨by simp <;> omega, rfl⟩
      · have g1' : ¬ (k : Int) ≤ 2 * (i : Int) + 2 := by omega
        go_wp2_with fail
        go_meet
        exact ⟨by simp <;> omega, rfl⟩
    case rest =>
    obtain ⟨rfl, rfl⟩ := hcut
    have hch : ∀ j (hj : j < m.length), 0 < j → (j - 1) / 2 = i → ¬ lessP m[j] m[s] := fun j hj j0 ji => HLS.out.2.2.2.2 j hj (by omega) (by omega)
    have HCH := Lib.hid hch
    have hcs : s = i ∨ (2 * i + 1 ≤ s ∧ s < k ∧ lessP (m[s]'hsl) (m[i]'hi)) := HLS.out.2.2.1
    clear hch hgo k1 HLS
    by_cases hsi : s = i
    · have hsi' : (s : Int) = (i : Int) := by omega
      subst hsi
      have HR := Lib.hid (And.intro hown hgr)
      clear hown hgr hcs
      go_wp2_with fail
      simp only [Exit.jump]
      exact bodyPost_ret (v := .tuple #[]) (by simp [results, Try.results47, go_sem]) rfl ⟨m, HJ.out.1, down_done HJ.out.2 (fun j hj j0 ji => HCH.out j hj j0 ji), rfl, HR.out.1, HR.out.2⟩
    · have hsi' : ¬ (s : Int) = (i : Int) := by omega
      rcases hcs with hcs | ⟨c1, c2, c3⟩
      · exact absurd hcs hsi
      have HC3 := Lib.hid c3
      clear c3
      have hpl := hsl
      have hip : s ≠ i := hsi
      have hi := HIL.out
      go_upto_region 7 with fail
      have hi1 : (i : Int) < (l.length : Int) := by omega
      have hp1 : (s : Int) < (l.length : Int) := by omega
      have hxi := List.getElem?_eq_getElem hi
      have hyp := List.getElem?_eq_getElem hpl
      obtain ⟨⟨x1, x2⟩, hx⟩ : ∃ x, m[i] = x := ⟨_, rfl⟩
      obtain ⟨⟨y1, y2⟩, hy⟩ : ∃ y, m[s] = y := ⟨_, rfl⟩
      rw [hx] at hxi
      rw [hy] at hyp
      have HX := Lib.hid (And.intro hx hy)
      clear hx hy
      replace hown : wc.drew.ownsRow _ _ _ _ _ _ := hown
      replace hgr : w.grownBy wc.drew (some g) := ⟨hgr.os, hgr.tape, hgr.output, hgr.size, hgr.block⟩
      have cx0 : wc.drew.cell? ⟨g, i * 2, none⟩ = some (.int .i64 x1) := (hown.cellAt (i * 2) (by omega)).trans (flatMap_get cellsI_len m i 0 _ hxi (by omega))
      have cx1 : wc.drew.cell? ⟨g, i * 2 + 1, none⟩ = some (.int .i64 x2) := (hown.cellAt (i * 2 + 1) (by omega)).trans (flatMap_get cellsI_len m i 1 _ hxi (by omega))
      have cy0 : wc.drew.cell? ⟨g, s * 2, none⟩ = some (.int .i64 y1) := (hown.cellAt (s * 2) (by omega)).trans (flatMap_get cellsI_len m s 0 _ hyp (by omega))
      have cy1 : wc.drew.cell? ⟨g, s * 2 + 1, none⟩ = some (.int .i64 y2) := (hown.cellAt (s * 2 + 1) (by omega)).trans (flatMap_get cellsI_len m s 1 _ hyp (by omega))
      have hgl : g < wc.drew.heap.size := (hown.lt g rfl).2
      refine wp_region_until (S := (fun W => g < W.heap.size ∧ W.cell? ⟨g, i * 2, none⟩ = some (.int .i64 x1) ∧ W.cell? ⟨g, i * 2 + 1, none⟩ = some (.int .i64 x2) ∧ W.cell? ⟨g, s * 2, none⟩ = some (.int .i64 y1) ∧ W.cell? ⟨g, s * 2 + 1, none⟩ = some (.int .i64 y2))) (S2 := fun _ => True) 12 (by kernel_rfl) ?_
      generalize wc.drew = wd at hown hgr cx0 cx1 cy0 cy1 hgl ⊢
      have hG : True ∧ (fun W => g < W.heap.size ∧ W.cell? ⟨g, i * 2, none⟩ = some (.int .i64 x1) ∧ W.cell? ⟨g, i * 2 + 1, none⟩ = some (.int .i64 x2) ∧ W.cell? ⟨g, s * 2, none⟩ = some (.int .i64 y1) ∧ W.cell? ⟨g, s * 2 + 1, none⟩ = some (.int .i64 y2)) wd := ⟨trivial, hgl, cx0, cx1, cy0, cy1⟩
      dsimp only at hG
      (refine until_take2 (i := 0) (oi := _) (v := ?_) (getop rfl) (by decide) (by kernel_rfl) (by kernel_rfl) (by kernel_rfl) (fun _ _ _ h => h) (Or.inl ⟨by rfl, ?_⟩) ⟨hG.1, Or.inr hG.2⟩ ?_; rotate_left; focus (intro w hSw; (try dsimp only at hSw); go_simp; (try with_reducible rfl); done))
      (try simp only [Act.put, List.setIfInBounds_toArray, List.set_cons_zero, List.set_cons_succ])
      (refine until_take2 (i := 1) (oi := _) (v := ?_) (getop rfl) (by decide) (by kernel_rfl) (by kernel_rfl) (by kernel_rfl) (fun _ _ _ h => h) (Or.inl ⟨by rfl, ?_⟩) ⟨hG.1, Or.inr hG.2⟩ ?_; rotate_left; focus (intro w hSw; (try dsimp only at hSw); go_simp; (try with_reducible rfl); done))
      (try simp only [Act.put, List.setIfInBounds_toArray, List.set_cons_zero, List.set_cons_succ])
      (refine until_take2 (i := 2) (oi := _) (v := ?_) (getop rfl) (by decide) (by kernel_rfl) (by kernel_rfl) (by kernel_rfl) (fun _ _ _ h => h) (Or.inl ⟨by rfl, ?_⟩) ⟨hG.1, Or.inr hG.2⟩ ?_; rotate_left; focus (intro w hSw; (try dsimp only at hSw); go_simp; (try with_reducible rfl); done))
      (try simp only [Act.put, List.setIfInBounds_toArray, List.set_cons_zero, List.set_cons_succ])
      (refine until_take2 (i := 3) (oi := _) (v := ?_) (getop rfl) (by decide) (by kernel_rfl) (by kernel_rfl) (by kernel_rfl) (fun _ _ _ h => h) (Or.inl ⟨by rfl, ?_⟩) ⟨hG.1, Or.inr hG.2⟩ ?_; rotate_left; focus (intro w hSw; (try dsimp only at hSw); go_simp; (try with_reducible rfl); done))
      (try simp only [Act.put, List.setIfInBounds_toArray, List.set_cons_zero, List.set_cons_succ])
      (refine until_take2 (i := 4) (oi := _) (v := ?_) (getop rfl) (by decide) (by kernel_rfl) (by kernel_rfl) (by kernel_rfl) (fun _ _ _ h => h) (Or.inl ⟨by rfl, ?_⟩) ⟨hG.1, Or.inr hG.2⟩ ?_; rotate_left; focus (intro w hSw; (try dsimp only at hSw); go_simp; (try with_reducible rfl); done))
      (try simp only [Act.put, List.setIfInBounds_toArray, List.set_cons_zero, List.set_cons_succ])
      (refine until_take2 (i := 5) (oi := _) (v := ?_) (getop rfl) (by decide) (by kernel_rfl) (by kernel_rfl) (by kernel_rfl) (fun _ _ _ h => h) (Or.inl ⟨by rfl, ?_⟩) ⟨hG.1, Or.inr hG.2⟩ ?_; rotate_left; focus (intro w hSw; (try dsimp only at hSw); go_simp; (try with_reducible rfl); done))
      (try simp only [Act.put, List.setIfInBounds_toArray, List.set_cons_zero, List.set_cons_succ])
      (refine until_take2 (i := 6) (oi := _) (v := ?_) (getop rfl) (by decide) (by kernel_rfl) (by kernel_rfl) (by kernel_rfl) (fun _ _ _ h => h) (Or.inl ⟨by rfl, ?_⟩) ⟨hG.1, Or.inr hG.2⟩ ?_; rotate_left; focus (intro w hSw; (try dsimp only at hSw); go_simp; (try with_reducible rfl); done))
      (try simp only [Act.put, List.setIfInBounds_toArray, List.set_cons_zero, List.set_cons_succ])
      (refine until_take (i := 7) (oi := _) (op := _) (v := ?_) (getop rfl) (getop rfl) (by kernel_rfl) (by decide) (by kernel_rfl) (by kernel_rfl) (by kernel_rfl) (by kernel_rfl) (fun _ _ _ h => h) (Or.inl ⟨by rfl, ?_⟩) hG ?_; rotate_left; focus (intro w hSw; (try dsimp only at hSw); go_simp; (try with_reducible rfl); done))
      (try simp only [Act.put, List.setIfInBounds_toArray, List.set_cons_zero, List.set_cons_succ])
      (refine until_take2 (i := 8) (oi := _) (v := ?_) (getop rfl) (by decide) (by kernel_rfl) (by kernel_rfl) (by kernel_rfl) (fun _ _ _ h => h) (Or.inl ⟨by rfl, ?_⟩) ⟨hG.1, Or.inr hG.2⟩ ?_; rotate_left; focus (intro w hSw; (try dsimp only at hSw); go_simp; (try with_reducible rfl); done))
      (try simp only [Act.put, List.setIfInBounds_toArray, List.set_cons_zero, List.set_cons_succ])
      (refine until_take2 (i := 9) (oi := _) (v := ?_) (getop rfl) (by decide) (by kernel_rfl) (by kernel_rfl) (by kernel_rfl) (fun _ _ _ h => h) (Or.inl ⟨by rfl, ?_⟩) ⟨hG.1, Or.inr hG.2⟩ ?_; rotate_left; focus (intro w hSw; (try dsimp only at hSw); go_simp; (try with_reducible rfl); done))
      (try simp only [Act.put, List.setIfInBounds_toArray, List.set_cons_zero, List.set_cons_succ])
      (refine until_take2 (i := 10) (oi := _) (v := ?_) (getop rfl) (by decide) (by kernel_rfl) (by kernel_rfl) (by kernel_rfl) (fun _ _ _ h => h) (Or.inl ⟨by rfl, ?_⟩) ⟨hG.1, Or.inr hG.2⟩ ?_; rotate_left; focus (intro w hSw; (try dsimp only at hSw); go_simp; (try with_reducible rfl); done))
      (try simp only [Act.put, List.setIfInBounds_toArray, List.set_cons_zero, List.set_cons_succ])
      (refine until_take (i := 11) (oi := _) (op := _) (v := ?_) (getop rfl) (getop rfl) (by kernel_rfl) (by decide) (by kernel_rfl) (by kernel_rfl) (by kernel_rfl) (by kernel_rfl) (fun _ _ _ h => h) (Or.inl ⟨by rfl, ?_⟩) hG ?_; rotate_left; focus (intro w hSw; (try dsimp only at hSw); go_simp; (try with_reducible rfl); done))
      (try simp only [Act.put, List.setIfInBounds_toArray, List.set_cons_zero, List.set_cons_succ])
      clear hG
      refine until_step (i := 12) (o := _) (by kernel_rfl) (getop rfl) (by kernel_rfl) (fun K hK => ?_)
      go_simp
      refine hK.out _ _ trivial ?_
      clear hK K
      (try simp only [Act.put, List.setIfInBounds_toArray, List.set_cons_zero, List.set_cons_succ])
      clear cy0 cy1
      have f0 := hown.frozenAt (i * 2)
      have f1 := hown.frozenAt (i * 2 + 1)
      refine until_step (i := 13) (o := _) (by kernel_rfl) (getop rfl) (by kernel_rfl) (fun K hK => ?_)
      go_simp
      clear cx0 cx1 f0 f1
      replace hown := ((hown.stored (i * 2) (.int .i64 y1)).1.stored (i * 2 + 1) (.int .i64 y2)).1
      rw [flatI_set m i (by first | omega | (simp; omega)) y1 y2] at hown
      replace hgr := World.grownBy.trans (World.grownBy.trans hgr (grown_set wd g (i * 2) (.int .i64 y1))) (grown_set _ g (i * 2 + 1) (.int .i64 y2))
      replace hgl : g < ((wd.setCell ⟨g, i * 2, none⟩ (.int .i64 y1)).setCell ⟨g, i * 2 + 1, none⟩ (.int .i64 y2)).heap.size := by simpa using hgl
      generalize (wd.setCell ⟨g, i * 2, none⟩ (.int .i64 y1)).setCell ⟨g, i * 2 + 1, none⟩ (.int .i64 y2) = we at hown hgr hgl ⊢
      refine hK.out _ _ trivial ?_
      clear hK K
      (try simp only [Act.put, List.setIfInBounds_toArray, List.set_cons_zero, List.set_cons_succ])
      have hyp2 : (m.set i (y1, y2))[s]? = some (y1, y2) := by rw [List.getElem?_set_ne (by omega)]; exact hyp
      have cy0 : we.cell? ⟨g, s * 2, none⟩ = some (.int .i64 y1) := (hown.cellAt (s * 2) (by omega)).trans (flatMap_get cellsI_len _ s 0 _ hyp2 (by omega))
      have cy1 : we.cell? ⟨g, s * 2 + 1, none⟩ = some (.int .i64 y2) := (hown.cellAt (s * 2 + 1) (by omega)).trans (flatMap_get cellsI_len _ s 1 _ hyp2 (by omega))
      refine until_step (i := 14) (o := _) (by kernel_rfl) (getop rfl) (by kernel_rfl) (fun K hK => ?_)
      go_simp
      refine hK.out _ _ trivial ?_
      clear hK K
      (try simp only [Act.put, List.setIfInBounds_toArray, List.set_cons_zero, List.set_cons_succ])
      have f0 := hown.frozenAt (s * 2)
      have f1 := hown.frozenAt (s * 2 + 1)
      refine until_step (i := 15) (o := _) (by kernel_rfl) (getop rfl) (by kernel_rfl) (fun K hK => ?_)
      go_simp
      clear cy0 cy1 f0 f1
      replace hown := ((hown.stored (s * 2) (.int .i64 x1)).1.stored (s * 2 + 1) (.int .i64 x2)).1
      rw [flatI_set (m.set i (y1, y2)) s (by first | omega | (simp; omega)) x1 x2] at hown
      replace hgr := World.grownBy.trans (World.grownBy.trans hgr (grown_set we g (s * 2) (.int .i64 x1))) (grown_set _ g (s * 2 + 1) (.int .i64 x2))
      replace hgl : g < ((we.setCell ⟨g, s * 2, none⟩ (.int .i64 x1)).setCell ⟨g, s * 2 + 1, none⟩ (.int .i64 x2)).heap.size := by simpa using hgl
      generalize (we.setCell ⟨g, s * 2, none⟩ (.int .i64 x1)).setCell ⟨g, s * 2 + 1, none⟩ (.int .i64 x2) = wf at hown hgr hgl ⊢
      refine hK.out _ _ trivial ?_
      clear hK K
      (try simp only [Act.put, List.setIfInBounds_toArray, List.set_cons_zero, List.set_cons_succ])
      refine until_done (by kernel_rfl) ?_ _
      replace hown : wf.ownsRow base 64 2 (.slice (some ⟨g, 0, none⟩) l.length cap) l.length ((swapL m i s hi hpl).flatMap cellsI) := by unfold swapL; rw [HX.out.1, HX.out.2]; exact hown
      have HR := Lib.hid (And.intro hown hgr)
      clear hown hgr hxi hyp hyp2
      go_wp2_with fail
      go_step3
      have hper := (swap_perm m i s hi hpl).trans HJ.out.1
      have hinv : downInv (swapL m i s hi hpl) s := down_step HJ.out.2 hi hpl (by omega) (by omega) HC3.out fun j hj j0 ji => HCH.out j hj j0 ji
      refine ⟨rfl, ⟨swapL m i s hi hpl, s, _, _, _, _, _, _, _, _, _, _, _, _, _, _, _, _, _, _, _, _, _, _, _, _, _, _, _, _, _, _, _, _, _, _, _, _, _, _, _, _, _, _, _, _, rfl, hper, hinv, by rw [swap_len]; exact hpl, HR.out.1, HR.out.2⟩, ?_⟩
      simp [idx1, intOf]
      omega
end Go.Proofs.Ytfpagiojdgdbeaa
