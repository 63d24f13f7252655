import Derived.Laws.OwnMore
import Derived.Laws.Cover3
import Derived.Test.YtfpagiojdgdbeaaFind
namespace Go.Proofs.Ytfpagiojdgdbeaa
open Go.RowKit
attribute [local go_sem ↓] Go.wp_at_zero Go.wp_at_succ

/-- How much work there is. -/
def leftL (l : List Rq) : Int := (l.map Rq.left).sum
theorem left_cons (x : Rq) (l : List Rq) : leftL (x :: l) = x.left + leftL l := rfl
theorem left_snoc (l : List Rq) (x : Rq) : leftL (l ++ [x]) = leftL l + x.left := by simp [leftL]
theorem left_take {l : List Rq} {k : Nat} (h : k < l.length) : leftL (l.take (k + 1)) = leftL (l.take k) + l[k].left := by
  rw [← List.take_append_getElem h, left_snoc]
theorem left_le {l : List Rq} (h : ∀ x ∈ l, x.right) : 0 ≤ leftL l ∧ leftL l ≤ l.length * 1099511627776 := by
  induction l with
  | nil => exact ⟨Int.le_refl _, by simp [leftL]⟩
  | cons x t ih =>
    rw [left_cons, List.length_cons]
    have h1 := ih fun y hy => h y (List.mem_cons_of_mem _ hy)
    have h2 := (h x (List.mem_cons_self ..)).2.2.1
    omega
set_option maxRecDepth 100000 in
set_option maxHeartbeats 1600000 in
theorem left_ok (lim : Int) (A : Option Addr) (n cap : Nat) (l : List Rq) (w : World) (hl : Rqs w A n cap l) (hok : okQ lim l) : Calls Try.prog 39 #[.agg #[.int .i64 lim, .slice A n cap]] w (IntPost w (leftL l)) := by
  have HL := Lib.hid hl
  have hln := hl.1
  have hln2 : n ≤ 16 := by rw [← hln]; exact hok.2.1
  have H1 : Hid (∀ w0, Rqs w0 A n cap l → Calls Try.prog 36 #[.agg #[.int .i64 lim, .slice A n cap]] w0 (IntPost w0 0)) := Lib.hid fun w0 h0 => check_ok lim A n cap l w0 h0 hok
  have HO := Lib.hid hok
  have hQ := Blk.new w 58 #[.int .i64 lim, .slice A n cap]
  have hL := lo_alloc (lo_refl w) (.cells #[.int .i64 lim, .slice A n cap] 58)
  clear hl hok
  obtain ⟨cQ, fQ⟩ := hQ.facts
  go_enter Try.func39, Try.ntmps39
  go_wp2_with fail
  refine (H1.out _ (agg_lo HL.out hL)).mono ?_
  rintro e w1 ⟨rfl, hb⟩
  clear cQ fQ
  replace hQ := hQ.lo hb
  replace hL := lo_trans hL hb
  clear hb H1
  obtain ⟨cQ, fQ⟩ := hQ.facts
  go_upto_region 5 with fail
  clear cQ fQ hQ
  go_loopw [3, 5, 12] (fun s _ y wr => ∃ k : Nat, k ≤ n ∧ y = .int .i64 k ∧ s = .int .i64 (leftL (l.take k)) ∧ Below w.heap.size w wr) (fun _ _ y _ => n - (intOf y).toNat)
  case atStart => exact ⟨0, by omega, rfl, rfl, hL⟩
  case round =>
  clear hL
  obtain ⟨k, hk, rfl, rfl, hL⟩ := hrel
  by_cases hkl : k < n
  · have hkl' : (k : Int) < (n : Int) := by omega
    obtain ⟨b, off, rfl, hlt, hc⟩ := HL.out.2.2.2.2.1 k l[k] (List.getElem?_eq_getElem (by omega))
    have hc0 := ((lo_cell hL).1 b _ hlt).trans (hc 0 _ rfl)
    have hc1 := ((lo_cell hL).1 b _ hlt).trans (hc 1 _ rfl)
    have hc2 := ((lo_cell hL).1 b _ hlt).trans (hc 2 _ rfl)
    have hc3 := ((lo_cell hL).1 b _ hlt).trans (hc 3 _ rfl)
    simp only [Nat.add_zero] at hc0 hc1 hc2 hc3
    have hs := left_take (l := l) (k := k) (by omega)
    have hbd := left_le (l := l.take k) fun x hx => HO.out.2.2.1 x (List.mem_of_mem_take hx)
    have hxr := (HO.out.2.2.1 l[k] (List.getElem_mem _)).2.2.1
    rw [List.length_take] at hbd
    have hb : b < wr.heap.size := Nat.lt_of_lt_of_le hlt hL.size
    generalize l[k] = x at hc0 hc1 hc2 hc3 hs hxr
    generalize leftL (l.take k) = sm at hs hbd
    have hw : IntKind.i64.wrap (sm + x.left) = sm + x.left := IntWalk.i64_in _ (by omega)
    have HS := Lib.hid hs
    clear hc hlt hs hxr hbd
    have hX := Blk.new wr 68 #[.int .i64 x.id, .int .i64 x.rank, .int .i64 x.left, .int .i64 x.passed]
    replace hL := lo_alloc hL (.cells #[.int .i64 x.id, .int .i64 x.rank, .int .i64 x.left, .int .i64 x.passed] 68)
    obtain ⟨cX, fX⟩ := hX.facts
    go_wp2_with fail
    go_roundw
    case rel => exact ⟨k + 1, by omega, by go_num, by rw [HS.out], hL⟩
    case measure => simp [intOf]; omega
  · have hkl' : ¬ (k : Int) < (n : Int) := by omega
    have hM := Lib.hid hL
    have hke : l.take k = l := List.take_of_length_le (by omega)
    rw [hke]
    clear hL hke
    go_wp2_with fail
    go_ret
    exact ⟨rfl, hM.out⟩
/-- A row of a call's own. -/
def RowPost (w : World) (l : List Rq) (e : Ending) (w' : World) : Prop := ∃ base u, w.heap.size ≤ base ∧ base ≤ w'.heap.size ∧ e = .returned u ∧ w'.ownsRow base 68 4 u l.length (l.flatMap cellsR) ∧ Below w.heap.size w w'
theorem info68 : (Try.prog.info? 68).map (fun i => (i.zero, i.size, i.bytes)) = some (some (.agg #[.int .i64 0, .int .i64 0, .int .i64 0, .int .i64 0]), 4, 32) := by kernel_rfl
theorem rqs_flat {w : World} {A : Option Addr} {n cap : Nat} {l : List Rq} (h : Rqs w A n cap l) : ∀ j u, (l.flatMap cellsR)[j]? = some u → ∃ b off, A = some ⟨b, off, none⟩ ∧ w.cell? ⟨b, off + j, none⟩ = some u := by
  intro j u hu
  have hj : j < l.length * 4 := by have := (List.getElem?_eq_some_iff.1 hu).1; rwa [flatMap_len cellsR_len] at this
  obtain ⟨b, off, he, _, hc⟩ := h.2.2.2.2.1 (j / 4) l[j / 4] (List.getElem?_eq_getElem (by omega))
  have hg := flatMap_get cellsR_len l (j / 4) (j % 4) l[j / 4] (List.getElem?_eq_getElem (by omega)) (by omega)
  rw [show j / 4 * 4 + j % 4 = j by omega, hu] at hg
  have := hc (j % 4) u hg.symm
  rw [show off + j / 4 * 4 + j % 4 = off + j by omega] at this
  exact ⟨b, off, he, this⟩
theorem one_flat (l : List Rq) : ∀ u ∈ l.flatMap cellsR, u.oneCell' = true := by
  intro u hu
  obtain ⟨x, _, hx⟩ := List.mem_flatMap.1 hu
  simp [cellsR] at hx
  rcases hx with rfl | rfl | rfl | rfl <;> rfl
theorem nil56 (a : Option Addr) (n c : Nat) (w : World) : (binOp .eql 56 (.slice a n c) (.slice none 0 0)).run Try.prog w = .ok (.bool a.isNone) w := by
  unfold binOp
  simp [run_equal_slice_nil w 56 68 a n c Try.underlying56]
set_option maxRecDepth 100000 in
set_option maxHeartbeats 1600000 in
theorem clone_any (A : Option Addr) (n cap : Nat) (l : List Rq) (w : World) (hl : Rqs w A n cap l) (hn : n ≤ 1000) : Calls Try.prog 48 #[.slice A n cap] w (RowPost w l) := by
  have hln := hl.1
  rcases A with _ | ⟨b, off, sp⟩
  · have hn0 := (hl.2.2.2.1 rfl).1
    have hl0 : l = [] := List.eq_nil_of_length_eq_zero (by omega)
    have hc0 := (hl.2.2.2.1 rfl).2
    subst hl0
    subst hn0
    have hq := nil56 none 0 0
    simp only [Option.isNone_none] at hq
    clear hl hln
    go_enter Try.func48, Try.ntmps48
    go_wp2_with fail
    go_ret
    exact ⟨w.heap.size, _, Nat.le_refl _, Nat.le_refl _, rfl, World.ownsRow_nil _ _ _ _, lo_refl _⟩
  · have hr0 := World.ownsRow_lit (base := w.heap.size) (e := 68) (size := 4) w #[] 0 (Nat.le_refl _) (by decide) rfl
    obtain ⟨i0, hi, hz0, hz1, hz2⟩ := info_parts info68
    have hL := lo_alloc (lo_refl w) (.cells #[] 68)
    have HF : Hid (∀ W, Below w.heap.size w W → ∀ j u, (l.flatMap cellsR)[j]? = some u → ∃ b' off', (some ⟨b, off, sp⟩ : Option Addr) = some ⟨b', off', none⟩ ∧ W.cell? ⟨b', off' + j, none⟩ = some u) := Lib.hid fun W hb => rqs_flat (agg_lo hl hb)
    have hfl : (l.flatMap cellsR).length = n * 4 := by rw [flatMap_len cellsR_len, hln]
    have hq := nil56 (some ⟨b, off, sp⟩) n cap
    simp only [Option.isNone_some] at hq
    clear hl
    go_enter Try.func48, Try.ntmps48
    go_wp2_with (at_builtin; refine wp_append_row rfl _ _ 56 rfl w.heap.size 68 i0 _ 4 32 Try.underlying56 hi hz0 hz1 hz2 rfl (by decide) _ _ _ rfl hr0 (some ⟨b, off, sp⟩) n cap (l.flatMap cellsR) rfl hfl (fun h => by cases h) (HF.out _ hL) (one_flat l) (by omega) (by decide) hL.size ?_; intro v' wn hown hbel)
    go_ret
    exact ⟨w.heap.size, _, Nat.le_refl _, (hL.trans hbel).size, rfl, by rw [hln]; simpa using hown, hL.trans hbel⟩
theorem own_rqs {w : World} {base : Nat} {u : Value} {l : List Rq} (h : w.ownsRow base 68 4 u l.length (l.flatMap cellsR)) : ∃ A cap, u = .slice A l.length cap ∧ Rqs w A l.length cap l := by
  obtain ⟨A, cap, rfl, _, _⟩ := own_shape h
  exact ⟨A, cap, rfl, agg_own cellsR_len (by decide) h fun _ _ => trivial⟩
def OwnPost (w : World) (lim : Int) (l : List Rq) (e : Ending) (w' : World) : Prop := ∃ base u, w.heap.size ≤ base ∧ base ≤ w'.heap.size ∧ e = .returned (.agg #[.int .i64 lim, u]) ∧ w'.ownsRow base 68 4 u l.length (l.flatMap cellsR) ∧ Below w.heap.size w w'
end Go.Proofs.Ytfpagiojdgdbeaa
