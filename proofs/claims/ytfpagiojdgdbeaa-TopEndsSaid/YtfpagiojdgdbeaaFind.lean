import Derived.Shelf.Abstract
import Derived.Test.YtfpagiojdgdbeaaSmall
namespace Go.Proofs.Ytfpagiojdgdbeaa
open Go.RowKit
attribute [local go_sem ↓] Go.wp_at_zero Go.wp_at_succ

def cellsR (x : Rq) : List Value := [.int .i64 x.id, .int .i64 x.rank, .int .i64 x.left, .int .i64 x.passed]
theorem cellsR_len (x : Rq) : (cellsR x).length = 4 := rfl
/-- A row of requests. -/
abbrev Rqs (w : World) (A : Option Addr) (n cap : Nat) (l : List Rq) : Prop := AggRow 4 cellsR (fun _ => True) w A n cap l
/-- Where the first one stands of which p holds; below 0: nowhere. -/
def idxP (p : Rq → Bool) (l : List Rq) : Int := match l.findIdx? p with
  | some i => i
  | none => -1
theorem idx_hit {p : Rq → Bool} {l : List Rq} {k : Nat} (hk : k < l.length) (hp : p l[k] = true) (hb : ∀ j (h : j < l.length), j < k → p l[j] = false) : idxP p l = k := by
  unfold idxP
  rw [List.findIdx?_eq_some_iff_getElem.2 ⟨hk, hp, fun j hj => by rw [hb j (by omega) hj]; decide⟩]
theorem idx_miss {p : Rq → Bool} {l : List Rq} (hb : ∀ j (h : j < l.length), p l[j] = false) : idxP p l = -1 := by
  unfold idxP
  rw [List.findIdx?_eq_none_iff.2 fun x hx => by
    obtain ⟨j, hj, rfl⟩ := List.getElem_of_mem hx
    exact hb j hj]
theorem idx_cases (p : Rq → Bool) (l : List Rq) : (idxP p l = -1 ∧ ∀ x ∈ l, p x = false) ∨ ∃ k, ∃ h : k < l.length, idxP p l = k ∧ p l[k] = true ∧ ∀ j (hj : j < l.length), j < k → p l[j] = false := by
  unfold idxP
  cases h : l.findIdx? p with
  | none => exact .inl ⟨rfl, List.findIdx?_eq_none_iff.1 h⟩
  | some k =>
    obtain ⟨hk, hp, hb⟩ := List.findIdx?_eq_some_iff_getElem.1 h
    exact .inr ⟨k, hk, rfl, hp, fun j hj hjk => by simpa using hb j hjk⟩
set_option maxRecDepth 100000 in
set_option maxHeartbeats 1600000 in
theorem index_any (p : Rq → Bool) (g : Nat) (lb : Array Value) (eg : ∀ args w, (callFunc g args).run Try.prog w = .ok (.enter g args) w) (A : Option Addr) (n cap : Nat) (l : List Rq) (w : World) (hl : Rqs w A n cap l) (hp : ∀ W, ∀ x ∈ l, Below w.heap.size w W → Calls Try.prog g (#[.agg #[.int .i64 x.id, .int .i64 x.rank, .int .i64 x.left, .int .i64 x.passed]] ++ lb) W (BoolPost W (p x))) :
    Calls Try.prog 50 #[.slice A n cap, .func (.func g) #[] lb] w (IntPost w (idxP p l)) := by
  have HL := Lib.hid hl
  have HP := Lib.hid hp
  have hln := hl.1
  have lm : n ≤ 9223372036854775807 := by have h : n ≤ maxLen := Nat.le_trans hl.2.1 hl.2.2.1; unfold maxLen at h; omega
  clear hl hp
  go_enter Try.func50, Try.ntmps50
  go_wp2_with fail
  go_loopw [5, 8] (fun _ y wr => ∃ k : Nat, k ≤ n ∧ y = .int .i64 k ∧ Hid (Below w.heap.size w wr) ∧ Hid (∀ j (h : j < l.length), j < k → p l[j] = false)) (fun _ y _ => n - (intOf y).toNat)
  case atStart => exact ⟨0, by omega, rfl, Lib.hid (lo_refl _), Lib.hid fun j h hj => by omega⟩
  case round =>
  obtain ⟨k, hk, rfl, hbel, hno⟩ := hrel
  by_cases hkl : k < n
  · have hkl' : (k : Int) < (n : Int) := by omega
    obtain ⟨b, off, rfl, hlt, hc⟩ := HL.out.2.2.2.2.1 k l[k] (List.getElem?_eq_getElem (by omega))
    have hc0 := ((lo_cell hbel.out).1 b _ hlt).trans (hc 0 _ rfl)
    have hc1 := ((lo_cell hbel.out).1 b _ hlt).trans (hc 1 _ rfl)
    have hc2 := ((lo_cell hbel.out).1 b _ hlt).trans (hc 2 _ rfl)
    have hc3 := ((lo_cell hbel.out).1 b _ hlt).trans (hc 3 _ rfl)
    simp only [Nat.add_zero] at hc0 hc1 hc2 hc3
    have hcall := HP.out wr l[k] (List.getElem_mem _) hbel.out
    have hpe : Hid (p l[k] = p l[k]) := Lib.hid rfl
    obtain ⟨x, hx⟩ : ∃ x, l[k] = x := ⟨_, rfl⟩
    rw [hx] at hc0 hc1 hc2 hc3 hcall hpe
    have HX := Lib.hid hx
    have hb : b < wr.heap.size := Nat.lt_of_lt_of_le hlt hbel.out.size
    obtain ⟨q, hq⟩ : ∃ q, p x = q := ⟨_, rfl⟩
    rw [hq] at hcall
    have HQ := Lib.hid hq
    have HC := Lib.hid hcall
    clear hx hq hc hcall hlt hpe
    cases q
    · go_wp2_with (go_at_fn g; refine HC.out.mono ?_; rintro e w2 ⟨rfl, hb2⟩)
      have HB := Lib.hid hb2
      clear hb2
      go_wp2_with fail
      go_roundw
      case rel =>
        refine ⟨k + 1, by omega, by go_num, Lib.hid (lo_trans hbel.out HB.out), Lib.hid fun j h hj => ?_⟩
        rcases Nat.lt_or_ge j k with h1 | h1
        · exact hno.out j h h1
        · obtain rfl : j = k := by omega
          rw [HX.out]
          exact HQ.out
      case measure => simp [intOf]; omega
    · go_wp2_with (go_at_fn g; refine HC.out.mono ?_; rintro e w2 ⟨rfl, hb2⟩)
      have HB := Lib.hid hb2
      clear hb2
      go_wp2_with fail
      go_ret
      refine ⟨?_, lo_trans hbel.out HB.out⟩
      rw [idx_hit (by omega) (by rw [HX.out]; exact HQ.out) hno.out]
      rfl
  · have hkl' : ¬ (k : Int) < (n : Int) := by omega
    go_wp2_with fail
    go_ret
    refine ⟨?_, hbel.out⟩
    rw [idx_miss fun j h => hno.out j h (by omega)]
    rfl
theorem enters_55 : ∀ args w, (callFunc 55 args).run Try.prog w = .ok (.enter 55 args) w := enters_of Try.func55 (by kernel_rfl) rfl
theorem enters_56 : ∀ args w, (callFunc 56 args).run Try.prog w = .ok (.enter 56 args) w := enters_of Try.func56 (by kernel_rfl) rfl
theorem enters_49 : ∀ args w, (callFunc 49 args).run Try.prog w = .ok (.enter 49 args) w := enters_of Try.func49 (by kernel_rfl) rfl
theorem enters_52 : ∀ args w, (callFunc 52 args).run Try.prog w = .ok (.enter 52 args) w := enters_of Try.func52 (by kernel_rfl) rfl
theorem place_any (lim : Int) (A : Option Addr) (n cap : Nat) (l : List Rq) (id : Int) (w : World) (hl : Rqs w A n cap l) : Calls Try.prog 38 #[.agg #[.int .i64 lim, .slice A n cap], .int .i64 id] w (IntPost w (idxP (fun x => x.id == id) l)) := by
  have hL := lo_alloc (lo_alloc (lo_refl w) (.cells #[.int .i64 lim, .slice A n cap] 58)) (.cells #[.int .i64 id] 3)
  have hI := Blk.new (w.alloc (.cells #[.int .i64 lim, .slice A n cap] 58)) 3 #[.int .i64 id]
  simp only [World.size_alloc] at hI
  have HI : Hid (∀ W, Below ((w.alloc (.cells #[.int .i64 lim, .slice A n cap] 58)).alloc (.cells #[.int .i64 id] 3)).heap.size ((w.alloc (.cells #[.int .i64 lim, .slice A n cap] 58)).alloc (.cells #[.int .i64 id] 3)) W → Blk W (w.heap.size + 1) 3 #[.int .i64 id]) := Lib.hid fun W hb => hI.lo hb
  have H : Hid (Calls Try.prog 50 #[.slice A n cap, .func (.func 56) #[] #[.pointer (some ⟨w.heap.size + 1, 0, none⟩)]] ((w.alloc (.cells #[.int .i64 lim, .slice A n cap] 58)).alloc (.cells #[.int .i64 id] 3)) (IntPost ((w.alloc (.cells #[.int .i64 lim, .slice A n cap] 58)).alloc (.cells #[.int .i64 id] 3)) (idxP (fun x => x.id == id) l))) := index_any _ 56 #[.pointer (some ⟨w.heap.size + 1, 0, none⟩)] enters_56 A n cap l _ (agg_lo hl hL) fun W x _ hb => by
    obtain ⟨c, _⟩ := (HI.out W hb).facts
    exact same_any x (w.heap.size + 1) id W (c 0) (HI.out W hb).lt
  clear HI hl hI
  generalize idxP (fun x => x.id == id) l = r at H
  have HL := Lib.hid hL
  clear hL
  go_enter Try.func38, Try.ntmps38
  go_wp2_with fail
  refine H.out.mono ?_
  rintro e w1 ⟨rfl, hb⟩
  have hM := Lib.hid (lo_trans HL.out hb)
  clear hb
  go_wp2_with fail
  go_ret
  exact ⟨rfl, hM.out⟩
theorem none_wrong {l : List Rq} (h : ∀ x ∈ l, x.right) : idxP (fun x => !decide x.right) l = -1 := idx_miss fun j hj => by simp [h l[j] (List.getElem_mem _)]
theorem contains_ok (A : Option Addr) (n cap : Nat) (l : List Rq) (w : World) (hl : Rqs w A n cap l) (hr : ∀ x ∈ l, x.right) : Calls Try.prog 54 #[.slice A n cap, .func (.func 55) #[] #[]] w (BoolPost w false) := by
  have H : Hid (Calls Try.prog 50 #[.slice A n cap, .func (.func 55) #[] #[]] w (IntPost w (-1))) := by
    have := index_any (fun x => !decide x.right) 55 #[] enters_55 A n cap l w hl fun W x _ hb => wrong_any x W
    rw [none_wrong hr] at this
    exact Lib.hid this
  clear hl hr
  go_enter Try.func54, Try.ntmps54
  go_wp2_with fail
  refine H.out.mono ?_
  rintro e w1 ⟨rfl, hb⟩
  have hM := Lib.hid hb
  clear hb
  go_wp2_with fail
  go_ret
  exact ⟨rfl, hM.out⟩
/-- A queue that may be. -/
def okQ (lim : Int) (l : List Rq) : Prop := (1 ≤ lim ∧ lim ≤ 1000) ∧ l.length ≤ 16 ∧ (∀ x ∈ l, x.right) ∧ l.Pairwise (fun x y => x.id ≠ y.id)
theorem place_own {l : List Rq} (h : l.Pairwise (fun x y => x.id ≠ y.id)) {k : Nat} (hk : k < l.length) : idxP (fun x => x.id == l[k].id) l = k :=
  idx_hit hk (by simp) fun j hj hjk => by
    have := List.pairwise_iff_getElem.1 h j k hj hk hjk
    simpa using this
set_option maxRecDepth 100000 in
set_option maxHeartbeats 1600000 in
theorem check_ok (lim : Int) (A : Option Addr) (n cap : Nat) (l : List Rq) (w : World) (hl : Rqs w A n cap l) (hok : okQ lim l) : Calls Try.prog 36 #[.agg #[.int .i64 lim, .slice A n cap]] w (IntPost w 0) := by
  have HL := Lib.hid hl
  have hln := hl.1
  have hln2 : n ≤ 16 := by rw [← hln]; exact hok.2.1
  have H1 : Hid (∀ w0, Calls Try.prog 27 #[.int .i64 lim, .int .i64 1, .int .i64 1000] w0 (BoolSame w0 true)) := Lib.hid fun w0 => by
    have := in_aging lim 1 1000 w0
    rw [inB_yes hok.1] at this
    exact this
  have H2 : Hid (∀ w0, Rqs w0 A n cap l → Calls Try.prog 54 #[.slice A n cap, .func (.func 55) #[] #[]] w0 (BoolPost w0 false)) := Lib.hid fun w0 h0 => contains_ok A n cap l w0 h0 hok.2.2.1
  have H3 : Hid (∀ w0 id, Rqs w0 A n cap l → Calls Try.prog 38 #[.agg #[.int .i64 lim, .slice A n cap], .int .i64 id] w0 (IntPost w0 (idxP (fun x => x.id == id) l))) := Lib.hid fun w0 id h0 => place_any lim A n cap l id w0 h0
  have HO := Lib.hid hok
  have hQ := Blk.new w 58 #[.int .i64 lim, .slice A n cap]
  have hL := lo_alloc (lo_refl w) (.cells #[.int .i64 lim, .slice A n cap] 58)
  clear hl hok
  obtain ⟨cQ, fQ⟩ := hQ.facts
  go_enter Try.func36, Try.ntmps36
  go_wp2_with fail
  refine (H1.out _).mono ?_
  rintro e w1 ⟨rfl, rfl⟩
  go_wp2_with fail
  refine (H2.out _ (agg_lo HL.out hL)).mono ?_
  rintro e w1 ⟨rfl, hb⟩
  clear cQ fQ
  replace hQ := hQ.lo hb
  replace hL := lo_trans hL hb
  clear hb H1 H2
  obtain ⟨cQ, fQ⟩ := hQ.facts
  go_upto_region 8 with fail
  clear cQ fQ
  go_loopw [3, 4, 22] (fun _ _ y wr => ∃ k : Nat, k ≤ n ∧ y = .int .i64 k ∧ Blk wr w.heap.size 58 #[.int .i64 lim, .slice A n cap] ∧ Below w.heap.size w wr) (fun _ _ y _ => n - (intOf y).toNat)
  case atStart => exact ⟨0, by omega, rfl, hQ, hL⟩
  case round =>
  clear hQ hL
  obtain ⟨k, hk, rfl, hQ, hL⟩ := hrel
  by_cases hkl : k < n
  · have hkl' : (k : Int) < (n : Int) := by omega
    obtain ⟨b, off, rfl, hlt, hc⟩ := HL.out.2.2.2.2.1 k l[k] (List.getElem?_eq_getElem (by omega))
    have hc0 := ((lo_cell hL).1 b _ hlt).trans (hc 0 _ rfl)
    have hc1 := ((lo_cell hL).1 b _ hlt).trans (hc 1 _ rfl)
    have hc2 := ((lo_cell hL).1 b _ hlt).trans (hc 2 _ rfl)
    have hc3 := ((lo_cell hL).1 b _ hlt).trans (hc 3 _ rfl)
    simp only [Nat.add_zero] at hc0 hc1 hc2 hc3
    have hpl := place_own HO.out.2.2.2 (k := k) (by omega)
    have hb : b < wr.heap.size := Nat.lt_of_lt_of_le hlt hL.size
    generalize l[k] = x at hc0 hc1 hc2 hc3 hpl
    have HP := Lib.hid hpl
    clear hc hpl hlt
    have hX := Blk.new wr 68 #[.int .i64 x.id, .int .i64 x.rank, .int .i64 x.left, .int .i64 x.passed]
    replace hQ := hQ.alloc (.cells #[.int .i64 x.id, .int .i64 x.rank, .int .i64 x.left, .int .i64 x.passed] 68)
    replace hL := lo_alloc hL (.cells #[.int .i64 x.id, .int .i64 x.rank, .int .i64 x.left, .int .i64 x.passed] 68)
    obtain ⟨cQ, fQ⟩ := hQ.facts
    obtain ⟨cX, fX⟩ := hX.facts
    go_wp2_with fail
    have H4 : Hid (∀ w0, Rqs w0 (some ⟨b, off, none⟩) n cap l → Calls Try.prog 38 #[.agg #[.int .i64 lim, .slice (some ⟨b, off, none⟩) n cap], .int .i64 x.id] w0 (IntPost w0 k)) := Lib.hid fun w0 h0 => by
      have := H3.out w0 x.id h0
      rw [HP.out] at this
      exact this
    refine (H4.out _ (agg_lo HL.out hL)).mono ?_
    rintro e w2 ⟨rfl, hb2⟩
    replace hQ := hQ.lo hb2
    replace hL := lo_trans hL hb2
    clear hb2 cQ fQ cX fX hX hc0 hc1 hc2 hc3 hb H4
    go_wp2_with fail
    go_roundw
    case rel => exact ⟨k + 1, by omega, by go_num, hQ, hL⟩
    case measure => simp [intOf]; omega
  · have hkl' : ¬ (k : Int) < (n : Int) := by omega
    have hM := Lib.hid hL
    clear hL
    go_wp2_with fail
    go_ret
    exact ⟨rfl, hM.out⟩
end Go.Proofs.Ytfpagiojdgdbeaa
