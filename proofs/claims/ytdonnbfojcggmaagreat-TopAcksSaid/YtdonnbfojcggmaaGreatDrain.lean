import Derived.Lib.SliceRun
import Derived.Deep.MidRow
import Derived.Test.YtdonnbfojcggmaaGreatPush
import Derived.Test.YtdonnbfojcggmaaGreatUntil
namespace Go.Proofs.YtdonnbfojcggmaaGreat
open Go.RowKit
attribute [local go_sem ↓] Go.wp_at_zero Go.wp_at_succ

theorem blk_cells {g : Nat} {t : TypeId} : ∀ (vs : List Value) (o : Nat) (w : World) (cur : Array Value), Blk w g t cur → ∃ cur', Blk (w.setCells g o vs) g t cur' ∧ cur'.size = cur.size ∧ ∀ i, o + vs.length ≤ i → cur'[i]? = cur[i]?
  | [], o, w, cur, h => ⟨cur, h, rfl, fun _ _ => rfl⟩
  | v :: vs, o, w, cur, h => by
    obtain ⟨cur', h1, h2, h3⟩ := blk_cells vs (o + 1) _ _ (h.set_ o v)
    refine ⟨cur', h1, by simp [h2], fun i hi => ?_⟩
    simp only [List.length_cons] at hi
    rw [h3 i (by omega)]
    rw [Array.getElem?_setIfInBounds_ne (by omega)]
theorem blk_cells_far {g x : Nat} {t : TypeId} {cs : Array Value} (hne : x ≠ g) : ∀ (vs : List Value) (o : Nat) (w : World), Blk w x t cs → Blk (w.setCells g o vs) x t cs
  | [], _, _, h => h
  | v :: vs, o, w, h => blk_cells_far hne vs (o + 1) _ (h.far (p := ⟨g, o, none⟩) hne v)
theorem own_cells_far {base : Nat} {e : TypeId} {size : Nat} {v : Value} {n : Nat} {xs : List Value} {g : Nat} (hg : some g ≠ v.ownBlock) : ∀ (vs : List Value) (o : Nat) (w : World), w.ownsRow base e size v n xs → (w.setCells g o vs).ownsRow base e size v n xs
  | [], _, _, h => h
  | u :: vs, o, w, h => own_cells_far hg vs (o + 1) (w.setCell ⟨g, o, none⟩ u) (own_far h (p := ⟨g, o, none⟩) hg u)
theorem lo_cells {w : World} {g : Nat} (hg : w.heap.size ≤ g) : ∀ (vs : List Value) (o : Nat) (w1 : World), Below w.heap.size w w1 → Below w.heap.size w (w1.setCells g o vs)
  | [], _, _, h => h
  | u :: vs, o, w1, h => lo_cells hg vs (o + 1) _ (lo_set h (p := ⟨g, o, none⟩) hg u)
theorem own_blk {w : World} {base : Nat} {e : TypeId} {size n cap : Nat} {g : Addr} {xs : List Value} (h : w.ownsRow base e size (.slice (some g) n cap) n xs) : ∃ b cur, g = ⟨b, 0, none⟩ ∧ base ≤ b ∧ Blk w b e cur ∧ n ≤ cap ∧ cap ≤ maxLen ∧ cur.size = cap * size ∧ cur.toList.take (n * size) = xs := by
  rcases h.2 with ⟨he, _⟩ | ⟨b, cap', cur, he, h1, h2, h3, h4, h5, h6⟩
  · cases he
  · injection he with e1 _ e3
    injection e1 with e1
    subst e1 e3
    exact ⟨b, cur, rfl, h1, h2, h3, h4, h5, h6⟩
theorem row_tail {w : World} {g off n cap : Nat} {cs : Array Value} {l : List ByteArray} (h : Blk w g 9 cs) (hl : l.length = n) (hn : n ≤ cap) (hc : cap ≤ maxLen) (hx : ∀ i x, l[i]? = some x → cs[off + i]? = some (.string x)) : RowS w (some ⟨g, off, none⟩) n cap l := by
  refine ⟨⟨hl, hn, hc, (fun h => by cases h), fun i x hi => ⟨g, off, rfl, h.lt, fun j u hu => ?_⟩, fun _ _ => trivial⟩, fun p hp => ?_⟩
  · have hj : j = 0 := by
      have := (List.getElem?_eq_some_iff.1 hu).1
      rw [cellsS_len] at this
      omega
    subst hj
    injection hu with hu
    subst hu
    have := hx i x hi
    rw [(h.facts).1]
    simpa using this
  · injection hp with hp
    subst hp
    exact ⟨cs, h⟩
theorem row_head {w : World} {b off n cap : Nat} {x : ByteArray} {l : List ByteArray} (h : RowS w (some ⟨b, off, none⟩) n cap (x :: l)) (y : ByteArray) : RowS (w.setCell ⟨b, off, none⟩ (.string y)) (some ⟨b, off, none⟩) n cap (y :: l) := by
  obtain ⟨cs, hT⟩ := h.2 _ rfl
  replace hT : Blk w b 9 cs := hT
  have hU := hT.set_ off (.string y)
  refine ⟨⟨by have := h.len; simpa using this, h.le, h.capm, (fun e => by cases e), fun i z hz => ⟨b, off, rfl, hU.lt, fun j u hu => ?_⟩, fun _ _ => trivial⟩, fun p hp => ?_⟩
  · have hj : j = 0 := by
      have := (List.getElem?_eq_some_iff.1 hu).1
      rw [cellsS_len] at this
      omega
    subst hj
    injection hu with hu
    subst hu
    rw [hU.facts.1, Nat.mul_one, Nat.add_zero]
    cases i with
    | zero =>
      simp at hz
      subst hz
      obtain ⟨b', off', e, hlt, hc⟩ := h.at (i := 0) (x := x) rfl
      injection e with e
      injection e with e1 e2 _
      subst e1 e2
      have h0 := hc 0 _ rfl
      rw [hT.facts.1] at h0
      simp only [Nat.zero_mul, Nat.add_zero] at h0
      have hsz : off < cs.size := (Array.getElem?_eq_some_iff.1 h0).1
      simp [hsz]
    | succ i =>
      obtain ⟨b', off', e, hlt, hc⟩ := h.at (i := i + 1) (x := z) (by simpa using hz)
      injection e with e
      injection e with e1 e2 _
      subst e1 e2
      have h0 := hc 0 _ rfl
      rw [hT.facts.1] at h0
      rw [Array.getElem?_setIfInBounds_ne (by omega)]
      simpa using h0
  · injection hp with hp
    subst hp
    exact ⟨_, hU⟩
theorem run_clear_none {P : Program} (w : World) (t e ty : TypeId) (ht : P.underlying t = some (.slice e)) (z : Value) (hv : (zeroValue e).run P w = .ok z w) (A : Option Addr) (c : Nat) : (Builtin.clear_ #[t] ty #[.slice A 0 c]).run P w = .ok (.tuple #[]) w := by
  cases A <;> simp [Builtin.clear_, run_underlying ht, hv]
theorem cleared {w1 : World} {base n cap : Nat} {A : Option Addr} {l : List ByteArray} {k : Nat} (h : w1.ownsRow base 9 1 (.slice A n cap) n (l.flatMap cellsS)) (hl : l.length = n) (hk : k ≤ n) (ty : TypeId) :
    ∃ wc, (Builtin.clear_ #[43] ty #[.slice A k cap]).run Tryz.prog w1 = .ok (.tuple #[]) wc ∧ (∀ x t cs, t ≠ 9 → Blk w1 x t cs → Blk wc x t cs) ∧ (∀ base' e size v m xs, e ≠ 9 → w1.ownsRow base' e size v m xs → wc.ownsRow base' e size v m xs) ∧
      (∀ w : World, w.heap.size ≤ base → Below w.heap.size w w1 → Below w.heap.size w wc) ∧
      ((A = none ∧ cap = 0 ∧ n = 0) ∨ ∃ b cur, A = some ⟨b, 0, none⟩ ∧ base ≤ b ∧ Blk wc b 9 cur ∧ n ≤ cap ∧ cap ≤ maxLen ∧ cur.size = cap ∧ ∀ i x, k ≤ i → l[i]? = some x → cur[i]? = some (.string x)) := by
  have hz : ∀ w, (zeroValue 9).run Tryz.prog w = .ok (.string ⟨#[]⟩) w := fun w => by
    have := info9
    obtain ⟨i0, hi, hz0, hz1, hz2⟩ := info_parts this
    simp [zeroValue, typeInfo, hi, hz0]
  by_cases hk0 : k = 0
  · subst hk0
    refine ⟨w1, run_clear_none w1 43 9 ty Tryz.underlying43 _ (hz w1) A cap, fun _ _ _ _ h => h, fun _ _ _ _ _ _ _ h => h, fun _ _ h => h, ?_⟩
    rcases h.2 with ⟨he, hn⟩ | ⟨b, cap', cur, he, h1, h2, h3, h4, h5, h6⟩
    · injection he with e1 _ e3
      exact .inl ⟨e1, e3, hn⟩
    · injection he with e1 _ e3
      subst e1 e3
      refine .inr ⟨b, cur, rfl, h1, h2, h3, h4, by omega, fun i x _ hx => ?_⟩
      have hi : i < n := by have := (List.getElem?_eq_some_iff.1 hx).1; omega
      have h7 : (cur.toList.take (n * 1))[i]? = (l.flatMap cellsS)[i]? := by rw [h6]
      rw [List.getElem?_take, if_pos (by omega), Array.getElem?_toList, flat_S, List.getElem?_map, hx] at h7
      exact h7
  · rcases h.2 with ⟨he, hn⟩ | ⟨b, cap', cur, he, h1, h2, h3, h4, h5, h6⟩
    · omega
    · injection he with e1 _ e3
      subst e1 e3
      have hB : Blk w1 b 9 cur := h2
      obtain ⟨cur', g1, g2, g3⟩ := blk_cells (List.replicate k (.string ⟨#[]⟩)) 0 w1 cur hB
      have hcl := Lib.run_clear_slice (P := Tryz.prog) w1 43 9 ty (.string ⟨#[]⟩) Tryz.underlying43 hz rfl rfl b 0 k cap (by omega)
        (fun j hj => by rw [hB.facts.1, Nat.zero_add, Array.getElem?_eq_getElem (by omega)]; rfl) (fun j hj => hB.facts.2 _)
      refine ⟨_, hcl, fun x t cs ht hx => blk_cells_far (fun e => ht (by subst e; exact (hx.inj hB).1)) _ _ _ hx, fun base' e size v m xs he hx => own_cells_far (blk_ne_own hx hB (fun h => he h.symm)) _ _ _ hx, fun w hw hl => lo_cells (by omega) _ _ _ hl, .inr ⟨b, cur', rfl, h1, g1, h3, h4, by omega, fun i x hi hx => ?_⟩⟩
      have hin : i < n := by have := (List.getElem?_eq_some_iff.1 hx).1; omega
      rw [g3 i (by simp; omega)]
      have h7 : (cur.toList.take (n * 1))[i]? = (l.flatMap cellsS)[i]? := by rw [h6]
      rw [List.getElem?_take, if_pos (by omega), Array.getElem?_toList, flat_S, List.getElem?_map, hx] at h7
      exact h7
/-- What is left in a queue, and at most so many bytes. -/
def DrainPost (w : World) (made : Int) (e : Ending) (w' : World) : Prop :=
  ∃ A n cap l gone B k c, e = .returned (.tuple #[.agg #[.slice A n cap, .int .i64 made, .int .i64 gone], .slice B k c]) ∧ (k ≤ 500) ∧ OutOk w' A n cap l made gone ∧ Below w.heap.size w w'
set_option maxRecDepth 100000 in
set_option maxHeartbeats 12800000 in
theorem drain_any (A : Option Addr) (n cap : Nat) (l : List ByteArray) (made gone : Int) (w : World) (h : OutOk w A n cap l made gone) :
    Calls Tryz.prog 30 #[.agg #[.slice A n cap, .int .i64 made, .int .i64 gone], .int .i64 500] w (DrainPost w made) := by
  have HO := Lib.hid h
  obtain ⟨hln, hn6, hs0, hs1, hmd, hgd⟩ := h.nums
  have H1 : Hid (∀ w0, OutOk w0 A n cap l made gone → Calls Tryz.prog 63 #[.agg #[.slice A n cap, .int .i64 made, .int .i64 gone]] w0 (OOwnPost w0 l made gone)) := Lib.hid fun w0 h0 => oown_any A n cap l made gone w0 h0
  have H2 : Hid (∀ w0, OutOk w0 A n cap l made gone → Calls Tryz.prog 64 #[.agg #[.slice A n cap, .int .i64 made, .int .i64 gone]] w0 (IntPost w0 0)) := Lib.hid fun w0 h0 => ocheck_any A n cap l made gone w0 h0
  have hsum := h.sum
  have hg0 := h.gone0
  obtain ⟨i0, hi, hz0, hz1, hz2⟩ := info_parts info5
  have HN : Hid (l.length = n ∧ n ≤ 60000 ∧ made - gone = sumS l ∧ 0 ≤ gone ∧ (∀ s ∈ l, 0 < s.size) ∧ made ≤ 60000 ∧ sumS l ≤ 60000) := Lib.hid ⟨hln, hn6, hsum, hg0, h.pos, h.made0, hs1⟩
  clear h hsum hg0 hs0 hs1 hmd hgd
  have hA := Blk.new w 45 #[.slice A n cap, .int .i64 made, .int .i64 gone]
  have hL := lo_alloc (lo_refl w) (.cells #[.slice A n cap, .int .i64 made, .int .i64 gone] 45)
  have hR := Blk.new (w.alloc (.cells #[.slice A n cap, .int .i64 made, .int .i64 gone] 45)) 45 #[.slice none 0 0, .int .i64 0, .int .i64 0]
  replace hA := hA.alloc (.cells #[.slice none 0 0, .int .i64 0, .int .i64 0] 45)
  replace hL := lo_alloc hL (.cells #[.slice none 0 0, .int .i64 0, .int .i64 0] 45)
  simp only [World.size_alloc] at hR
  obtain ⟨cA, fA⟩ := hA.facts
  go_enter Tryz.func30, Tryz.ntmps30
  go_wp2_with fail
  refine (H1.out _ (HO.out.lo hL)).mono ?_
  rintro e w1 ⟨v, rfl, hown, hb⟩
  clear cA fA
  replace hA := hA.lo hb
  replace hR := hR.lo hb
  replace hL := lo_trans hL hb
  simp only [World.size_alloc] at hown
  clear hb H1
  obtain ⟨A2, cap2, rfl, hlc, hnz⟩ := own_shape hown
  rw [hln] at hown hlc hnz
  rw [hln]
  obtain ⟨cA, fA⟩ := hA.facts
  have hX := Blk.new w1 45 #[.slice A2 n cap2, .int .i64 made, .int .i64 gone]
  have hgx : w.heap.size + 2 ≤ w1.heap.size := by have := hR.lt; omega
  go_upto_region 2 with fail
  clear cA fA
  replace hA := hA.alloc (.cells #[.slice A2 n cap2, .int .i64 made, .int .i64 gone] 45)
  replace hR := hR.alloc (.cells #[.slice A2 n cap2, .int .i64 made, .int .i64 gone] 45)
  replace hown := hown.alloc (.cells #[.slice A2 n cap2, .int .i64 made, .int .i64 gone] 45)
  replace hL := lo_alloc hL (.cells #[.slice A2 n cap2, .int .i64 made, .int .i64 gone] 45)
  generalize hgX : w1.heap.size = gX at hX hgx ⊢
  generalize w1.alloc (.cells #[.slice A2 n cap2, .int .i64 made, .int .i64 gone] 45) = w2 at hX hA hR hown hL ⊢
  clear hgX
  obtain ⟨cA, fA⟩ := hA.facts
  go_wp2_with fail
  refine (H2.out _ (HO.out.lo hL)).mono ?_
  rintro e w3 ⟨rfl, hb⟩
  clear cA fA
  replace hA := hA.lo hb
  replace hR := hR.lo hb
  replace hX := hX.lo hb
  replace hL := lo_trans hL hb
  replace hown := own_lo hown hb
  clear hb
  obtain ⟨cX, fX⟩ := hX.facts
  have lX := hX.lt
  have hA2m : (n : Int) ≤ 60000 := by omega
  go_wp2_with fail
  clear cX fX lX
  go_loopw [7, 8, 10, 25] (fun u x _ y wr => ∃ (k Jn : Nat) (bs : List Value), k ≤ n ∧ y = .int .i64 k ∧ x = .int .i64 k ∧ (Jn : Int) = sumS (l.take k) ∧ Jn ≤ 500 ∧ wr.ownsRow (w.heap.size + 2) 5 1 u Jn bs ∧ Blk wr (w.heap.size + 1) 45 #[.slice none 0 0, .int .i64 0, .int .i64 0] ∧ Blk wr gX 45 #[.slice A2 n cap2, .int .i64 made, .int .i64 gone] ∧ wr.ownsRow (w.heap.size + 1 + 1) 9 1 (.slice A2 n cap2) n (l.flatMap cellsS) ∧ Below w.heap.size w wr) (fun _ _ _ y _ => n - (intOf y).toNat)
  case atStart => exact ⟨0, 0, [], by omega, rfl, rfl, rfl, by omega, World.ownsRow_nil _ _ _ _, hR, hX, hown, hL⟩
  case round =>
  clear hA hR hX hown hL
  obtain ⟨k, Jn, bs, hk, rfl, rfl, hK, hK5, hB, hR, hX, hS, hL⟩ := hrel
  obtain ⟨B, cB, rfl, hBc, _⟩ := own_shape hB
  have HK := Lib.hid hK
  clear hK
  by_cases hkl : k < n
  · have hkl' : (k : Int) < (n : Int) := by omega
    obtain ⟨b, off, rfl, hlt, hc⟩ := (row_own cellsS_len (by decide) hS).at (i := k) (x := l[k]) (List.getElem?_eq_getElem (by omega))
    have hc0 := hc 0 _ rfl
    simp only [Nat.add_zero, Nat.mul_one] at hc0
    have hs := sumS_take l k (by omega)
    have hK := HK.out
    have hss := sumS_take_le l (k + 1)
    have hsl := HN.out.2.2.2.2.2.2
    obtain ⟨x, hx⟩ : ∃ x, l[k] = x := ⟨_, rfl⟩
    rw [hx] at hc0 hs
    have hw : IntKind.i64.wrap (500 - (Jn : Int)) = 500 - (Jn : Int) := IntWalk.i64_in _ (by omega)
    have hxs : (x.size : Int) ≤ 60000 := by have := sumS_nonneg (l.take k); omega
    have HS := Lib.hid (And.intro hs hx)
    clear hc hs hx hss hK
    by_cases hfit : 500 - (Jn : Int) < (x.size : Int)
    · have HSTOP : Hid (∀ h : k < l.length, 500 - (Jn : Int) < (l[k].size : Int)) := Lib.hid fun h => by rw [HS.out.2]; exact hfit
      go_upto_region 13 with fail
      clear hfit hc0 hlt hxs HS hw hkl hkl' hsl
      generalize (some ⟨b, off, none⟩ : Option Addr) = A2 at hS hX hnz ⊢
      obtain ⟨cX0, fX0⟩ := hX.facts
      obtain ⟨wc, hclr, hfb, hfo, hfl, hcase⟩ := cleared hS hln hk 0
      replace hX := hfb _ _ _ (by decide) hX
      replace hR := hfb _ _ _ (by decide) hR
      replace hB := hfo _ _ _ _ _ _ (by decide) hB
      replace hL := hfl w (by omega) hL
      clear hfb hfo hfl hS
      rcases hcase with ⟨rfl, rfl, rfl⟩ | ⟨b2, cur, rfl, hbb, hT, hcm1, hcm, hcs, hcur⟩
      · obtain rfl : k = 0 := by omega
        go_upto_region 14 with fail
        clear cX0 fX0 hclr
        obtain ⟨cX, fX⟩ := hX.facts
        have lX := hX.lt
        go_upto_region 15 with fail
        clear cX fX lX
        obtain rfl : l = [] := List.eq_nil_of_length_eq_zero hln
        obtain rfl : Jn = 0 := by have := HK.out; simp [sumS] at this; omega
        have hrow : RowS (wc.setCell ⟨gX, 0, none⟩ (.slice none 0 0)) none 0 0 [] := Row.nil
        replace hB := own_far hB (p := ⟨gX, 0, none⟩) (blk_ne_own hB hX (by decide)) (.slice none 0 0)
        replace hR := hR.far (p := ⟨gX, 0, none⟩) (show w.heap.size + 1 ≠ gX by omega) (.slice none 0 0)
        replace hL := lo_set hL (p := ⟨gX, 0, none⟩) (show w.heap.size ≤ gX by omega) (.slice none 0 0)
        replace hX := hX.set_ 0 (.slice none 0 0)
        simp only [List.setIfInBounds_toArray, List.set_cons_zero, List.set_cons_succ] at hX
        generalize wc.setCell ⟨gX, 0, none⟩ (.slice none 0 0) = wd at hX hR hB hL hrow ⊢
        have hw5 : IntKind.i64.wrap (500 - ((0 : Nat) : Int)) = 500 := by decide
        have HPOS : Hid (∀ s ∈ ([] : List ByteArray), 0 < s.size) := Lib.hid fun s hs => by simp at hs
        have HSUM : Hid (made - (gone + ((0 : Nat) : Int)) = sumS [] ∧ ((0 : Nat) : Int) ≤ 500) := Lib.hid (by have := HN.out.2.2.1; constructor <;> omega)
        obtain ⟨cX, fX⟩ := hX.facts
        have lX := hX.lt
        go_upto_region 19 with fail
        clear cX fX lX
        have hwg : IntKind.i64.wrap gone = gone := IntWalk.i64_in _ (by have := HN.out.2.2.2.1; have := HSUM.out; have := sumS_nonneg ([] : List ByteArray); have := HN.out.2.2.2.2.2.1; omega)
        obtain ⟨cX, fX⟩ := hX.facts
        have lX := hX.lt
        go_upto_region 20 with fail
        clear cX fX
        have hX6 := hX.set_ 2 (.int .i64 gone)
        have hR6 := hR.far (p := ⟨gX, 2, none⟩) (show w.heap.size + 1 ≠ gX by omega) (.int .i64 gone)
        have hrow6 : RowS (wd.setCell ⟨gX, 2, none⟩ (.int .i64 gone)) none 0 0 ([] : List ByteArray) := hrow.kept ((Kept.refl wd gX).set 2 _) hX (by decide)
        have hL6 := lo_set hL (p := ⟨gX, 2, none⟩) (show w.heap.size ≤ gX by omega) (.int .i64 gone)
        clear hX hR hrow hL lX
        generalize wd.setCell ⟨gX, 2, none⟩ (.int .i64 gone) = w6 at hX6 hR6 hrow6 hL6 ⊢
        simp only [List.setIfInBounds_toArray, List.set_cons_zero, List.set_cons_succ] at hX6
        obtain ⟨cX, fX⟩ := hX6.facts
        obtain ⟨cR, fR⟩ := hR6.facts
        have lX := hX6.lt
        have lR := hR6.lt
        go_wp2_with fail
        clear cX fX cR fR
        have hR7 := ((hR6.set_ 0 (.slice none 0 0)).set_ 1 (.int .i64 made)).set_ 2 (.int .i64 gone)
        have hrow7 : RowS (((w6.setCell ⟨w.heap.size + 1, 0, none⟩ (.slice none 0 0)).setCell ⟨w.heap.size + 1, 1, none⟩ (.int .i64 made)).setCell ⟨w.heap.size + 1, 2, none⟩ (.int .i64 gone)) none 0 0 ([] : List ByteArray) := hrow6.kept ((((Kept.refl w6 (w.heap.size + 1)).set 0 _).set 1 _).set 2 _) hR6 (by decide)
        have hL7 := lo_set (lo_set (lo_set hL6 (p := ⟨w.heap.size + 1, 0, none⟩) (Nat.le_succ _) (.slice none 0 0)) (p := ⟨w.heap.size + 1, 1, none⟩) (Nat.le_succ _) (.int .i64 made)) (p := ⟨w.heap.size + 1, 2, none⟩) (Nat.le_succ _) (.int .i64 gone)
        clear hX6 hR6 hrow6 hL6 lX lR
        generalize ((w6.setCell ⟨w.heap.size + 1, 0, none⟩ (.slice none 0 0)).setCell ⟨w.heap.size + 1, 1, none⟩ (.int .i64 made)).setCell ⟨w.heap.size + 1, 2, none⟩ (.int .i64 gone) = w7 at hR7 hrow7 hL7 ⊢
        simp only [List.setIfInBounds_toArray, List.set_cons_zero, List.set_cons_succ] at hR7
        obtain ⟨cR, fR⟩ := hR7.facts
        have hpos := HPOS.out
        have hsum := HSUM.out
        have hgg := HN.out.2.2.2.1
        have hmd := HN.out.2.2.2.2.2.1
        exact bodyPost_ret (v := .tuple #[.agg #[.slice none 0 0, .int .i64 made, .int .i64 gone], .slice B 0 cB]) (by simp [results, Tryz.results30, go_sem, cR] <;> (repeat' (first | apply And.intro | (show _ = _; kernel_rfl)))) rfl ⟨none, 0, 0, ([] : List ByteArray), gone, B, 0, cB, rfl, by omega, ⟨hrow7, hpos, by omega, by omega, hmd⟩, hL7⟩
      · have hkc : k ≤ cap2 := by omega
        go_upto_region 14 with fail
        clear cX0 fX0 hclr
        obtain ⟨cX, fX⟩ := hX.facts
        have lX := hX.lt
        go_upto_region 15 with fail
        clear cX fX lX
        obtain ⟨off2, hD, hoff⟩ : ∃ off2, (if cap2 = k then some (⟨b2, 0, none⟩ : Addr) else some ⟨b2, k, none⟩) = some ⟨b2, off2, none⟩ ∧ (k < n → off2 = k) := by
          split
          · exact ⟨0, rfl, fun h => by omega⟩
          · exact ⟨k, rfl, fun _ => rfl⟩
        rw [hD]
        clear hD
        have hrow0 : RowS wc (some ⟨b2, off2, none⟩) (n - k) (cap2 - k) (l.drop k) := row_tail hT (by simp [hln]) (by omega) (by omega) fun i x hx => by
          rw [List.getElem?_drop] at hx
          have hi : k + i < n := by have := (List.getElem?_eq_some_iff.1 hx).1; omega
          rw [hoff (by omega)]
          exact hcur (k + i) x (by omega) hx
        have hrow : RowS (wc.setCell ⟨gX, 0, none⟩ (.slice (some ⟨b2, off2, none⟩) (n - k) (cap2 - k))) (some ⟨b2, off2, none⟩) (n - k) (cap2 - k) (l.drop k) := hrow0.kept ((Kept.refl wc gX).set 0 _) hX (by decide)
        replace hB := own_far hB (p := ⟨gX, 0, none⟩) (blk_ne_own hB hX (by decide)) (.slice (some ⟨b2, off2, none⟩) (n - k) (cap2 - k))
        replace hR := hR.far (p := ⟨gX, 0, none⟩) (show w.heap.size + 1 ≠ gX by omega) (.slice (some ⟨b2, off2, none⟩) (n - k) (cap2 - k))
        replace hL := lo_set hL (p := ⟨gX, 0, none⟩) (show w.heap.size ≤ gX by omega) (.slice (some ⟨b2, off2, none⟩) (n - k) (cap2 - k))
        replace hX := hX.set_ 0 (.slice (some ⟨b2, off2, none⟩) (n - k) (cap2 - k))
        simp only [List.setIfInBounds_toArray, List.set_cons_zero, List.set_cons_succ] at hX
        have hDge : ∀ p, (some ⟨b2, off2, none⟩ : Option Addr) = some p → w.heap.size + 2 ≤ p.block := fun p hp => by injection hp with hp; subst hp; exact hbb
        clear hrow0 hT hcur hoff hbb hcs
        generalize wc.setCell ⟨gX, 0, none⟩ (.slice (some ⟨b2, off2, none⟩) (n - k) (cap2 - k)) = wd at hX hR hB hL hrow ⊢
        generalize (some ⟨b2, off2, none⟩ : Option Addr) = D3 at hX hrow hDge ⊢
        generalize cap2 - k = c3 at hX hrow ⊢
        have hw5 : IntKind.i64.wrap (500 - (Jn : Int)) = 500 - (Jn : Int) := IntWalk.i64_in _ (by omega)
        have hpos2 : ∀ s ∈ l.drop k, 0 < s.size := fun s hs => HN.out.2.2.2.2.1 s (List.mem_of_mem_drop hs)
        have hsum2 : made - (gone + (Jn : Int)) = sumS (l.drop k) ∧ (Jn : Int) ≤ sumS l := by
          rw [sumS_drop]
          have h1 := HK.out
          have h2 := HN.out.2.2.1
          have h3 := sumS_take_le l k
          omega
        have HPOS2 := Lib.hid hpos2
        have HSUM2 := Lib.hid hsum2
        clear hpos2 hsum2
        by_cases hK500 : (0 : Int) < 500 - (Jn : Int)
        · by_cases hkn : k < n
          · have hkn' : (0 : Int) < ((n - k : Nat) : Int) := by omega
            have hst := HSTOP.out (by omega)
            obtain ⟨b3, off3, rfl, hlt3, hc3⟩ := hrow.at (i := 0) (x := l[k]) (by rw [List.getElem?_drop]; simp)
            have hc0 := hc3 0 _ rfl
            simp only [Nat.add_zero, Nat.mul_one] at hc0
            have hld : l.drop k = l[k] :: l.drop (k + 1) := List.drop_eq_getElem_cons (by omega)
            have HLD := Lib.hid hld
            obtain ⟨x0, hx0⟩ : ∃ x, l[k] = x := ⟨_, rfl⟩
            rw [hx0] at hst hc0 HLD
            clear hc3 hx0 hld
            obtain ⟨cX, fX⟩ := hX.facts
            have lX := hX.lt
            have hlo : (0 : Int) ≤ 500 - (Jn : Int) := by omega
            have hhi : 500 - (Jn : Int) ≤ (x0.size : Int) := by omega
            have hKI : (Jn : Int) ≤ 500 := by omega
            go_upto_region 18 with (at_builtin; refine Lib.wpList_append_own_string _ rfl _ _ 53 9 rfl (w.heap.size + 2) 5 i0 Tryz.underlying53 Tryz.underlying9 hi hz0 hz1 hz2 _ Jn _ rfl hB (x0.extract 0 (500 - Jn)) rfl (by rw [ByteArray.size_extract]; unfold maxLen; omega) (by rw [ByteArray.size_extract]; omega) (by have := hL.size; have := hX.lt; omega) ?_; intro v4 w4 hB4 hgr _)
            clear cX fX hc0
            obtain ⟨B4, cB4, rfl, hB4c, _⟩ := own_shape hB4
            replace hR := hR.grown hgr (blk_ne_own hB hR (by decide))
            replace hX := hX.grown hgr (blk_ne_own hB hX (by decide))
            replace hrow := hrow.grown hB hgr (by decide)
            replace hL := hL.grown hgr hL.size (fun k hk => by have := (hB.lt k hk).1; omega)
            clear hgr hB lX
            have hgeb : w.heap.size ≤ b3 := by have := hDge _ rfl; simp only at this; omega
            refine wp_region_until (S := (fun W => W.cell? ⟨gX, 0, none⟩ = some (.slice (some ⟨b3, off3, none⟩) (n - k) c3) ∧ W.cell? ⟨b3, off3, none⟩ = some (.string x0) ∧ gX < W.heap.size ∧ b3 < W.heap.size)) (S2 := fun _ => True) 9 (by kernel_rfl) ?_
            replace hX : Blk w4.drew _ _ _ := hX
            replace hR : Blk w4.drew _ _ _ := hR
            replace hrow : Row _ _ _ w4.drew _ _ _ _ := hrow
            replace hB4 : w4.drew.ownsRow _ _ _ _ _ _ := hB4
            replace hL := lo_drew hL
            generalize w4.drew = wd2 at hX hR hrow hB4 hL ⊢
            have hG : (fun _ : World => True) wd2 ∧ (fun W => W.cell? ⟨gX, 0, none⟩ = some (.slice (some ⟨b3, off3, none⟩) (n - k) c3) ∧ W.cell? ⟨b3, off3, none⟩ = some (.string x0) ∧ gX < W.heap.size ∧ b3 < W.heap.size) wd2 := ⟨trivial, by
              obtain ⟨b3x, off3x, e3, hlt3, hc3⟩ := hrow.at (i := 0) (x := x0) (by rw [HLD.out]; rfl)
              injection e3 with e3
              injection e3 with e31 e32 _
              subst e31 e32
              have hc0 := hc3 0 _ rfl
              simp only [Nat.zero_mul, Nat.add_zero] at hc0
              exact ⟨hX.facts.1 0, hc0, hX.lt, hlt3⟩⟩
            (refine until_take (i := 0) (oi := _) (op := _) (v := ?_) (getop rfl) (getop rfl) (by kernel_rfl) (by decide) (by kernel_rfl) (by kernel_rfl) (by kernel_rfl) (by kernel_rfl) (fun _ _ _ h => h) (Or.inl ⟨by rfl, ?_⟩) hG ?_; rotate_left; focus (intro w hSw; (try dsimp only at hSw); go_simp; (try with_reducible rfl); done))
            (try simp only [Act.put, List.setIfInBounds_toArray, List.set_cons_zero, List.set_cons_succ])
            (refine until_take (i := 2) (oi := _) (op := _) (v := ?_) (getop rfl) (getop rfl) (by kernel_rfl) (by decide) (by kernel_rfl) (by kernel_rfl) (by kernel_rfl) (by kernel_rfl) (fun _ _ _ h => h) (Or.inl ⟨by rfl, ?_⟩) hG ?_; rotate_left; focus (intro w hSw; (try dsimp only at hSw); go_simp; (try with_reducible rfl); done))
            (try simp only [Act.put, List.setIfInBounds_toArray, List.set_cons_zero, List.set_cons_succ])
            (refine until_take (i := 6) (oi := _) (op := _) (v := ?_) (getop rfl) (getop rfl) (by kernel_rfl) (by decide) (by kernel_rfl) (by kernel_rfl) (by kernel_rfl) (by kernel_rfl) (fun _ _ _ h => h) (Or.inl ⟨by rfl, ?_⟩) hG ?_; rotate_left; focus (intro w hSw; (try dsimp only at hSw); go_simp; (try with_reducible rfl); done))
            (try simp only [Act.put, List.setIfInBounds_toArray, List.set_cons_zero, List.set_cons_succ])
            (refine until_take (i := 1) (oi := _) (op := _) (v := ?_) (getop rfl) (getop rfl) (by kernel_rfl) (by decide) (by kernel_rfl) (by kernel_rfl) (by kernel_rfl) (by kernel_rfl) (fun _ _ _ h => h) (Or.inl ⟨by rfl, ?_⟩) hG ?_; rotate_left; focus (intro w hSw; (try dsimp only at hSw); go_simp; (try with_reducible rfl); done))
            (try simp only [Act.put, List.setIfInBounds_toArray, List.set_cons_zero, List.set_cons_succ])
            (refine until_take (i := 3) (oi := _) (op := _) (v := ?_) (getop rfl) (getop rfl) (by kernel_rfl) (by decide) (by kernel_rfl) (by kernel_rfl) (by kernel_rfl) (by kernel_rfl) (fun _ _ _ h => h) (Or.inl ⟨by rfl, ?_⟩) hG ?_; rotate_left; focus (intro w hSw; (try dsimp only at hSw); go_simp; (try with_reducible rfl); done))
            (try simp only [Act.put, List.setIfInBounds_toArray, List.set_cons_zero, List.set_cons_succ])
            (refine until_take (i := 4) (oi := _) (op := _) (v := ?_) (getop rfl) (getop rfl) (by kernel_rfl) (by decide) (by kernel_rfl) (by kernel_rfl) (by kernel_rfl) (by kernel_rfl) (fun _ _ _ h => h) (Or.inl ⟨by rfl, ?_⟩) hG ?_; rotate_left; focus (intro w hSw; (try dsimp only at hSw); go_simp; (try with_reducible rfl); done))
            (try simp only [Act.put, List.setIfInBounds_toArray, List.set_cons_zero, List.set_cons_succ])
            (refine until_take (i := 5) (oi := _) (op := _) (v := ?_) (getop rfl) (getop rfl) (by kernel_rfl) (by decide) (by kernel_rfl) (by kernel_rfl) (by kernel_rfl) (by kernel_rfl) (fun _ _ _ h => h) (Or.inl ⟨by rfl, ?_⟩) hG ?_; rotate_left; focus (intro w hSw; (try dsimp only at hSw); go_simp; (try with_reducible rfl); done))
            (try simp only [Act.put, List.setIfInBounds_toArray, List.set_cons_zero, List.set_cons_succ])
            (refine until_take (i := 7) (oi := _) (op := _) (v := ?_) (getop rfl) (getop rfl) (by kernel_rfl) (by decide) (by kernel_rfl) (by kernel_rfl) (by kernel_rfl) (by kernel_rfl) (fun _ _ _ h => h) (Or.inl ⟨by rfl, ?_⟩) hG ?_; rotate_left; focus (intro w hSw; (try dsimp only at hSw); go_simp; (try with_reducible rfl); done))
            (try simp only [Act.put, List.setIfInBounds_toArray, List.set_cons_zero, List.set_cons_succ])
            (refine until_take (i := 8) (oi := _) (op := _) (v := ?_) (getop rfl) (getop rfl) (by kernel_rfl) (by decide) (by kernel_rfl) (by kernel_rfl) (by kernel_rfl) (by kernel_rfl) (fun _ _ _ h => h) (Or.inl ⟨by rfl, ?_⟩) hG ?_; rotate_left; focus (intro w hSw; (try dsimp only at hSw); go_simp; (try with_reducible rfl); done))
            (try simp only [Act.put, List.setIfInBounds_toArray, List.set_cons_zero, List.set_cons_succ])
            have hrow1 := hrow
            rw [HLD.out] at hrow1
            obtain ⟨csT, hT0⟩ := hrow1.2 ⟨b3, off3, none⟩ rfl
            have hT : Blk wd2 b3 9 csT := hT0
            obtain ⟨_, fT⟩ := hT.facts
            obtain ⟨b3x, off3x, e3, hlt4, hc4⟩ := hrow1.at (i := 0) (x := x0) rfl
            injection e3 with e3
            injection e3 with e31 e32 _
            subst e31 e32
            have hc0 := hc4 0 _ rfl
            simp only [Nat.zero_mul, Nat.add_zero] at hc0
            refine until_step (i := 9) (o := _) (by kernel_rfl) (getop rfl) (by kernel_rfl) (fun K hK => ?_)
            go_simp
            clear hc0 hc4 fT hT0 hlt4
            have hrow2 := row_head hrow1 (x0.extract (500 - Jn) x0.size)
            have hX2 := hX.far (p := ⟨b3, off3, none⟩) (blk_ne hX hT (by decide)) (.string (x0.extract (500 - Jn) x0.size))
            have hR2 := hR.far (p := ⟨b3, off3, none⟩) (blk_ne hR hT (by decide)) (.string (x0.extract (500 - Jn) x0.size))
            replace hL := lo_set hL (p := ⟨b3, off3, none⟩) hgeb (.string (x0.extract (500 - Jn) x0.size))
            clear hrow hX hR hrow1 hT
            have hrow := hrow2
            have hX := hX2
            have hR := hR2
            clear hrow2 hX2 hR2
            generalize wd2.setCell ⟨b3, off3, none⟩ (.string (x0.extract (500 - Jn) x0.size)) = wz0 at hX hR hrow hL ⊢
            refine hK.out _ _ trivial ?_
            clear hK K hG
            (try simp only [Act.put, List.setIfInBounds_toArray, List.set_cons_zero, List.set_cons_succ])
            refine until_done (by kernel_rfl) ?_ _
            clear hB4
            have hs1 : (x0.extract 0 (500 - Jn)).size = 500 - Jn := by rw [ByteArray.size_extract]; omega
            have hs2 : (x0.extract (500 - Jn) x0.size).size = x0.size - (500 - Jn) := by rw [ByteArray.size_extract]; omega
            generalize x0.extract (500 - Jn) x0.size = x1 at hrow hX hs2 ⊢
            generalize x0.extract 0 (500 - Jn) = x2 at hs1 hB4c ⊢
            have HPOS : Hid (∀ s ∈ x1 :: l.drop (k + 1), 0 < s.size) := Lib.hid fun s hs => by
              rcases List.mem_cons.1 hs with rfl | h
              · omega
              · exact HN.out.2.2.2.2.1 s (List.mem_of_mem_drop h)
            have HSUM : Hid (made - (gone + ((Jn + x2.size : Nat) : Int)) = sumS (x1 :: l.drop (k + 1)) ∧ ((Jn + x2.size : Nat) : Int) ≤ 500) := Lib.hid (by
              have h1 := HSUM2.out.1
              rw [HLD.out] at h1
              simp only [sumS] at h1 ⊢
              omega)
            have hK6 : Jn + x2.size ≤ 500 := by omega
            have hst2 : Jn + min (500 - Jn) x0.size = 500 := by omega
            have hst3 : Jn + x2.size = 500 := by omega
            clear hs1 hs2 hst hhi hlo
            rw [hst3] at HSUM hB4c
            rw [hst2]
            clear hst2 hst3 hK6 hKI hK500
            have hwg : IntKind.i64.wrap (gone + (500 : Int)) = gone + (500 : Int) := IntWalk.i64_in _ (by have := HN.out.2.2.2.1; have := HSUM.out; have := sumS_nonneg (x1 :: l.drop (k + 1)); have := HN.out.2.2.2.2.2.1; omega)
            obtain ⟨cX, fX⟩ := hX.facts
            have lX := hX.lt
            go_upto_region 20 with fail
            clear cX fX
            have hX6 := hX.set_ 2 (.int .i64 (gone + (500 : Int)))
            have hR6 := hR.far (p := ⟨gX, 2, none⟩) (show w.heap.size + 1 ≠ gX by omega) (.int .i64 (gone + (500 : Int)))
            have hrow6 : RowS (wz0.setCell ⟨gX, 2, none⟩ (.int .i64 (gone + (500 : Int)))) (some ⟨b3, off3, none⟩) (n - k) c3 (x1 :: l.drop (k + 1)) := hrow.kept ((Kept.refl wz0 gX).set 2 _) hX (by decide)
            have hL6 := lo_set hL (p := ⟨gX, 2, none⟩) (show w.heap.size ≤ gX by omega) (.int .i64 (gone + (500 : Int)))
            clear hX hR hrow hL lX
            generalize wz0.setCell ⟨gX, 2, none⟩ (.int .i64 (gone + (500 : Int))) = w6 at hX6 hR6 hrow6 hL6 ⊢
            simp only [List.setIfInBounds_toArray, List.set_cons_zero, List.set_cons_succ] at hX6
            obtain ⟨cX, fX⟩ := hX6.facts
            obtain ⟨cR, fR⟩ := hR6.facts
            have lX := hX6.lt
            have lR := hR6.lt
            go_wp2_with fail
            clear cX fX cR fR
            have hR7 := ((hR6.set_ 0 (.slice (some ⟨b3, off3, none⟩) (n - k) c3)).set_ 1 (.int .i64 made)).set_ 2 (.int .i64 (gone + (500 : Int)))
            have hrow7 : RowS (((w6.setCell ⟨w.heap.size + 1, 0, none⟩ (.slice (some ⟨b3, off3, none⟩) (n - k) c3)).setCell ⟨w.heap.size + 1, 1, none⟩ (.int .i64 made)).setCell ⟨w.heap.size + 1, 2, none⟩ (.int .i64 (gone + (500 : Int)))) (some ⟨b3, off3, none⟩) (n - k) c3 (x1 :: l.drop (k + 1)) := hrow6.kept ((((Kept.refl w6 (w.heap.size + 1)).set 0 _).set 1 _).set 2 _) hR6 (by decide)
            have hL7 := lo_set (lo_set (lo_set hL6 (p := ⟨w.heap.size + 1, 0, none⟩) (Nat.le_succ _) (.slice (some ⟨b3, off3, none⟩) (n - k) c3)) (p := ⟨w.heap.size + 1, 1, none⟩) (Nat.le_succ _) (.int .i64 made)) (p := ⟨w.heap.size + 1, 2, none⟩) (Nat.le_succ _) (.int .i64 (gone + (500 : Int)))
            clear hX6 hR6 hrow6 hL6 lX lR
            generalize ((w6.setCell ⟨w.heap.size + 1, 0, none⟩ (.slice (some ⟨b3, off3, none⟩) (n - k) c3)).setCell ⟨w.heap.size + 1, 1, none⟩ (.int .i64 made)).setCell ⟨w.heap.size + 1, 2, none⟩ (.int .i64 (gone + (500 : Int))) = w7 at hR7 hrow7 hL7 ⊢
            simp only [List.setIfInBounds_toArray, List.set_cons_zero, List.set_cons_succ] at hR7
            obtain ⟨cR, fR⟩ := hR7.facts
            have hpos := HPOS.out
            have hsum := HSUM.out
            have hgg := HN.out.2.2.2.1
            have hmd := HN.out.2.2.2.2.2.1
            exact bodyPost_ret (v := .tuple #[.agg #[.slice (some ⟨b3, off3, none⟩) (n - k) c3, .int .i64 made, .int .i64 (gone + (500 : Int))], .slice B4 500 cB4]) (by simp [results, Tryz.results30, go_sem, cR] <;> (repeat' (first | apply And.intro | (show _ = _; kernel_rfl)))) rfl ⟨(some ⟨b3, off3, none⟩), (n - k), c3, (x1 :: l.drop (k + 1)), gone + (500 : Int), B4, 500, cB4, rfl, by omega, ⟨hrow7, hpos, by omega, by omega, hmd⟩, hL7⟩
          · have hkn' : ¬ (0 : Int) < ((n - k : Nat) : Int) := by omega
            obtain ⟨cX, fX⟩ := hX.facts
            have lX := hX.lt
            go_upto_region 19 with fail
            clear cX fX lX
            have HPOS := HPOS2
            have HSUM := HSUM2
            have hwg : IntKind.i64.wrap (gone + (Jn : Int)) = gone + (Jn : Int) := IntWalk.i64_in _ (by have := HN.out.2.2.2.1; have := HSUM.out; have := sumS_nonneg (l.drop k); have := HN.out.2.2.2.2.2.1; omega)
            obtain ⟨cX, fX⟩ := hX.facts
            have lX := hX.lt
            go_upto_region 20 with fail
            clear cX fX
            have hX6 := hX.set_ 2 (.int .i64 (gone + (Jn : Int)))
            have hR6 := hR.far (p := ⟨gX, 2, none⟩) (show w.heap.size + 1 ≠ gX by omega) (.int .i64 (gone + (Jn : Int)))
            have hrow6 : RowS (wd.setCell ⟨gX, 2, none⟩ (.int .i64 (gone + (Jn : Int)))) D3 (n - k) c3 (l.drop k) := hrow.kept ((Kept.refl wd gX).set 2 _) hX (by decide)
            have hL6 := lo_set hL (p := ⟨gX, 2, none⟩) (show w.heap.size ≤ gX by omega) (.int .i64 (gone + (Jn : Int)))
            clear hX hR hrow hL lX
            generalize wd.setCell ⟨gX, 2, none⟩ (.int .i64 (gone + (Jn : Int))) = w6 at hX6 hR6 hrow6 hL6 ⊢
            simp only [List.setIfInBounds_toArray, List.set_cons_zero, List.set_cons_succ] at hX6
            obtain ⟨cX, fX⟩ := hX6.facts
            obtain ⟨cR, fR⟩ := hR6.facts
            have lX := hX6.lt
            have lR := hR6.lt
            go_wp2_with fail
            clear cX fX cR fR
            have hR7 := ((hR6.set_ 0 (.slice D3 (n - k) c3)).set_ 1 (.int .i64 made)).set_ 2 (.int .i64 (gone + (Jn : Int)))
            have hrow7 : RowS (((w6.setCell ⟨w.heap.size + 1, 0, none⟩ (.slice D3 (n - k) c3)).setCell ⟨w.heap.size + 1, 1, none⟩ (.int .i64 made)).setCell ⟨w.heap.size + 1, 2, none⟩ (.int .i64 (gone + (Jn : Int)))) D3 (n - k) c3 (l.drop k) := hrow6.kept ((((Kept.refl w6 (w.heap.size + 1)).set 0 _).set 1 _).set 2 _) hR6 (by decide)
            have hL7 := lo_set (lo_set (lo_set hL6 (p := ⟨w.heap.size + 1, 0, none⟩) (Nat.le_succ _) (.slice D3 (n - k) c3)) (p := ⟨w.heap.size + 1, 1, none⟩) (Nat.le_succ _) (.int .i64 made)) (p := ⟨w.heap.size + 1, 2, none⟩) (Nat.le_succ _) (.int .i64 (gone + (Jn : Int)))
            clear hX6 hR6 hrow6 hL6 lX lR
            generalize ((w6.setCell ⟨w.heap.size + 1, 0, none⟩ (.slice D3 (n - k) c3)).setCell ⟨w.heap.size + 1, 1, none⟩ (.int .i64 made)).setCell ⟨w.heap.size + 1, 2, none⟩ (.int .i64 (gone + (Jn : Int))) = w7 at hR7 hrow7 hL7 ⊢
            simp only [List.setIfInBounds_toArray, List.set_cons_zero, List.set_cons_succ] at hR7
            obtain ⟨cR, fR⟩ := hR7.facts
            have hpos := HPOS.out
            have hsum := HSUM.out
            have hgg := HN.out.2.2.2.1
            have hmd := HN.out.2.2.2.2.2.1
            exact bodyPost_ret (v := .tuple #[.agg #[.slice D3 (n - k) c3, .int .i64 made, .int .i64 (gone + (Jn : Int))], .slice B Jn cB]) (by simp [results, Tryz.results30, go_sem, cR] <;> (repeat' (first | apply And.intro | (show _ = _; kernel_rfl)))) rfl ⟨D3, (n - k), c3, (l.drop k), gone + (Jn : Int), B, Jn, cB, rfl, by omega, ⟨hrow7, hpos, by omega, by omega, hmd⟩, hL7⟩
        · obtain ⟨cX, fX⟩ := hX.facts
          have lX := hX.lt
          go_upto_region 19 with fail
          clear cX fX lX
          have HPOS := HPOS2
          have HSUM := HSUM2
          have hwg : IntKind.i64.wrap (gone + (Jn : Int)) = gone + (Jn : Int) := IntWalk.i64_in _ (by have := HN.out.2.2.2.1; have := HSUM.out; have := sumS_nonneg (l.drop k); have := HN.out.2.2.2.2.2.1; omega)
          obtain ⟨cX, fX⟩ := hX.facts
          have lX := hX.lt
          go_upto_region 20 with fail
          clear cX fX
          have hX6 := hX.set_ 2 (.int .i64 (gone + (Jn : Int)))
          have hR6 := hR.far (p := ⟨gX, 2, none⟩) (show w.heap.size + 1 ≠ gX by omega) (.int .i64 (gone + (Jn : Int)))
          have hrow6 : RowS (wd.setCell ⟨gX, 2, none⟩ (.int .i64 (gone + (Jn : Int)))) D3 (n - k) c3 (l.drop k) := hrow.kept ((Kept.refl wd gX).set 2 _) hX (by decide)
          have hL6 := lo_set hL (p := ⟨gX, 2, none⟩) (show w.heap.size ≤ gX by omega) (.int .i64 (gone + (Jn : Int)))
          clear hX hR hrow hL lX
          generalize wd.setCell ⟨gX, 2, none⟩ (.int .i64 (gone + (Jn : Int))) = w6 at hX6 hR6 hrow6 hL6 ⊢
          simp only [List.setIfInBounds_toArray, List.set_cons_zero, List.set_cons_succ] at hX6
          obtain ⟨cX, fX⟩ := hX6.facts
          obtain ⟨cR, fR⟩ := hR6.facts
          have lX := hX6.lt
          have lR := hR6.lt
          go_wp2_with fail
          clear cX fX cR fR
          have hR7 := ((hR6.set_ 0 (.slice D3 (n - k) c3)).set_ 1 (.int .i64 made)).set_ 2 (.int .i64 (gone + (Jn : Int)))
          have hrow7 : RowS (((w6.setCell ⟨w.heap.size + 1, 0, none⟩ (.slice D3 (n - k) c3)).setCell ⟨w.heap.size + 1, 1, none⟩ (.int .i64 made)).setCell ⟨w.heap.size + 1, 2, none⟩ (.int .i64 (gone + (Jn : Int)))) D3 (n - k) c3 (l.drop k) := hrow6.kept ((((Kept.refl w6 (w.heap.size + 1)).set 0 _).set 1 _).set 2 _) hR6 (by decide)
          have hL7 := lo_set (lo_set (lo_set hL6 (p := ⟨w.heap.size + 1, 0, none⟩) (Nat.le_succ _) (.slice D3 (n - k) c3)) (p := ⟨w.heap.size + 1, 1, none⟩) (Nat.le_succ _) (.int .i64 made)) (p := ⟨w.heap.size + 1, 2, none⟩) (Nat.le_succ _) (.int .i64 (gone + (Jn : Int)))
          clear hX6 hR6 hrow6 hL6 lX lR
          generalize ((w6.setCell ⟨w.heap.size + 1, 0, none⟩ (.slice D3 (n - k) c3)).setCell ⟨w.heap.size + 1, 1, none⟩ (.int .i64 made)).setCell ⟨w.heap.size + 1, 2, none⟩ (.int .i64 (gone + (Jn : Int))) = w7 at hR7 hrow7 hL7 ⊢
          simp only [List.setIfInBounds_toArray, List.set_cons_zero, List.set_cons_succ] at hR7
          obtain ⟨cR, fR⟩ := hR7.facts
          have hpos := HPOS.out
          have hsum := HSUM.out
          have hgg := HN.out.2.2.2.1
          have hmd := HN.out.2.2.2.2.2.1
          exact bodyPost_ret (v := .tuple #[.agg #[.slice D3 (n - k) c3, .int .i64 made, .int .i64 (gone + (Jn : Int))], .slice B Jn cB]) (by simp [results, Tryz.results30, go_sem, cR] <;> (repeat' (first | apply And.intro | (show _ = _; kernel_rfl)))) rfl ⟨D3, (n - k), c3, (l.drop k), gone + (Jn : Int), B, Jn, cB, rfl, by omega, ⟨hrow7, hpos, by omega, by omega, hmd⟩, hL7⟩
    · have hK2 : Jn + x.size ≤ 500 := by omega
      go_upto_region 11 with (at_builtin; refine Lib.wpList_append_own_string _ rfl _ _ 53 9 rfl (w.heap.size + 2) 5 i0 Tryz.underlying53 Tryz.underlying9 hi hz0 hz1 hz2 _ Jn _ rfl hB x rfl (by unfold maxLen; omega) (by omega) (by have := hL.size; have := hX.lt; omega) ?_; intro v4 w4 hB4 hgr _)
      replace hR := hR.grown hgr (blk_ne_own hB hR (by decide))
      replace hX := hX.grown hgr (blk_ne_own hB hX (by decide))
      replace hS := hS.kept hgr (own_ne_own hB hS (by decide))
      replace hL := hL.grown hgr hL.size (fun k hk => by have := (hB.lt k hk).1; omega)
      clear hgr hB hc0
      go_upto_region 12 with fail
      go_wp2_with fail
      go_roundw
      case rel => exact ⟨k + 1, Jn + x.size, _, by omega, by go_num, by go_num, by rw [HS.out.1]; have := HK.out; omega, hK2, hB4, hR, hX, hS, hL⟩
      case measure => simp [intOf]; omega
  · have hkl' : ¬ (k : Int) < (n : Int) := by omega
    have HSTOP : Hid (∀ h : k < l.length, 500 - (Jn : Int) < (l[k].size : Int)) := Lib.hid fun h => by omega
    go_upto_region 13 with fail
    clear hkl hkl'
    obtain ⟨cX0, fX0⟩ := hX.facts
    obtain ⟨wc, hclr, hfb, hfo, hfl, hcase⟩ := cleared hS hln hk 0
    replace hX := hfb _ _ _ (by decide) hX
    replace hR := hfb _ _ _ (by decide) hR
    replace hB := hfo _ _ _ _ _ _ (by decide) hB
    replace hL := hfl w (by omega) hL
    clear hfb hfo hfl hS
    rcases hcase with ⟨rfl, rfl, rfl⟩ | ⟨b2, cur, rfl, hbb, hT, hcm1, hcm, hcs, hcur⟩
    · obtain rfl : k = 0 := by omega
      go_upto_region 14 with fail
      clear cX0 fX0 hclr
      obtain ⟨cX, fX⟩ := hX.facts
      have lX := hX.lt
      go_upto_region 15 with fail
      clear cX fX lX
      obtain rfl : l = [] := List.eq_nil_of_length_eq_zero hln
      obtain rfl : Jn = 0 := by have := HK.out; simp [sumS] at this; omega
      have hrow : RowS (wc.setCell ⟨gX, 0, none⟩ (.slice none 0 0)) none 0 0 [] := Row.nil
      replace hB := own_far hB (p := ⟨gX, 0, none⟩) (blk_ne_own hB hX (by decide)) (.slice none 0 0)
      replace hR := hR.far (p := ⟨gX, 0, none⟩) (show w.heap.size + 1 ≠ gX by omega) (.slice none 0 0)
      replace hL := lo_set hL (p := ⟨gX, 0, none⟩) (show w.heap.size ≤ gX by omega) (.slice none 0 0)
      replace hX := hX.set_ 0 (.slice none 0 0)
      simp only [List.setIfInBounds_toArray, List.set_cons_zero, List.set_cons_succ] at hX
      generalize wc.setCell ⟨gX, 0, none⟩ (.slice none 0 0) = wd at hX hR hB hL hrow ⊢
      have hw5 : IntKind.i64.wrap (500 - ((0 : Nat) : Int)) = 500 := by decide
      have HPOS : Hid (∀ s ∈ ([] : List ByteArray), 0 < s.size) := Lib.hid fun s hs => by simp at hs
      have HSUM : Hid (made - (gone + ((0 : Nat) : Int)) = sumS [] ∧ ((0 : Nat) : Int) ≤ 500) := Lib.hid (by have := HN.out.2.2.1; constructor <;> omega)
      obtain ⟨cX, fX⟩ := hX.facts
      have lX := hX.lt
      go_upto_region 19 with fail
      clear cX fX lX
      have hwg : IntKind.i64.wrap gone = gone := IntWalk.i64_in _ (by have := HN.out.2.2.2.1; have := HSUM.out; have := sumS_nonneg ([] : List ByteArray); have := HN.out.2.2.2.2.2.1; omega)
      obtain ⟨cX, fX⟩ := hX.facts
      have lX := hX.lt
      go_upto_region 20 with fail
      clear cX fX
      have hX6 := hX.set_ 2 (.int .i64 gone)
      have hR6 := hR.far (p := ⟨gX, 2, none⟩) (show w.heap.size + 1 ≠ gX by omega) (.int .i64 gone)
      have hrow6 : RowS (wd.setCell ⟨gX, 2, none⟩ (.int .i64 gone)) none 0 0 ([] : List ByteArray) := hrow.kept ((Kept.refl wd gX).set 2 _) hX (by decide)
      have hL6 := lo_set hL (p := ⟨gX, 2, none⟩) (show w.heap.size ≤ gX by omega) (.int .i64 gone)
      clear hX hR hrow hL lX
      generalize wd.setCell ⟨gX, 2, none⟩ (.int .i64 gone) = w6 at hX6 hR6 hrow6 hL6 ⊢
      simp only [List.setIfInBounds_toArray, List.set_cons_zero, List.set_cons_succ] at hX6
      obtain ⟨cX, fX⟩ := hX6.facts
      obtain ⟨cR, fR⟩ := hR6.facts
      have lX := hX6.lt
      have lR := hR6.lt
      go_wp2_with fail
      clear cX fX cR fR
      have hR7 := ((hR6.set_ 0 (.slice none 0 0)).set_ 1 (.int .i64 made)).set_ 2 (.int .i64 gone)
      have hrow7 : RowS (((w6.setCell ⟨w.heap.size + 1, 0, none⟩ (.slice none 0 0)).setCell ⟨w.heap.size + 1, 1, none⟩ (.int .i64 made)).setCell ⟨w.heap.size + 1, 2, none⟩ (.int .i64 gone)) none 0 0 ([] : List ByteArray) := hrow6.kept ((((Kept.refl w6 (w.heap.size + 1)).set 0 _).set 1 _).set 2 _) hR6 (by decide)
      have hL7 := lo_set (lo_set (lo_set hL6 (p := ⟨w.heap.size + 1, 0, none⟩) (Nat.le_succ _) (.slice none 0 0)) (p := ⟨w.heap.size + 1, 1, none⟩) (Nat.le_succ _) (.int .i64 made)) (p := ⟨w.heap.size + 1, 2, none⟩) (Nat.le_succ _) (.int .i64 gone)
      clear hX6 hR6 hrow6 hL6 lX lR
      generalize ((w6.setCell ⟨w.heap.size + 1, 0, none⟩ (.slice none 0 0)).setCell ⟨w.heap.size + 1, 1, none⟩ (.int .i64 made)).setCell ⟨w.heap.size + 1, 2, none⟩ (.int .i64 gone) = w7 at hR7 hrow7 hL7 ⊢
      simp only [List.setIfInBounds_toArray, List.set_cons_zero, List.set_cons_succ] at hR7
      obtain ⟨cR, fR⟩ := hR7.facts
      have hpos := HPOS.out
      have hsum := HSUM.out
      have hgg := HN.out.2.2.2.1
      have hmd := HN.out.2.2.2.2.2.1
      exact bodyPost_ret (v := .tuple #[.agg #[.slice none 0 0, .int .i64 made, .int .i64 gone], .slice B 0 cB]) (by simp [results, Tryz.results30, go_sem, cR] <;> (repeat' (first | apply And.intro | (show _ = _; kernel_rfl)))) rfl ⟨none, 0, 0, ([] : List ByteArray), gone, B, 0, cB, rfl, by omega, ⟨hrow7, hpos, by omega, by omega, hmd⟩, hL7⟩
    · have hkc : k ≤ cap2 := by omega
      go_upto_region 14 with fail
      clear cX0 fX0 hclr
      obtain ⟨cX, fX⟩ := hX.facts
      have lX := hX.lt
      go_upto_region 15 with fail
      clear cX fX lX
      obtain ⟨off2, hD, hoff⟩ : ∃ off2, (if cap2 = k then some (⟨b2, 0, none⟩ : Addr) else some ⟨b2, k, none⟩) = some ⟨b2, off2, none⟩ ∧ (k < n → off2 = k) := by
        split
        · exact ⟨0, rfl, fun h => by omega⟩
        · exact ⟨k, rfl, fun _ => rfl⟩
      rw [hD]
      clear hD
      have hrow0 : RowS wc (some ⟨b2, off2, none⟩) (n - k) (cap2 - k) (l.drop k) := row_tail hT (by simp [hln]) (by omega) (by omega) fun i x hx => by
        rw [List.getElem?_drop] at hx
        have hi : k + i < n := by have := (List.getElem?_eq_some_iff.1 hx).1; omega
        rw [hoff (by omega)]
        exact hcur (k + i) x (by omega) hx
      have hrow : RowS (wc.setCell ⟨gX, 0, none⟩ (.slice (some ⟨b2, off2, none⟩) (n - k) (cap2 - k))) (some ⟨b2, off2, none⟩) (n - k) (cap2 - k) (l.drop k) := hrow0.kept ((Kept.refl wc gX).set 0 _) hX (by decide)
      replace hB := own_far hB (p := ⟨gX, 0, none⟩) (blk_ne_own hB hX (by decide)) (.slice (some ⟨b2, off2, none⟩) (n - k) (cap2 - k))
      replace hR := hR.far (p := ⟨gX, 0, none⟩) (show w.heap.size + 1 ≠ gX by omega) (.slice (some ⟨b2, off2, none⟩) (n - k) (cap2 - k))
      replace hL := lo_set hL (p := ⟨gX, 0, none⟩) (show w.heap.size ≤ gX by omega) (.slice (some ⟨b2, off2, none⟩) (n - k) (cap2 - k))
      replace hX := hX.set_ 0 (.slice (some ⟨b2, off2, none⟩) (n - k) (cap2 - k))
      simp only [List.setIfInBounds_toArray, List.set_cons_zero, List.set_cons_succ] at hX
      have hDge : ∀ p, (some ⟨b2, off2, none⟩ : Option Addr) = some p → w.heap.size + 2 ≤ p.block := fun p hp => by injection hp with hp; subst hp; exact hbb
      clear hrow0 hT hcur hoff hbb hcs
      generalize wc.setCell ⟨gX, 0, none⟩ (.slice (some ⟨b2, off2, none⟩) (n - k) (cap2 - k)) = wd at hX hR hB hL hrow ⊢
      generalize (some ⟨b2, off2, none⟩ : Option Addr) = D3 at hX hrow hDge ⊢
      generalize cap2 - k = c3 at hX hrow ⊢
      have hw5 : IntKind.i64.wrap (500 - (Jn : Int)) = 500 - (Jn : Int) := IntWalk.i64_in _ (by omega)
      have hpos2 : ∀ s ∈ l.drop k, 0 < s.size := fun s hs => HN.out.2.2.2.2.1 s (List.mem_of_mem_drop hs)
      have hsum2 : made - (gone + (Jn : Int)) = sumS (l.drop k) ∧ (Jn : Int) ≤ sumS l := by
        rw [sumS_drop]
        have h1 := HK.out
        have h2 := HN.out.2.2.1
        have h3 := sumS_take_le l k
        omega
      have HPOS2 := Lib.hid hpos2
      have HSUM2 := Lib.hid hsum2
      clear hpos2 hsum2
      by_cases hK500 : (0 : Int) < 500 - (Jn : Int)
      · by_cases hkn : k < n
        · have hkn' : (0 : Int) < ((n - k : Nat) : Int) := by omega
          have hst := HSTOP.out (by omega)
          obtain ⟨b3, off3, rfl, hlt3, hc3⟩ := hrow.at (i := 0) (x := l[k]) (by rw [List.getElem?_drop]; simp)
          have hc0 := hc3 0 _ rfl
          simp only [Nat.add_zero, Nat.mul_one] at hc0
          have hld : l.drop k = l[k] :: l.drop (k + 1) := List.drop_eq_getElem_cons (by omega)
          have HLD := Lib.hid hld
          obtain ⟨x0, hx0⟩ : ∃ x, l[k] = x := ⟨_, rfl⟩
          rw [hx0] at hst hc0 HLD
          clear hc3 hx0 hld
          obtain ⟨cX, fX⟩ := hX.facts
          have lX := hX.lt
          have hlo : (0 : Int) ≤ 500 - (Jn : Int) := by omega
          have hhi : 500 - (Jn : Int) ≤ (x0.size : Int) := by omega
          have hKI : (Jn : Int) ≤ 500 := by omega
          go_upto_region 18 with (at_builtin; refine Lib.wpList_append_own_string _ rfl _ _ 53 9 rfl (w.heap.size + 2) 5 i0 Tryz.underlying53 Tryz.underlying9 hi hz0 hz1 hz2 _ Jn _ rfl hB (x0.extract 0 (500 - Jn)) rfl (by rw [ByteArray.size_extract]; unfold maxLen; omega) (by rw [ByteArray.size_extract]; omega) (by have := hL.size; have := hX.lt; omega) ?_; intro v4 w4 hB4 hgr _)
          clear cX fX hc0
          obtain ⟨B4, cB4, rfl, hB4c, _⟩ := own_shape hB4
          replace hR := hR.grown hgr (blk_ne_own hB hR (by decide))
          replace hX := hX.grown hgr (blk_ne_own hB hX (by decide))
          replace hrow := hrow.grown hB hgr (by decide)
          replace hL := hL.grown hgr hL.size (fun k hk => by have := (hB.lt k hk).1; omega)
          clear hgr hB lX
          have hgeb : w.heap.size ≤ b3 := by have := hDge _ rfl; simp only at this; omega
          refine wp_region_until (S := (fun W => W.cell? ⟨gX, 0, none⟩ = some (.slice (some ⟨b3, off3, none⟩) (n - k) c3) ∧ W.cell? ⟨b3, off3, none⟩ = some (.string x0) ∧ gX < W.heap.size ∧ b3 < W.heap.size)) (S2 := fun _ => True) 9 (by kernel_rfl) ?_
          replace hX : Blk w4.drew _ _ _ := hX
          replace hR : Blk w4.drew _ _ _ := hR
          replace hrow : Row _ _ _ w4.drew _ _ _ _ := hrow
          replace hB4 : w4.drew.ownsRow _ _ _ _ _ _ := hB4
          replace hL := lo_drew hL
          generalize w4.drew = wd2 at hX hR hrow hB4 hL ⊢
          have hG : (fun _ : World => True) wd2 ∧ (fun W => W.cell? ⟨gX, 0, none⟩ = some (.slice (some ⟨b3, off3, none⟩) (n - k) c3) ∧ W.cell? ⟨b3, off3, none⟩ = some (.string x0) ∧ gX < W.heap.size ∧ b3 < W.heap.size) wd2 := ⟨trivial, by
            obtain ⟨b3x, off3x, e3, hlt3, hc3⟩ := hrow.at (i := 0) (x := x0) (by rw [HLD.out]; rfl)
            injection e3 with e3
            injection e3 with e31 e32 _
            subst e31 e32
            have hc0 := hc3 0 _ rfl
            simp only [Nat.zero_mul, Nat.add_zero] at hc0
            exact ⟨hX.facts.1 0, hc0, hX.lt, hlt3⟩⟩
          (refine until_take (i := 0) (oi := _) (op := _) (v := ?_) (getop rfl) (getop rfl) (by kernel_rfl) (by decide) (by kernel_rfl) (by kernel_rfl) (by kernel_rfl) (by kernel_rfl) (fun _ _ _ h => h) (Or.inl ⟨by rfl, ?_⟩) hG ?_; rotate_left; focus (intro w hSw; (try dsimp only at hSw); go_simp; (try with_reducible rfl); done))
          (try simp only [Act.put, List.setIfInBounds_toArray, List.set_cons_zero, List.set_cons_succ])
          (refine until_take (i := 2) (oi := _) (op := _) (v := ?_) (getop rfl) (getop rfl) (by kernel_rfl) (by decide) (by kernel_rfl) (by kernel_rfl) (by kernel_rfl) (by kernel_rfl) (fun _ _ _ h => h) (Or.inl ⟨by rfl, ?_⟩) hG ?_; rotate_left; focus (intro w hSw; (try dsimp only at hSw); go_simp; (try with_reducible rfl); done))
          (try simp only [Act.put, List.setIfInBounds_toArray, List.set_cons_zero, List.set_cons_succ])
          (refine until_take (i := 6) (oi := _) (op := _) (v := ?_) (getop rfl) (getop rfl) (by kernel_rfl) (by decide) (by kernel_rfl) (by kernel_rfl) (by kernel_rfl) (by kernel_rfl) (fun _ _ _ h => h) (Or.inl ⟨by rfl, ?_⟩) hG ?_; rotate_left; focus (intro w hSw; (try dsimp only at hSw); go_simp; (try with_reducible rfl); done))
          (try simp only [Act.put, List.setIfInBounds_toArray, List.set_cons_zero, List.set_cons_succ])
          (refine until_take (i := 1) (oi := _) (op := _) (v := ?_) (getop rfl) (getop rfl) (by kernel_rfl) (by decide) (by kernel_rfl) (by kernel_rfl) (by kernel_rfl) (by kernel_rfl) (fun _ _ _ h => h) (Or.inl ⟨by rfl, ?_⟩) hG ?_; rotate_left; focus (intro w hSw; (try dsimp only at hSw); go_simp; (try with_reducible rfl); done))
          (try simp only [Act.put, List.setIfInBounds_toArray, List.set_cons_zero, List.set_cons_succ])
          (refine until_take (i := 3) (oi := _) (op := _) (v := ?_) (getop rfl) (getop rfl) (by kernel_rfl) (by decide) (by kernel_rfl) (by kernel_rfl) (by kernel_rfl) (by kernel_rfl) (fun _ _ _ h => h) (Or.inl ⟨by rfl, ?_⟩) hG ?_; rotate_left; focus (intro w hSw; (try dsimp only at hSw); go_simp; (try with_reducible rfl); done))
          (try simp only [Act.put, List.setIfInBounds_toArray, List.set_cons_zero, List.set_cons_succ])
          (refine until_take (i := 4) (oi := _) (op := _) (v := ?_) (getop rfl) (getop rfl) (by kernel_rfl) (by decide) (by kernel_rfl) (by kernel_rfl) (by kernel_rfl) (by kernel_rfl) (fun _ _ _ h => h) (Or.inl ⟨by rfl, ?_⟩) hG ?_; rotate_left; focus (intro w hSw; (try dsimp only at hSw); go_simp; (try with_reducible rfl); done))
          (try simp only [Act.put, List.setIfInBounds_toArray, List.set_cons_zero, List.set_cons_succ])
          (refine until_take (i := 5) (oi := _) (op := _) (v := ?_) (getop rfl) (getop rfl) (by kernel_rfl) (by decide) (by kernel_rfl) (by kernel_rfl) (by kernel_rfl) (by kernel_rfl) (fun _ _ _ h => h) (Or.inl ⟨by rfl, ?_⟩) hG ?_; rotate_left; focus (intro w hSw; (try dsimp only at hSw); go_simp; (try with_reducible rfl); done))
          (try simp only [Act.put, List.setIfInBounds_toArray, List.set_cons_zero, List.set_cons_succ])
          (refine until_take (i := 7) (oi := _) (op := _) (v := ?_) (getop rfl) (getop rfl) (by kernel_rfl) (by decide) (by kernel_rfl) (by kernel_rfl) (by kernel_rfl) (by kernel_rfl) (fun _ _ _ h => h) (Or.inl ⟨by rfl, ?_⟩) hG ?_; rotate_left; focus (intro w hSw; (try dsimp only at hSw); go_simp; (try with_reducible rfl); done))
          (try simp only [Act.put, List.setIfInBounds_toArray, List.set_cons_zero, List.set_cons_succ])
          (refine until_take (i := 8) (oi := _) (op := _) (v := ?_) (getop rfl) (getop rfl) (by kernel_rfl) (by decide) (by kernel_rfl) (by kernel_rfl) (by kernel_rfl) (by kernel_rfl) (fun _ _ _ h => h) (Or.inl ⟨by rfl, ?_⟩) hG ?_; rotate_left; focus (intro w hSw; (try dsimp only at hSw); go_simp; (try with_reducible rfl); done))
          (try simp only [Act.put, List.setIfInBounds_toArray, List.set_cons_zero, List.set_cons_succ])
          have hrow1 := hrow
          rw [HLD.out] at hrow1
          obtain ⟨csT, hT0⟩ := hrow1.2 ⟨b3, off3, none⟩ rfl
          have hT : Blk wd2 b3 9 csT := hT0
          obtain ⟨_, fT⟩ := hT.facts
          obtain ⟨b3x, off3x, e3, hlt4, hc4⟩ := hrow1.at (i := 0) (x := x0) rfl
          injection e3 with e3
          injection e3 with e31 e32 _
          subst e31 e32
          have hc0 := hc4 0 _ rfl
          simp only [Nat.zero_mul, Nat.add_zero] at hc0
          refine until_step (i := 9) (o := _) (by kernel_rfl) (getop rfl) (by kernel_rfl) (fun K hK => ?_)
          go_simp
          clear hc0 hc4 fT hT0 hlt4
          have hrow2 := row_head hrow1 (x0.extract (500 - Jn) x0.size)
          have hX2 := hX.far (p := ⟨b3, off3, none⟩) (blk_ne hX hT (by decide)) (.string (x0.extract (500 - Jn) x0.size))
          have hR2 := hR.far (p := ⟨b3, off3, none⟩) (blk_ne hR hT (by decide)) (.string (x0.extract (500 - Jn) x0.size))
          replace hL := lo_set hL (p := ⟨b3, off3, none⟩) hgeb (.string (x0.extract (500 - Jn) x0.size))
          clear hrow hX hR hrow1 hT
          have hrow := hrow2
          have hX := hX2
          have hR := hR2
          clear hrow2 hX2 hR2
          generalize wd2.setCell ⟨b3, off3, none⟩ (.string (x0.extract (500 - Jn) x0.size)) = wz0 at hX hR hrow hL ⊢
          refine hK.out _ _ trivial ?_
          clear hK K hG
          (try simp only [Act.put, List.setIfInBounds_toArray, List.set_cons_zero, List.set_cons_succ])
          refine until_done (by kernel_rfl) ?_ _
          clear hB4
          have hs1 : (x0.extract 0 (500 - Jn)).size = 500 - Jn := by rw [ByteArray.size_extract]; omega
          have hs2 : (x0.extract (500 - Jn) x0.size).size = x0.size - (500 - Jn) := by rw [ByteArray.size_extract]; omega
          generalize x0.extract (500 - Jn) x0.size = x1 at hrow hX hs2 ⊢
          generalize x0.extract 0 (500 - Jn) = x2 at hs1 hB4c ⊢
          have HPOS : Hid (∀ s ∈ x1 :: l.drop (k + 1), 0 < s.size) := Lib.hid fun s hs => by
            rcases List.mem_cons.1 hs with rfl | h
            · omega
            · exact HN.out.2.2.2.2.1 s (List.mem_of_mem_drop h)
          have HSUM : Hid (made - (gone + ((Jn + x2.size : Nat) : Int)) = sumS (x1 :: l.drop (k + 1)) ∧ ((Jn + x2.size : Nat) : Int) ≤ 500) := Lib.hid (by
            have h1 := HSUM2.out.1
            rw [HLD.out] at h1
            simp only [sumS] at h1 ⊢
            omega)
          have hK6 : Jn + x2.size ≤ 500 := by omega
          have hst2 : Jn + min (500 - Jn) x0.size = 500 := by omega
          have hst3 : Jn + x2.size = 500 := by omega
          clear hs1 hs2 hst hhi hlo
          rw [hst3] at HSUM hB4c
          rw [hst2]
          clear hst2 hst3 hK6 hKI hK500
          have hwg : IntKind.i64.wrap (gone + (500 : Int)) = gone + (500 : Int) := IntWalk.i64_in _ (by have := HN.out.2.2.2.1; have := HSUM.out; have := sumS_nonneg (x1 :: l.drop (k + 1)); have := HN.out.2.2.2.2.2.1; omega)
          obtain ⟨cX, fX⟩ := hX.facts
          have lX := hX.lt
          go_upto_region 20 with fail
          clear cX fX
          have hX6 := hX.set_ 2 (.int .i64 (gone + (500 : Int)))
          have hR6 := hR.far (p := ⟨gX, 2, none⟩) (show w.heap.size + 1 ≠ gX by omega) (.int .i64 (gone + (500 : Int)))
          have hrow6 : RowS (wz0.setCell ⟨gX, 2, none⟩ (.int .i64 (gone + (500 : Int)))) (some ⟨b3, off3, none⟩) (n - k) c3 (x1 :: l.drop (k + 1)) := hrow.kept ((Kept.refl wz0 gX).set 2 _) hX (by decide)
          have hL6 := lo_set hL (p := ⟨gX, 2, none⟩) (show w.heap.size ≤ gX by omega) (.int .i64 (gone + (500 : Int)))
          clear hX hR hrow hL lX
          generalize wz0.setCell ⟨gX, 2, none⟩ (.int .i64 (gone + (500 : Int))) = w6 at hX6 hR6 hrow6 hL6 ⊢
          simp only [List.setIfInBounds_toArray, List.set_cons_zero, List.set_cons_succ] at hX6
          obtain ⟨cX, fX⟩ := hX6.facts
          obtain ⟨cR, fR⟩ := hR6.facts
          have lX := hX6.lt
          have lR := hR6.lt
          go_wp2_with fail
          clear cX fX cR fR
          have hR7 := ((hR6.set_ 0 (.slice (some ⟨b3, off3, none⟩) (n - k) c3)).set_ 1 (.int .i64 made)).set_ 2 (.int .i64 (gone + (500 : Int)))
          have hrow7 : RowS (((w6.setCell ⟨w.heap.size + 1, 0, none⟩ (.slice (some ⟨b3, off3, none⟩) (n - k) c3)).setCell ⟨w.heap.size + 1, 1, none⟩ (.int .i64 made)).setCell ⟨w.heap.size + 1, 2, none⟩ (.int .i64 (gone + (500 : Int)))) (some ⟨b3, off3, none⟩) (n - k) c3 (x1 :: l.drop (k + 1)) := hrow6.kept ((((Kept.refl w6 (w.heap.size + 1)).set 0 _).set 1 _).set 2 _) hR6 (by decide)
          have hL7 := lo_set (lo_set (lo_set hL6 (p := ⟨w.heap.size + 1, 0, none⟩) (Nat.le_succ _) (.slice (some ⟨b3, off3, none⟩) (n - k) c3)) (p := ⟨w.heap.size + 1, 1, none⟩) (Nat.le_succ _) (.int .i64 made)) (p := ⟨w.heap.size + 1, 2, none⟩) (Nat.le_succ _) (.int .i64 (gone + (500 : Int)))
          clear hX6 hR6 hrow6 hL6 lX lR
          generalize ((w6.setCell ⟨w.heap.size + 1, 0, none⟩ (.slice (some ⟨b3, off3, none⟩) (n - k) c3)).setCell ⟨w.heap.size + 1, 1, none⟩ (.int .i64 made)).setCell ⟨w.heap.size + 1, 2, none⟩ (.int .i64 (gone + (500 : Int))) = w7 at hR7 hrow7 hL7 ⊢
          simp only [List.setIfInBounds_toArray, List.set_cons_zero, List.set_cons_succ] at hR7
          obtain ⟨cR, fR⟩ := hR7.facts
          have hpos := HPOS.out
          have hsum := HSUM.out
          have hgg := HN.out.2.2.2.1
          have hmd := HN.out.2.2.2.2.2.1
          exact bodyPost_ret (v := .tuple #[.agg #[.slice (some ⟨b3, off3, none⟩) (n - k) c3, .int .i64 made, .int .i64 (gone + (500 : Int))], .slice B4 500 cB4]) (by simp [results, Tryz.results30, go_sem, cR] <;> (repeat' (first | apply And.intro | (show _ = _; kernel_rfl)))) rfl ⟨(some ⟨b3, off3, none⟩), (n - k), c3, (x1 :: l.drop (k + 1)), gone + (500 : Int), B4, 500, cB4, rfl, by omega, ⟨hrow7, hpos, by omega, by omega, hmd⟩, hL7⟩
        · have hkn' : ¬ (0 : Int) < ((n - k : Nat) : Int) := by omega
          obtain ⟨cX, fX⟩ := hX.facts
          have lX := hX.lt
          go_upto_region 19 with fail
          clear cX fX lX
          have HPOS := HPOS2
          have HSUM := HSUM2
          have hwg : IntKind.i64.wrap (gone + (Jn : Int)) = gone + (Jn : Int) := IntWalk.i64_in _ (by have := HN.out.2.2.2.1; have := HSUM.out; have := sumS_nonneg (l.drop k); have := HN.out.2.2.2.2.2.1; omega)
          obtain ⟨cX, fX⟩ := hX.facts
          have lX := hX.lt
          go_upto_region 20 with fail
          clear cX fX
          have hX6 := hX.set_ 2 (.int .i64 (gone + (Jn : Int)))
          have hR6 := hR.far (p := ⟨gX, 2, none⟩) (show w.heap.size + 1 ≠ gX by omega) (.int .i64 (gone + (Jn : Int)))
          have hrow6 : RowS (wd.setCell ⟨gX, 2, none⟩ (.int .i64 (gone + (Jn : Int)))) D3 (n - k) c3 (l.drop k) := hrow.kept ((Kept.refl wd gX).set 2 _) hX (by decide)
          have hL6 := lo_set hL (p := ⟨gX, 2, none⟩) (show w.heap.size ≤ gX by omega) (.int .i64 (gone + (Jn : Int)))
          clear hX hR hrow hL lX
          generalize wd.setCell ⟨gX, 2, none⟩ (.int .i64 (gone + (Jn : Int))) = w6 at hX6 hR6 hrow6 hL6 ⊢
          simp only [List.setIfInBounds_toArray, List.set_cons_zero, List.set_cons_succ] at hX6
          obtain ⟨cX, fX⟩ := hX6.facts
          obtain ⟨cR, fR⟩ := hR6.facts
          have lX := hX6.lt
          have lR := hR6.lt
          go_wp2_with fail
          clear cX fX cR fR
          have hR7 := ((hR6.set_ 0 (.slice D3 (n - k) c3)).set_ 1 (.int .i64 made)).set_ 2 (.int .i64 (gone + (Jn : Int)))
          have hrow7 : RowS (((w6.setCell ⟨w.heap.size + 1, 0, none⟩ (.slice D3 (n - k) c3)).setCell ⟨w.heap.size + 1, 1, none⟩ (.int .i64 made)).setCell ⟨w.heap.size + 1, 2, none⟩ (.int .i64 (gone + (Jn : Int)))) D3 (n - k) c3 (l.drop k) := hrow6.kept ((((Kept.refl w6 (w.heap.size + 1)).set 0 _).set 1 _).set 2 _) hR6 (by decide)
          have hL7 := lo_set (lo_set (lo_set hL6 (p := ⟨w.heap.size + 1, 0, none⟩) (Nat.le_succ _) (.slice D3 (n - k) c3)) (p := ⟨w.heap.size + 1, 1, none⟩) (Nat.le_succ _) (.int .i64 made)) (p := ⟨w.heap.size + 1, 2, none⟩) (Nat.le_succ _) (.int .i64 (gone + (Jn : Int)))
          clear hX6 hR6 hrow6 hL6 lX lR
          generalize ((w6.setCell ⟨w.heap.size + 1, 0, none⟩ (.slice D3 (n - k) c3)).setCell ⟨w.heap.size + 1, 1, none⟩ (.int .i64 made)).setCell ⟨w.heap.size + 1, 2, none⟩ (.int .i64 (gone + (Jn : Int))) = w7 at hR7 hrow7 hL7 ⊢
          simp only [List.setIfInBounds_toArray, List.set_cons_zero, List.set_cons_succ] at hR7
          obtain ⟨cR, fR⟩ := hR7.facts
          have hpos := HPOS.out
          have hsum := HSUM.out
          have hgg := HN.out.2.2.2.1
          have hmd := HN.out.2.2.2.2.2.1
          exact bodyPost_ret (v := .tuple #[.agg #[.slice D3 (n - k) c3, .int .i64 made, .int .i64 (gone + (Jn : Int))], .slice B Jn cB]) (by simp [results, Tryz.results30, go_sem, cR] <;> (repeat' (first | apply And.intro | (show _ = _; kernel_rfl)))) rfl ⟨D3, (n - k), c3, (l.drop k), gone + (Jn : Int), B, Jn, cB, rfl, by omega, ⟨hrow7, hpos, by omega, by omega, hmd⟩, hL7⟩
      · obtain ⟨cX, fX⟩ := hX.facts
        have lX := hX.lt
        go_upto_region 19 with fail
        clear cX fX lX
        have HPOS := HPOS2
        have HSUM := HSUM2
        have hwg : IntKind.i64.wrap (gone + (Jn : Int)) = gone + (Jn : Int) := IntWalk.i64_in _ (by have := HN.out.2.2.2.1; have := HSUM.out; have := sumS_nonneg (l.drop k); have := HN.out.2.2.2.2.2.1; omega)
        obtain ⟨cX, fX⟩ := hX.facts
        have lX := hX.lt
        go_upto_region 20 with fail
        clear cX fX
        have hX6 := hX.set_ 2 (.int .i64 (gone + (Jn : Int)))
        have hR6 := hR.far (p := ⟨gX, 2, none⟩) (show w.heap.size + 1 ≠ gX by omega) (.int .i64 (gone + (Jn : Int)))
        have hrow6 : RowS (wd.setCell ⟨gX, 2, none⟩ (.int .i64 (gone + (Jn : Int)))) D3 (n - k) c3 (l.drop k) := hrow.kept ((Kept.refl wd gX).set 2 _) hX (by decide)
        have hL6 := lo_set hL (p := ⟨gX, 2, none⟩) (show w.heap.size ≤ gX by omega) (.int .i64 (gone + (Jn : Int)))
        clear hX hR hrow hL lX
        generalize wd.setCell ⟨gX, 2, none⟩ (.int .i64 (gone + (Jn : Int))) = w6 at hX6 hR6 hrow6 hL6 ⊢
        simp only [List.setIfInBounds_toArray, List.set_cons_zero, List.set_cons_succ] at hX6
        obtain ⟨cX, fX⟩ := hX6.facts
        obtain ⟨cR, fR⟩ := hR6.facts
        have lX := hX6.lt
        have lR := hR6.lt
        go_wp2_with fail
        clear cX fX cR fR
        have hR7 := ((hR6.set_ 0 (.slice D3 (n - k) c3)).set_ 1 (.int .i64 made)).set_ 2 (.int .i64 (gone + (Jn : Int)))
        have hrow7 : RowS (((w6.setCell ⟨w.heap.size + 1, 0, none⟩ (.slice D3 (n - k) c3)).setCell ⟨w.heap.size + 1, 1, none⟩ (.int .i64 made)).setCell ⟨w.heap.size + 1, 2, none⟩ (.int .i64 (gone + (Jn : Int)))) D3 (n - k) c3 (l.drop k) := hrow6.kept ((((Kept.refl w6 (w.heap.size + 1)).set 0 _).set 1 _).set 2 _) hR6 (by decide)
        have hL7 := lo_set (lo_set (lo_set hL6 (p := ⟨w.heap.size + 1, 0, none⟩) (Nat.le_succ _) (.slice D3 (n - k) c3)) (p := ⟨w.heap.size + 1, 1, none⟩) (Nat.le_succ _) (.int .i64 made)) (p := ⟨w.heap.size + 1, 2, none⟩) (Nat.le_succ _) (.int .i64 (gone + (Jn : Int)))
        clear hX6 hR6 hrow6 hL6 lX lR
        generalize ((w6.setCell ⟨w.heap.size + 1, 0, none⟩ (.slice D3 (n - k) c3)).setCell ⟨w.heap.size + 1, 1, none⟩ (.int .i64 made)).setCell ⟨w.heap.size + 1, 2, none⟩ (.int .i64 (gone + (Jn : Int))) = w7 at hR7 hrow7 hL7 ⊢
        simp only [List.setIfInBounds_toArray, List.set_cons_zero, List.set_cons_succ] at hR7
        obtain ⟨cR, fR⟩ := hR7.facts
        have hpos := HPOS.out
        have hsum := HSUM.out
        have hgg := HN.out.2.2.2.1
        have hmd := HN.out.2.2.2.2.2.1
        exact bodyPost_ret (v := .tuple #[.agg #[.slice D3 (n - k) c3, .int .i64 made, .int .i64 (gone + (Jn : Int))], .slice B Jn cB]) (by simp [results, Tryz.results30, go_sem, cR] <;> (repeat' (first | apply And.intro | (show _ = _; kernel_rfl)))) rfl ⟨D3, (n - k), c3, (l.drop k), gone + (Jn : Int), B, Jn, cB, rfl, by omega, ⟨hrow7, hpos, by omega, by omega, hmd⟩, hL7⟩
end Go.Proofs.YtdonnbfojcggmaaGreat
