import Derived.Test.YtfpagiojdgdbeaaPush
namespace Go.Proofs.Ytfpagiojdgdbeaa
open Go.RowKit
attribute [local go_sem ↓] Go.wp_at_zero Go.wp_at_succ

/-! Blocks beside a row of the call's own. -/
theorem Blk.at {w : World} {g : Nat} {t : TypeId} {cs : Array Value} (h : Blk w g t cs) {l : List Value} (hl : cs.toList = l) : ∀ j u, l[j]? = some u → w.cell? ((⟨g, 0, none⟩ : Addr).add j) = some u := by
  subst hl
  exact World.news_of_block h
theorem Blk.grown {w w' : World} {g : Nat} {t : TypeId} {cs : Array Value} {row : Option Nat} (h : Blk w g t cs) (hg : w.grownBy w' row) (hne : some g ≠ row) : Blk w' g t cs := (hg.block g h.lt hne).trans h
theorem own_ne {w : World} {base : Nat} {e : TypeId} {size : Nat} {v : Value} {n : Nat} {xs : List Value} (h : w.ownsRow base e size v n xs) {g : Nat} (hg : g < base ∨ w.heap.size ≤ g) : some g ≠ v.ownBlock := by
  intro he
  have := h.lt g he.symm
  omega
theorem ne_next {v : Value} {b g n cap H : Nat} (h : some b ≠ v.ownBlock) (hlt : b < H) (hat : v.ownBlock = some g ∨ g = H) : some b ≠ (Value.slice (some ⟨g, 0, none⟩) n cap).ownBlock := fun he => by
  have hbg : b = g := by simpa [Value.ownBlock] using he
  subst hbg
  rcases hat with hat | hat
  · exact h hat.symm
  · omega
theorem own_far {w : World} {base e size n : Nat} {v : Value} {xs : List Value} (h : w.ownsRow base e size v n xs) {p : Addr} (hp : some p.block ≠ v.ownBlock) (u : Value) : (w.setCell p u).ownsRow base e size v n xs := by
  refine h.kept (row := some p.block) ⟨rfl, rfl, rfl, by simp, fun k _ hk => heap_setCell_other w p k u (fun e => hk (by simp [e]))⟩ ?_
  exact .inr fun e => hp e.symm
set_option maxRecDepth 100000 in
set_option maxHeartbeats 3200000 in
theorem push_ok (lim : Int) (A : Option Addr) (n cap : Nat) (l : List Rq) (id rank cost : Int) (w : World) (hl : Rqs w A n cap l) (hok : okQ lim l) : Calls Try.prog 21 #[.agg #[.int .i64 lim, .slice A n cap], .int .i64 id, .int .i64 rank, .int .i64 cost] w (PushPost w lim l ⟨id, rank, cost, 0⟩) := by
  obtain rfl := hl.1
  have HL := Lib.hid hl
  have hln2 : l.length ≤ 16 := hok.2.1
  have HO := Lib.hid hok
  have H1 : Hid (∀ w0, Rqs w0 A l.length cap l → Calls Try.prog 36 #[.agg #[.int .i64 lim, .slice A l.length cap]] w0 (IntPost w0 0)) := Lib.hid fun w0 h0 => check_ok lim A l.length cap l w0 h0 hok
  have H2 : Hid (∀ w0, Calls Try.prog 37 #[.agg #[.int .i64 id, .int .i64 rank, .int .i64 cost, .int .i64 0]] w0 (BoolPost w0 (decide (Rq.mk id rank cost 0).right))) := Lib.hid fun w0 => right_any ⟨id, rank, cost, 0⟩ w0
  have H3 : Hid (∀ w0, Rqs w0 A l.length cap l → Calls Try.prog 38 #[.agg #[.int .i64 lim, .slice A l.length cap], .int .i64 id] w0 (IntPost w0 (idxP (fun x => x.id == id) l))) := Lib.hid fun w0 h0 => place_any lim A l.length cap l id w0 h0
  have hcs := idx_cases (fun x => x.id == id) l
  generalize idxP (fun x => x.id == id) l = r at H3 hcs
  have hQ := (Blk.new w 58 #[.int .i64 lim, .slice A l.length cap]).alloc (.cells #[.int .i64 0, .slice none 0 0] 58)
  have hR := Blk.new (w.alloc (.cells #[.int .i64 lim, .slice A l.length cap] 58)) 58 #[.int .i64 0, .slice none 0 0]
  have hL := lo_alloc (lo_alloc (lo_refl w) (.cells #[.int .i64 lim, .slice A l.length cap] 58)) (.cells #[.int .i64 0, .slice none 0 0] 58)
  simp only [World.size_alloc] at hR
  clear hl hok
  obtain ⟨cQ, fQ⟩ := hQ.facts
  go_enter Try.func21, Try.ntmps21
  go_wp2_with fail
  refine (own_any lim A l.length cap l _ (agg_lo HL.out hL) (by omega)).mono ?_
  rintro e w1 ⟨base, u, h1, h2, rfl, hown, hb⟩
  obtain ⟨A2, cap2, rfl, _, _⟩ := own_shape hown
  simp only [World.size_alloc] at h1
  clear cQ fQ
  replace hQ := ((hQ.lo hb).alloc (.cells #[.int .i64 lim, .slice A2 l.length cap2] 58)).alloc (.cells #[.int .i64 id, .int .i64 rank, .int .i64 cost, .int .i64 0] 68)
  replace hR := ((hR.lo hb).alloc (.cells #[.int .i64 lim, .slice A2 l.length cap2] 58)).alloc (.cells #[.int .i64 id, .int .i64 rank, .int .i64 cost, .int .i64 0] 68)
  have hG := (Blk.new w1 58 #[.int .i64 lim, .slice A2 l.length cap2]).alloc (.cells #[.int .i64 id, .int .i64 rank, .int .i64 cost, .int .i64 0] 68)
  have hX := Blk.new (w1.alloc (.cells #[.int .i64 lim, .slice A2 l.length cap2] 58)) 68 #[.int .i64 id, .int .i64 rank, .int .i64 cost, .int .i64 0]
  simp only [World.size_alloc] at hX
  replace hL := lo_alloc (lo_alloc (lo_trans hL hb) (.cells #[.int .i64 lim, .slice A2 l.length cap2] 58)) (.cells #[.int .i64 id, .int .i64 rank, .int .i64 cost, .int .i64 0] 68)
  have hnG := own_ne hown (g := w1.heap.size) (Or.inr (Nat.le_refl _))
  replace hown := (hown.alloc (.cells #[.int .i64 lim, .slice A2 l.length cap2] 58)).alloc (.cells #[.int .i64 id, .int .i64 rank, .int .i64 cost, .int .i64 0] 68)
  have hlG : w.heap.size + 1 < w1.heap.size := by omega
  clear hb
  go_upto_region 2 with fail
  generalize w1.heap.size = gG at hG hX hnG hlG h2 ⊢
  generalize (w1.alloc (.cells #[.int .i64 lim, .slice A2 l.length cap2] 58)).alloc (.cells #[.int .i64 id, .int .i64 rank, .int .i64 cost, .int .i64 0] 68) = w2 at hG hX hQ hR hown hL ⊢
  obtain ⟨cQ, fQ⟩ := hQ.facts
  go_wp2_with fail
  refine (H1.out _ (agg_lo HL.out hL)).mono ?_
  rintro e w3 ⟨rfl, hb⟩
  clear cQ fQ
  replace hQ := hQ.lo hb
  replace hR := hR.lo hb
  replace hG := hG.lo hb
  replace hX := hX.lo hb
  replace hown := own_lo hown hb
  replace hL := lo_trans hL hb
  have hsz := hb.size
  clear hsz hb
  clear H1
  obtain ⟨cX, fX⟩ := hX.facts
  by_cases hx : (Rq.mk id rank cost 0).right
  rotate_left
  · rw [decide_eq_false hx] at H2
    have HB : Hid (¬ canPush l ⟨id, rank, cost, 0⟩) := Lib.hid fun h => hx h.1
    clear hx hcs
    go_wp2_with fail
    refine (H2.out _).mono ?_
    rintro e w4 ⟨rfl, hb⟩
    clear cX fX
    replace hQ := hQ.lo hb
    replace hR := hR.lo hb
    replace hG := hG.lo hb
    replace hX := hX.lo hb
    replace hown := own_lo hown hb
    replace hL := lo_trans hL hb
    clear hb
    have hpc := hQ
    clear hpc
    obtain ⟨cG, fG⟩ := hG.facts
    obtain ⟨cR, fR⟩ := hR.facts
    have lR := hR.lt
    go_wp2_with fail
    refine bodyPost_ret (v := .tuple #[.agg #[.int .i64 lim, .slice A2 l.length cap2], .int .i64 8]) (by simp [results, Try.results21, go_sem, cR] <;> rfl) rfl ⟨.inl ⟨HB.out, _, 8, rfl, by decide, A2, _, cap2, rfl⟩, ?_⟩
    have hl2 := hL
    repeat' (first | with_reducible exact hl2 | with_reducible apply lo_set | (dsimp only; omega) | simp)
  rw [decide_eq_true hx] at H2
  have HX := Lib.hid hx
  clear hx
  go_wp2_with fail
  refine (H2.out _).mono ?_
  rintro e w4 ⟨rfl, hb⟩
  clear cX fX H2
  replace hQ := hQ.lo hb
  replace hR := hR.lo hb
  replace hG := hG.lo hb
  replace hX := hX.lo hb
  replace hown := own_lo hown hb
  replace hL := lo_trans hL hb
  have hsz := hb.size
  clear hsz hb
  obtain ⟨cQ, fQ⟩ := hQ.facts
  rcases hcs with ⟨rfl, hno⟩ | ⟨k, hk, rfl, hpk, _⟩
  rotate_left
  · have HB : Hid (¬ canPush l ⟨id, rank, cost, 0⟩) := Lib.hid fun h => h.2.1 l[k] (List.getElem_mem _) (by simpa using hpk)
    clear hpk
    go_wp2_with fail
    refine (H3.out _ (agg_lo HL.out hL)).mono ?_
    rintro e w5 ⟨rfl, hb⟩
    clear cQ fQ
    replace hQ := hQ.lo hb
    replace hR := hR.lo hb
    replace hG := hG.lo hb
    replace hX := hX.lo hb
    replace hown := own_lo hown hb
    replace hL := lo_trans hL hb
    clear hb
    have hpc := hQ
    clear hpc
    obtain ⟨cG, fG⟩ := hG.facts
    obtain ⟨cR, fR⟩ := hR.facts
    have lR := hR.lt
    go_wp2_with fail
    refine bodyPost_ret (v := .tuple #[.agg #[.int .i64 lim, .slice A2 l.length cap2], .int .i64 12]) (by simp [results, Try.results21, go_sem, cR] <;> rfl) rfl ⟨.inl ⟨HB.out, _, 12, rfl, by decide, A2, _, cap2, rfl⟩, ?_⟩
    have hl2 := hL
    repeat' (first | with_reducible exact hl2 | with_reducible apply lo_set | (dsimp only; omega) | simp)
  have HN := Lib.hid hno
  clear hno
  go_wp2_with fail
  refine (H3.out _ (agg_lo HL.out hL)).mono ?_
  rintro e w5 ⟨rfl, hb⟩
  clear cQ fQ
  replace hQ := hQ.lo hb
  replace hR := hR.lo hb
  replace hG := hG.lo hb
  replace hX := hX.lo hb
  replace hown := own_lo hown hb
  replace hL := lo_trans hL hb
  have hsz := hb.size
  clear hsz hb
  clear H3
  obtain ⟨cQ, fQ⟩ := hQ.facts
  by_cases hbig : 16 ≤ l.length
  · have HB : Hid (¬ canPush l ⟨id, rank, cost, 0⟩) := Lib.hid fun h => by have := h.2.2; omega
    have hpc := hQ
    clear hpc
    obtain ⟨cG, fG⟩ := hG.facts
    obtain ⟨cR, fR⟩ := hR.facts
    have lR := hR.lt
    go_wp2_with fail
    refine bodyPost_ret (v := .tuple #[.agg #[.int .i64 lim, .slice A2 l.length cap2], .int .i64 7]) (by simp [results, Try.results21, go_sem, cR] <;> rfl) rfl ⟨.inl ⟨HB.out, _, 7, rfl, by decide, A2, _, cap2, rfl⟩, ?_⟩
    have hl2 := hL
    repeat' (first | with_reducible exact hl2 | with_reducible apply lo_set | (dsimp only; omega) | simp)
  have HC : Hid (canPush l ⟨id, rank, cost, 0⟩) := Lib.hid ⟨HX.out, fun y hy => by have := HN.out y hy; simpa using this, by omega⟩
  go_upto_region 11 with fail
  clear cQ fQ
  have hXn := Blk.new w5 68 #[.int .i64 id, .int .i64 rank, .int .i64 cost, .int .i64 0]
  obtain ⟨i0, hi, hz0, hz1, hz2⟩ := info_parts info68
  obtain ⟨cX, fX⟩ := hX.facts
  obtain ⟨cG0, fG0⟩ := hG.facts
  have hlx := hX.lt
  have hlg := hG.lt
  have hlr := hR.lt
  have hnR := own_ne hown (g := w.heap.size + 1) (Or.inl (by omega))
  replace hX := hX.alloc (.cells #[.int .i64 id, .int .i64 rank, .int .i64 cost, .int .i64 0] 68)
  replace hG := hG.alloc (.cells #[.int .i64 id, .int .i64 rank, .int .i64 cost, .int .i64 0] 68)
  replace hR := hR.alloc (.cells #[.int .i64 id, .int .i64 rank, .int .i64 cost, .int .i64 0] 68)
  replace hown := hown.alloc (.cells #[.int .i64 id, .int .i64 rank, .int .i64 cost, .int .i64 0] 68)
  replace hL := lo_alloc hL (.cells #[.int .i64 id, .int .i64 rank, .int .i64 cost, .int .i64 0] 68)
  have h2' : base ≤ (w5.alloc (.cells #[.int .i64 id, .int .i64 rank, .int .i64 cost, .int .i64 0] 68)).heap.size := by simp; omega
  go_wp2_with (at_builtin; refine wpList_append_lies _ rfl (.tmp 43) (.tmp 45) 56 rfl base 68 i0 _ 4 32 Try.underlying56 hi hz0 hz1 hz2 rfl (by decide) _ _ _ rfl hown ⟨w5.heap.size, 0, none⟩ 1 1 (#[.int .i64 id, .int .i64 rank, .int .i64 cost, .int .i64 0] : Array Value).toList rfl rfl (hXn.at rfl) (by intro u hu; simp at hu; rcases hu with rfl | rfl | rfl | rfl <;> rfl) (by decide) (by unfold maxLen; omega) (by omega) h2' _ rfl ?_; intro g3 c3 wn hwn hgr hat hlt3; have hGn := hG.grown hgr hnG; have hRn := hR.grown hgr hnR; have hLn := Lib.hid (hL.grown hgr hL.size (fun k hk => by have := (hown.lt k hk).1; omega)); have kG := Lib.hid (ne_next (n := l.length + 1) (cap := c3) hnG (by simp; omega) hat); have kR := Lib.hid (ne_next (n := l.length + 1) (cap := c3) hnR (by simp; omega) hat); have HW := Lib.hid hwn; clear hwn hgr hat cX fX cG0 fG0 hX hG hR hL hown; obtain ⟨cG, fG⟩ := hGn.facts; obtain ⟨cR, fR⟩ := hRn.facts; have lG := hGn.lt; have lR := hRn.lt)
  refine bodyPost_ret (v := .tuple #[.agg #[.int .i64 lim, .slice (some ⟨g3, 0, none⟩) (l.length + 1) c3], .int .i64 0]) (by simp [results, Try.results21, go_sem, cR] <;> rfl) rfl ⟨.inr ⟨HC.out, base, _, by omega, ?_, rfl, ?_⟩, ?_⟩
  · simp; omega
  · rw [List.length_append, List.flatMap_append]
    refine own_far (own_far (own_far HW.out ?_ _) ?_ _) ?_ _
    all_goals first | exact kG.out | exact kR.out
  · have hl2 := hLn.out
    repeat' (first | with_reducible exact hl2 | with_reducible apply lo_set | (dsimp only; omega) | simp)
end Go.Proofs.Ytfpagiojdgdbeaa
