import Derived.Test.YtdonnbfojcggmaaGreatFrame
namespace Go.Proofs.YtdonnbfojcggmaaGreat
open Go.RowKit
attribute [local go_sem ↓] Go.wp_at_zero Go.wp_at_succ

/-- append of elements in a new block onto a row of the call's own: what else is there is kept. -/
theorem wp_append_box2 {P : Program} {w0 : World} {ops : Array Oper} {rest : List Oper} {o : Oper} {a : Act} {Q : Exit → Act → World → Prop} (hgd : o.guard = none) (s x : Operand) (t : TypeId)
    (ho : o.op = .call { callee := .builtin .append, args := #[s, x], argTypes := #[t, t] })
    (base : Nat) (e : TypeId) (i : TypeInfo) (z : Value) (size bytes : Nat) (ht : P.underlying t = some (.slice e)) (hi : P.info? e = some i) (hz : i.zero = some z)
    (hsize : i.size = size) (hby : i.bytes = bytes) (hzs : z.cells.size = size) (hsz : 0 < size)
    (v : Value) (n : Nat) (xs : List Value) (hs : a.eval s = v) (hown : w0.ownsRow base e size v n xs)
    (m : Nat) (cs : Array Value) (hx : a.eval x = .slice (some ⟨w0.heap.size, 0, none⟩) m m) (hcs : cs.size = m * size) (h1 : ∀ u ∈ cs.toList, u.oneCell' = true)
    (hn : n + m ≤ 1000000000) (hb : bytes ≤ 1000) (hbase : base ≤ w0.heap.size)
    (h : ∀ v' w', w'.ownsRow base e size v' (n + m) (xs ++ cs.toList) → w0.grownBy w' v.ownBlock → Below base w0 w' → wpList P ops Q rest (a.put o.dst v') w') : wpList P ops Q (o :: rest) a (w0.alloc (.cells cs e)) := by
  refine wpList_append_own (w0.alloc (.cells cs e)) hgd s x t ho base e i z size bytes ht hi hz hsize hby hzs hsz v n xs hs (hown.alloc _) ⟨w0.heap.size, 0, none⟩ m m cs.toList hx (by simpa using hcs) ?_ h1 (by unfold maxLen; omega) ?_ (by simp; omega) ?_
  · intro j u hu
    rw [add_none, World.cell?_alloc_at _ _ _ _ rfl, Nat.zero_add]
    simpa using hu
  · have := Nat.mul_le_mul hn hb
    omega
  · intro v' w' hown' hg _
    refine h v' w' hown' ⟨hg.os, hg.tape, hg.output, Nat.le_trans (by simp) hg.size, fun k hk hne => (hg.block k (by simp; omega) hne).trans (Below.heap_alloc _ _ k hk)⟩ (((Below.refl base w0).alloc hbase _).grown hg (by simp; omega) (fun k hk => (hown.lt k hk).1))
/-- A queue and no fault. -/
def PushPost (w : World) (made gone : Int) (e : Ending) (w' : World) : Prop :=
  ∃ A n cap l, e = .returned (.tuple #[.agg #[.slice A n cap, .int .i64 made, .int .i64 gone], .int .i64 0]) ∧ OutOk w' A n cap l made gone ∧ Below w.heap.size w w'
theorem bytes_get {w : World} {A : Option Addr} {n cap : Nat} {bs : List Int} (h : Bytes w A n cap bs) (hn : 0 < n) : ∃ b off, A = some ⟨b, off, none⟩ ∧ ∀ i, i < n → w.cell? ⟨b, off + i, none⟩ = some (.int .u8 (bs.getD i 0)) := by
  obtain ⟨b, off, hA, _, _⟩ := h.2.2.2.2.1 0 (bs[0]'(by have := h.1; omega)) (List.getElem?_eq_getElem _)
  refine ⟨b, off, hA, fun i hi => ?_⟩
  have hl : i < bs.length := by have := h.1; omega
  obtain ⟨b', off', hA', _, hc⟩ := h.2.2.2.2.1 i bs[i] (List.getElem?_eq_getElem hl)
  rw [hA] at hA'
  injection hA' with hA'
  injection hA' with e1 e2 _
  subst e1 e2
  have := hc 0 _ rfl
  simp only [Nat.mul_one, Nat.add_zero] at this
  rw [this]
  simp [List.getD, hl]
set_option maxRecDepth 100000 in
set_option maxHeartbeats 1600000 in
theorem push_any (A : Option Addr) (n cap : Nat) (l : List ByteArray) (made gone : Int) (B : Option Addr) (m c : Nat) (bs : List Int) (w : World) (h : OutOk w A n cap l made gone) (hB : Bytes w B m c bs) (hm : 0 < m ∧ m ≤ 100) (hmm : made + m ≤ 60000) :
    Calls Tryz.prog 40 #[.agg #[.slice A n cap, .int .i64 made, .int .i64 gone], .slice B m c] w (PushPost w (made + m) gone) := by
  have HO := Lib.hid h
  obtain ⟨hln, hn6, hs0, hs1, hmd, hgd⟩ := h.nums
  have H1 : Hid (∀ w0, OutOk w0 A n cap l made gone → Calls Tryz.prog 63 #[.agg #[.slice A n cap, .int .i64 made, .int .i64 gone]] w0 (OOwnPost w0 l made gone)) := Lib.hid fun w0 h0 => oown_any A n cap l made gone w0 h0
  have H2 : Hid (∀ w0, OutOk w0 A n cap l made gone → Calls Tryz.prog 64 #[.agg #[.slice A n cap, .int .i64 made, .int .i64 gone]] w0 (IntPost w0 0)) := Lib.hid fun w0 h0 => ocheck_any A n cap l made gone w0 h0
  have H3 : Hid (∀ w0, OutOk w0 A n cap l made gone → Calls Tryz.prog 77 #[.agg #[.slice A n cap, .int .i64 made, .int .i64 gone]] w0 (IntPost w0 (65536 - sumS l))) := Lib.hid fun w0 h0 => oroom_any A n cap l made gone w0 h0
  have hsum := h.sum
  have hg0 := h.gone0
  have hx1 : ¬ 65536 - sumS l < (m : Int) := by omega
  have hx2 : ¬ 1099511627776 - (m : Int) < made := by omega
  have hw1 : IntKind.i64.wrap (1099511627776 - (m : Int)) = 1099511627776 - (m : Int) := IntWalk.i64_in _ (by omega)
  have hw2 : IntKind.i64.wrap (made + (m : Int)) = made + (m : Int) := IntWalk.i64_in _ (by omega)
  have hm0 : (0 : Int) < (m : Int) := by omega
  obtain ⟨i0, hi, hz0, hz1, hz2⟩ := info_parts info9
  have HBy := Lib.hid hB
  have HN : Hid (l.length = n ∧ n ≤ 60000 ∧ 0 < m ∧ made + m ≤ 60000 ∧ made - gone = sumS l ∧ 0 ≤ gone ∧ ∀ s ∈ l, 0 < s.size) := Lib.hid ⟨hln, hn6, hm.1, hmm, hsum, hg0, h.pos⟩
  generalize sumS l = sm at H3 hx1
  clear h hB hm hmm hsum hg0 hs0 hs1 hmd hgd hn6
  have hA := Blk.new w 45 #[.slice A n cap, .int .i64 made, .int .i64 gone]
  have hL := lo_alloc (lo_refl w) (.cells #[.slice A n cap, .int .i64 made, .int .i64 gone] 45)
  have hR := Blk.new (w.alloc (.cells #[.slice A n cap, .int .i64 made, .int .i64 gone] 45)) 45 #[.slice none 0 0, .int .i64 0, .int .i64 0]
  replace hA := hA.alloc (.cells #[.slice none 0 0, .int .i64 0, .int .i64 0] 45)
  replace hL := lo_alloc hL (.cells #[.slice none 0 0, .int .i64 0, .int .i64 0] 45)
  simp only [World.size_alloc] at hR
  obtain ⟨cA, fA⟩ := hA.facts
  go_enter Tryz.func40, Tryz.ntmps40
  go_wp2_with fail
  refine (H1.out _ (HO.out.lo hL)).mono ?_
  rintro e w1 ⟨v, rfl, hown, hb⟩
  clear cA fA
  replace hA := hA.lo hb
  replace hR := hR.lo hb
  replace hL := lo_trans hL hb
  simp only [World.size_alloc] at hown
  clear hb H1
  obtain ⟨A2, cap2, rfl, _, _⟩ := own_shape hown
  rw [hln] at hown
  rw [hln]
  obtain ⟨cA, fA⟩ := hA.facts
  have hX := Blk.new w1 45 #[.slice A2 n cap2, .int .i64 made, .int .i64 gone]
  have hgx : w.heap.size + 2 ≤ w1.heap.size := by have := hR.lt; omega
  go_upto_region 2 with fail
  clear cA fA
  replace hA := hA.alloc (.cells #[.slice A2 n cap2, .int .i64 made, .int .i64 gone] 45)
  replace hR := hR.alloc (.cells #[.slice A2 n cap2, .int .i64 made, .int .i64 gone] 45)
  replace hown := hown.alloc (.cells #[.slice A2 n cap2, .int .i64 made, .int .i64 gone] 45)
  replace hL := lo_alloc hL (.cells #[.slice A2 n cap2, .int .i64 made, .int .i64 gone] 45)
  generalize hgX : w1.heap.size = gX at hX hgx ⊢
  generalize w1.alloc (.cells #[.slice A2 n cap2, .int .i64 made, .int .i64 gone] 45) = w2 at hX hA hR hown hL ⊢
  clear hgX
  obtain ⟨cA, fA⟩ := hA.facts
  obtain ⟨cR, fR⟩ := hR.facts
  obtain ⟨cX, fX⟩ := hX.facts
  go_wp2_with fail
  refine (H2.out _ (HO.out.lo hL)).mono ?_
  rintro e w1 ⟨rfl, hb⟩
  clear cA fA
  clear cR fR
  clear cX fX
  replace hA := hA.lo hb
  replace hR := hR.lo hb
  replace hX := hX.lo hb
  replace hL := lo_trans hL hb
  replace hown := own_lo hown hb
  clear hb
  obtain ⟨cA, fA⟩ := hA.facts
  obtain ⟨cR, fR⟩ := hR.facts
  obtain ⟨cX, fX⟩ := hX.facts
  go_wp2_with fail
  refine (H3.out _ (HO.out.lo hL)).mono ?_
  rintro e w3 ⟨rfl, hb⟩
  clear cA fA
  clear cR fR
  clear cX fX
  replace hA := hA.lo hb
  replace hR := hR.lo hb
  replace hX := hX.lo hb
  replace hL := lo_trans hL hb
  replace hown := own_lo hown hb
  clear hb
  obtain ⟨b, off, rfl, hcv⟩ := bytes_get (agg_lo HBy.out hL) HN.out.2.2.1
  have hconv := run_convert_bytes_arg (P := Tryz.prog) w3 53 5 Tryz.underlying53 Tryz.underlying5 b off m c bs HBy.out.1 hcv 9 Tryz.underlying9
  have hss := strOfNums_size bs
  generalize strOfNums bs = s at hconv hss
  have HSS := Lib.hid hss
  have hN := Blk.new w3 9 #[.string s]
  clear hcv hss
  obtain ⟨cA, fA⟩ := hA.facts
  obtain ⟨cX, fX⟩ := hX.facts
  have lX := hX.lt
  go_upto_region 9 with (at_builtin; refine wp_append_box2 rfl _ _ 43 rfl (w.heap.size + 2) 9 i0 _ 1 16 Tryz.underlying43 hi hz0 hz1 hz2 rfl (by decide) _ n _ rfl hown 1 #[.string s] rfl rfl (by intro u hu; simp at hu; subst hu; rfl) (by have := HN.out.2.1; omega) (by decide) (by omega) ?_; intro v4 w4 hown4 hgr hbel; obtain ⟨A4, cap4, rfl, _, _⟩ := own_shape hown4; have hX4 := hX.grown hgr (blk_ne_own hown hX (by decide)); obtain ⟨cX4, fX4⟩ := hX4.facts; have lX4 := hX4.lt)
  clear cA fA cX fX cX4 fX4 lX lX4 hconv
  have hX5 := hX4.set_ 0 (.slice A4 (n + 1) cap4)
  have hR5 := (hR.below hbel (by omega)).far (p := ⟨gX, 0, none⟩) (show w.heap.size + 1 ≠ gX by omega) (.slice A4 (n + 1) cap4)
  have hown5 := own_far hown4 (p := ⟨gX, 0, none⟩) (blk_ne_own hown4 hX4 (by decide)) (.slice A4 (n + 1) cap4)
  have hL5 := lo_set (hL.trans (hbel.mono (by omega))) (p := ⟨gX, 0, none⟩) (show w.heap.size ≤ gX by omega) (.slice A4 (n + 1) cap4)
  clear hX hR hA hN hown hown4 hL hbel hgr hX4
  generalize w4.setCell ⟨gX, 0, none⟩ (.slice A4 (n + 1) cap4) = w5 at hX5 hR5 hown5 hL5 ⊢
  simp only [List.setIfInBounds_toArray, List.set_cons_zero] at hX5
  obtain ⟨cX, fX⟩ := hX5.facts
  have lX := hX5.lt
  go_upto_region 10 with fail
  clear cX fX
  have hX6 := hX5.set_ 1 (.int .i64 (made + m))
  have hR6 := hR5.far (p := ⟨gX, 1, none⟩) (show w.heap.size + 1 ≠ gX by omega) (.int .i64 (made + m))
  have hown6 := own_far hown5 (p := ⟨gX, 1, none⟩) (blk_ne_own hown5 hX5 (by decide)) (.int .i64 (made + m))
  have hL6 := lo_set hL5 (p := ⟨gX, 1, none⟩) (show w.heap.size ≤ gX by omega) (.int .i64 (made + m))
  clear hX5 hR5 hown5 hL5 lX
  generalize w5.setCell ⟨gX, 1, none⟩ (.int .i64 (made + m)) = w6 at hX6 hR6 hown6 hL6 ⊢
  simp only [List.setIfInBounds_toArray, List.set_cons_zero, List.set_cons_succ] at hX6
  obtain ⟨cX, fX⟩ := hX6.facts
  obtain ⟨cR, fR⟩ := hR6.facts
  have lX := hX6.lt
  have lR := hR6.lt
  go_wp2_with fail
  clear cX fX cR fR
  have hR7 := ((hR6.set_ 0 (.slice A4 (n + 1) cap4)).set_ 1 (.int .i64 (made + m))).set_ 2 (.int .i64 gone)
  have hown7 := own_low (own_low (own_low hown6 (p := ⟨w.heap.size + 1, 0, none⟩) (by simp) (.slice A4 (n + 1) cap4)) (p := ⟨w.heap.size + 1, 1, none⟩) (by simp) (.int .i64 (made + m))) (p := ⟨w.heap.size + 1, 2, none⟩) (by simp) (.int .i64 gone)
  have hL7 := lo_set (lo_set (lo_set hL6 (p := ⟨w.heap.size + 1, 0, none⟩) (Nat.le_succ _) (.slice A4 (n + 1) cap4)) (p := ⟨w.heap.size + 1, 1, none⟩) (Nat.le_succ _) (.int .i64 (made + m))) (p := ⟨w.heap.size + 1, 2, none⟩) (Nat.le_succ _) (.int .i64 gone)
  clear hX6 hR6 hown6 hL6 lX lR
  generalize ((w6.setCell ⟨w.heap.size + 1, 0, none⟩ (.slice A4 (n + 1) cap4)).setCell ⟨w.heap.size + 1, 1, none⟩ (.int .i64 (made + m))).setCell ⟨w.heap.size + 1, 2, none⟩ (.int .i64 gone) = w7 at hR7 hown7 hL7 ⊢
  simp only [List.setIfInBounds_toArray, List.set_cons_zero, List.set_cons_succ] at hR7
  obtain ⟨cR, fR⟩ := hR7.facts
  have hrow : RowS w7 A4 (n + 1) cap4 (l ++ [s]) := row_own cellsS_len (by decide) (by simpa [cellsS] using hown7)
  obtain ⟨q1, q2, q3, q4, q5, q6, q7⟩ := HN.out
  have hs : s.size = m := by rw [HSS.out, HBy.out.1]
  refine bodyPost_ret (v := .tuple #[.agg #[.slice A4 (n + 1) cap4, .int .i64 (made + m), .int .i64 gone], .int .i64 0]) (by simp [results, Tryz.results40, go_sem, cR] <;> (repeat' (first | apply And.intro | (show _ = _; kernel_rfl)))) rfl ⟨A4, n + 1, cap4, l ++ [s], rfl, ⟨hrow, ?_, ?_, q6, q4⟩, hL7⟩
  · intro x hx
    rcases List.mem_append.1 hx with h | h
    · exact q7 x h
    · simp at h
      subst h
      omega
  · rw [sumS_append]
    simp only [sumS]
    omega
end Go.Proofs.YtdonnbfojcggmaaGreat
