import Derived.Test.YtokedcdjclbliaaBoundPlain
import Derived.Laws.OwnMore
import Derived.Deep.AppendLies
import Derived.Deep.DrawnRows
import Derived.Deep.DeepCutAuto
import Derived.Deep.QuietTactic
import Derived.BigQuiet
namespace Go.Proofs.Ytokedcdjclbliaa
open Go.RowKit

/-- append of a box made just before; blocks other than the row's own stay. -/
theorem wp_append_boxg {P : Program} {w0 : World} {ops : Array Oper} {rest : List Oper} {o : Oper} {a : Act} {Q : Exit → Act → World → Prop} (hgd : o.guard = none) (s x : Operand) (t : TypeId)
    (ho : o.op = .call { callee := .builtin .append, args := #[s, x], argTypes := #[t, t] })
    (base : Nat) (e : TypeId) (i : TypeInfo) (z : Value) (size bytes : Nat) (ht : P.underlying t = some (.slice e)) (hi : P.info? e = some i) (hz : i.zero = some z)
    (hsize : i.size = size) (hby : i.bytes = bytes) (hzs : z.cells.size = size) (hsz : 0 < size)
    (v : Value) (n : Nat) (xs : List Value) (hs : a.eval s = v) (hown : w0.ownsRow base e size v n xs)
    (m : Nat) (cs : Array Value) (hx : a.eval x = .slice (some ⟨w0.heap.size, 0, none⟩) m m) (hcs : cs.size = m * size) (h1 : ∀ u ∈ cs.toList, u.oneCell' = true)
    (hn : n + m ≤ 1000000000) (hb : bytes ≤ 1000) (hbase : base ≤ w0.heap.size)
    (h : ∀ v' w', w'.ownsRow base e size v' (n + m) (xs ++ cs.toList) → Below base w0 w' → (∀ g t' cs', some g ≠ v.ownBlock → Blk w0 g t' cs' → Blk w' g t' cs') → wpList P ops Q rest (a.put o.dst v') w') : wpList P ops Q (o :: rest) a (w0.alloc (.cells cs e)) := by
  refine wpList_append_own (w0.alloc (.cells cs e)) hgd s x t ho base e i z size bytes ht hi hz hsize hby hzs hsz v n xs hs (hown.alloc _) ⟨w0.heap.size, 0, none⟩ m m cs.toList hx (by simpa using hcs) ?_ h1 (by unfold maxLen; omega) ?_ (by simp; omega) ?_
  · intro j u hu
    rw [add_none, World.cell?_alloc_at _ _ _ _ rfl, Nat.zero_add]
    simpa using hu
  · have := Nat.mul_le_mul hn hb
    omega
  · intro v' w' hown' hg _
    refine h v' w' hown' (((Below.refl base w0).alloc hbase _).grown hg (by simp; omega) (fun k hk => (hown.lt k hk).1)) fun g t' cs' hne hB => ?_
    exact (hg.block g (hB.alloc _).lt hne).trans (hB.alloc _)
theorem int_below {k : IntKind} {w w' : World} {a : Option Addr} {len cap : Nat} {xs : List Int} (h : IntRow k w a len cap xs) (hb : Below w.heap.size w w') : IntRow k w' a len cap xs := by
  obtain ⟨h1, h2, h3, h4, h5, h6⟩ := h
  refine ⟨h1, h2, h3, h4, fun i x hx => ?_, h6⟩
  obtain ⟨b, off, e, hlt, hc⟩ := h5 i x hx
  exact ⟨b, off, e, Nat.lt_of_lt_of_le hlt hb.size, (hb.cell (p := ⟨b, off + i, none⟩) hlt).trans hc⟩
theorem own_lo {w w' : World} {base : Nat} {e : TypeId} {size n : Nat} {v : Value} {xs : List Value} (h : w.ownsRow base e size v n xs) (hb : Below w.heap.size w w') : w'.ownsRow base e size v n xs := by
  obtain ⟨h1, h2⟩ := h
  refine ⟨h1, ?_⟩
  rcases h2 with h2 | ⟨g, cap, cur, hv, hg, hh, r⟩
  · exact .inl h2
  · refine .inr ⟨g, cap, cur, hv, hg, ?_, r⟩
    have hlt : g < w.heap.size := by
      rcases Nat.lt_or_ge g w.heap.size with hlt | hge
      · exact hlt
      · rw [Array.getElem?_eq_none hge] at hh; cases hh
    rw [hb.block g hlt]
    exact hh
theorem own_shape {w : World} {base : Nat} {e : TypeId} {size n : Nat} {v : Value} {xs : List Value} (h : w.ownsRow base e size v n xs) : ∃ A cap, v = .slice A n cap ∧ n ≤ cap ∧ (A = none → n = 0) := by
  rcases h.2 with ⟨rfl, rfl⟩ | ⟨g, cap, cur, rfl, _, _, hc, _⟩
  · exact ⟨_, _, rfl, Nat.le_refl _, fun _ => rfl⟩
  · exact ⟨_, _, rfl, hc, fun h => by cases h⟩
theorem info3 : (Try.prog.info? 3).map (fun i => (i.zero, i.size, i.bytes)) = some (some (.int .i64 0), 1, 8) := by kernel_rfl
theorem own_ne {w : World} {base : Nat} {e : TypeId} {size : Nat} {v : Value} {n : Nat} {xs : List Value} (h : w.ownsRow base e size v n xs) {g : Nat} (hg : g < base ∨ w.heap.size ≤ g) : some g ≠ v.ownBlock := by
  intro he
  have := h.lt g he.symm
  omega
def I64 (x : Int) : Value := .int .i64 x
set_option maxRecDepth 100000 in
set_option maxHeartbeats 3200000 in
theorem bound_walk (b : Bk) (a1 : Option Addr) (len cap : Nat) (l : List Int) (w : World) (hrow : IntRow .u16 w a1 len cap l) :
    Calls Try.prog 4 #[.agg #[.int .i64 b.burst, .int .i64 b.rate, .int .i64 b.per, .int .i64 b.level, .int .i64 b.now], .slice a1 len cap] w (AwakePost w) := by
  have HR := Lib.hid hrow
  have hll := hrow.1
  have hlen : len ≤ maxLen := Nat.le_trans hrow.2.1 hrow.2.2.1
  clear hrow
  obtain ⟨i0, hi, hz0, hz1, hz2⟩ := info_parts info3
  have hA0 := (Blk.new w 27 #[.int .i64 b.burst, .int .i64 b.rate, .int .i64 b.per, .int .i64 b.level, .int .i64 b.now]).alloc (.cells #[.int .i64 b.burst, .int .i64 b.rate, .int .i64 b.per, .int .i64 b.level, .int .i64 b.now] 23)
  have hB0 := Blk.new (w.alloc (.cells #[.int .i64 b.burst, .int .i64 b.rate, .int .i64 b.per, .int .i64 b.level, .int .i64 b.now] 27)) 23 #[.int .i64 b.burst, .int .i64 b.rate, .int .i64 b.per, .int .i64 b.level, .int .i64 b.now]
  simp only [World.size_alloc] at hB0
  have hL0 := lo_alloc (lo_alloc (lo_refl w) (.cells #[.int .i64 b.burst, .int .i64 b.rate, .int .i64 b.per, .int .i64 b.level, .int .i64 b.now] 27)) (.cells #[.int .i64 b.burst, .int .i64 b.rate, .int .i64 b.per, .int .i64 b.level, .int .i64 b.now] 23)
  have HA0 := Lib.hid hA0
  have HB0 := Lib.hid hB0
  have HL0 := Lib.hid hL0
  clear hA0 hB0 hL0
  by_cases hbig : len > 60
  · go_enter Try.func4, Try.ntmps4
    go_wp2_with fail
    refine (awake_any _).mono ?_
    rintro e w2 ⟨rfl, hb2⟩
    have hM := Lib.hid (lo_trans HL0.out hb2)
    go_wp2_with fail
    go_ret
    exact ⟨rfl, hM.out⟩
  · have hC := check_any b
    rcases err_cases b with ⟨hok, he⟩ | ⟨hok, he⟩
    · rw [he] at hC
      have HC := Lib.hid hC
      clear hC he
      by_cases hn : 1073741824 < b.now
      · clear hok
        go_enter Try.func4, Try.ntmps4
        go_wp2_with fail
        refine (HC.out _).mono ?_
        rintro e w1 ⟨rfl, hb1⟩
        obtain ⟨cB, fB⟩ := (HB0.out.lo hb1).facts
        have hL := Lib.hid (lo_trans HL0.out hb1)
        clear hb1
        go_wp2_with fail
        refine (awake_any _).mono ?_
        rintro e w2 ⟨rfl, hb2⟩
        go_wp2_with fail
        go_ret
        exact ⟨rfl, lo_trans hL.out hb2⟩
      · have hn0 := hok.2.2.1
        have HOK := Lib.hid hok
        clear hok
        go_enter Try.func4, Try.ntmps4
        go_wp2_with fail
        refine (HC.out _).mono ?_
        rintro e w1 ⟨rfl, hb1⟩
        have hB := HB0.out.lo hb1
        have hA := HA0.out.lo hb1
        obtain ⟨cB, fB⟩ := hB.facts
        have hL := Lib.hid (lo_trans HL0.out hb1)
        have hlt1 := hB.lt
        clear hb1 HA0 HB0 HL0
        go_wp2_with fail
        clear cB fB
        go_loopw [6, 7, 8] (fun v y z wr => ∃ (k : Nat) (c : Bk) (xs : List Int), k ≤ len ∧ z = .int .i64 k ∧ y = .int .i64 c.now ∧ c.now ≤ b.now + (k : Int) * 65535 ∧ Hid (Inv b c xs) ∧ xs.length ≤ k ∧ wr.ownsRow (w.heap.size + 2) 3 1 v xs.length (xs.map I64) ∧ Blk wr w.heap.size 27 #[.int .i64 b.burst, .int .i64 b.rate, .int .i64 b.per, .int .i64 b.level, .int .i64 b.now] ∧ Blk wr (w.heap.size + 1) 23 #[.int .i64 c.burst, .int .i64 c.rate, .int .i64 c.per, .int .i64 c.level, .int .i64 c.now] ∧ w.heap.size + 2 ≤ wr.heap.size ∧ Below w.heap.size w wr) (fun _ _ z _ => len - (intOf z).toNat)
        case atStart => exact ⟨0, b, [], by omega, rfl, rfl, by omega, Lib.hid (inv_start HOK.out), by simp, World.ownsRow_nil _ _ _ _, hA, hB, by omega, hL.out⟩
        case round =>
          obtain ⟨k, c, xs, hk, rfl, rfl, hnow, hinv, hxl, hown, hbA, hbX, hsz, hbel⟩ := hrel
          clear hA hB hL
          by_cases hkl : k < len
          · obtain ⟨bb, off, rfl, hlt, hc⟩ := (int_below HR.out hbel).2.2.2.2.1 k l[k] (List.getElem?_eq_getElem (by omega))
            have hwf := HR.out.2.2.2.2.2 l[k] (List.getElem_mem _)
            generalize l[k] = g at hc hwf
            simp [Lit.wf, IntKind.min, IntKind.max, IntKind.signed, IntKind.bits] at hwf
            have hg1 : 0 ≤ g := by omega
            have hg2 : g ≤ 65535 := by omega
            have hkl' : (k : Int) < (len : Int) := by omega
            have hc0 := hinv.out.ok.2.2.1
            have htk := inv_take hinv.out (t := c.now + g) (by omega) (by omega)
            have HT := Lib.hid (take_any c (c.now + g))
            have hcl : c.now ≤ 1099511627776 := by omega
            generalize takeB c (c.now + g) = r at htk HT
            obtain ⟨y, is⟩ := r
            simp only at htk
            obtain ⟨hyn, hcase⟩ := htk
            obtain ⟨cX, fX⟩ := hbX.facts
            clear hwf
            have Hyn := Lib.hid hyn
            clear hyn
            go_wp2_with fail
            refine (HT.out _).mono ?_
            rintro e w2 ⟨rfl, hb2⟩
            have hown2 := own_lo hown hb2
            have hbA2 := hbA.lo hb2
            have hbX2 := hbX.lo hb2
            have hbel2 := Lib.hid (lo_trans hbel hb2)
            have hsz2 : w.heap.size + 2 ≤ w2.heap.size := Nat.le_trans hsz hb2.size
            clear hown hbA hbX hbel hb2 hc cX fX HT
            have hyok := err_ok (hcase.elim (fun h => h.2.ok) (fun h => h.2.ok))
            have hCy := check_any y
            rw [hyok] at hCy
            have HCy := Lib.hid hCy
            clear hCy hyok
            have hY := Blk.new w2 23 #[.int .i64 y.burst, .int .i64 y.rate, .int .i64 y.per, .int .i64 y.level, .int .i64 y.now]
            have hown3 := hown2.alloc (.cells #[.int .i64 y.burst, .int .i64 y.rate, .int .i64 y.per, .int .i64 y.level, .int .i64 y.now] 23)
            have hneY := own_ne hown2 (g := w2.heap.size) (Or.inr (Nat.le_refl _))
            have hneA := own_ne hown2 (g := w.heap.size) (Or.inl (by omega))
            have hneX := own_ne hown2 (g := w.heap.size + 1) (Or.inl (by omega))
            have hbA3 := hbA2.alloc (.cells #[.int .i64 y.burst, .int .i64 y.rate, .int .i64 y.per, .int .i64 y.level, .int .i64 y.now] 23)
            have hbX3 := hbX2.alloc (.cells #[.int .i64 y.burst, .int .i64 y.rate, .int .i64 y.per, .int .i64 y.level, .int .i64 y.now] 23)
            have hbel3 := Lib.hid (lo_alloc hbel2.out (.cells #[.int .i64 y.burst, .int .i64 y.rate, .int .i64 y.per, .int .i64 y.level, .int .i64 y.now] 23))
            have hsz3 : w.heap.size + 2 ≤ (w2.alloc (.cells #[.int .i64 y.burst, .int .i64 y.rate, .int .i64 y.per, .int .i64 y.level, .int .i64 y.now] 23)).heap.size := by rw [World.size_alloc]; omega
            clear hown2 hbA2 hbX2 hbel2
            go_upto_region 11 with fail
            generalize hgy : w2.heap.size = gy at *
            generalize w2.alloc (.cells #[.int .i64 y.burst, .int .i64 y.rate, .int .i64 y.per, .int .i64 y.level, .int .i64 y.now] 23) = w3 at *
            clear hgy
            rcases hcase with ⟨rfl, hinv2⟩ | ⟨rfl, hinv2⟩
            · have Hinv2 := Lib.hid hinv2
              clear hinv2
              go_wp2_with (at_builtin; refine wp_append_boxg rfl _ _ 34 rfl (w.heap.size + 2) 3 i0 _ 1 8 Try.underlying34 hi hz0 hz1 hz2 rfl (by decide) _ _ _ rfl hown3 1 _ rfl rfl (by intro u hu; simp at hu; subst hu; rfl) (by omega) (by decide) hsz3 ?_; intro v' w4 hown4 hbel4 hblk4; have hY4 := hblk4 gy 23 _ hneY hY; have hA4 := hblk4 _ 27 _ hneA hbA3; have hX4 := hblk4 _ 23 _ hneX hbX3; clear hblk4 hown3 hneY hneA hneX hbA3 hbX3 hY; obtain ⟨cY, fY⟩ := hY4.facts)
              refine (HCy.out _).mono ?_
              rintro e w5 ⟨rfl, hb5⟩
              have hsz4 := hbel4.size
              have hown5 := own_lo hown4 hb5
              have hA5 := hA4.lo hb5
              have hX5 := hX4.lo hb5
              have hY5 := hY4.lo hb5
              have hbel5 := Lib.hid (lo_trans (hbel3.out.trans (hbel4.mono (Nat.le_add_right _ 2))) hb5)
              have hsz5 := hb5.size
              clear hown4 hA4 hX4 hY4 hbel4 hbel3 hb5 cY fY
              obtain ⟨cY, fY⟩ := hY5.facts
              obtain ⟨cX, fX⟩ := hX5.facts
              have hyn := Hyn.out
              go_wp2_with fail
              go_roundw
              case rel =>
                refine ⟨k + 1, y, xs ++ [c.now + g], by omega, by go_num, by rw [Hyn.out], by rw [Hyn.out]; omega, Hinv2, by rw [List.length_append, List.length_singleton]; omega, ?_, ?_, ?_, ?_, ?_⟩
                · rw [List.length_append, List.length_singleton, List.map_append]
                  refine ownsRow_setCell_below (ownsRow_setCell_below (ownsRow_setCell_below (ownsRow_setCell_below (ownsRow_setCell_below hown5 ?_ _) ?_ _) ?_ _) ?_ _) ?_ _ <;> (show w.heap.size + 1 < w.heap.size + 2; omega)
                · exact far5 hA5 (by omega) _ _ _ _ _
                · rw [Hyn.out]
                  exact put5 hX5 _ _ _ _ _
                · simp only [World.size_setCell]
                  omega
                · have hl := hbel5.out
                  repeat' (first | with_reducible exact hl | with_reducible apply lo_set | simp)
              case measure => simp [intOf]; omega
            · have Hinv2 := Lib.hid hinv2
              clear hinv2 hneY hneA hneX
              obtain ⟨cY, fY⟩ := hY.facts
              go_wp2_with fail
              refine (HCy.out _).mono ?_
              rintro e w5 ⟨rfl, hb5⟩
              have hown5 := own_lo hown3 hb5
              have hA5 := hbA3.lo hb5
              have hX5 := hbX3.lo hb5
              have hY5 := hY.lo hb5
              have hbel5 := Lib.hid (lo_trans hbel3.out hb5)
              have hsz5 := hb5.size
              clear hown3 hbA3 hbX3 hY hbel3 hb5 cY fY
              obtain ⟨cY, fY⟩ := hY5.facts
              obtain ⟨cX, fX⟩ := hX5.facts
              have hyn := Hyn.out
              go_wp2_with fail
              go_roundw
              case rel =>
                refine ⟨k + 1, y, xs, by omega, by go_num, by rw [Hyn.out], by rw [Hyn.out]; omega, Hinv2, by omega, ?_, ?_, ?_, ?_, ?_⟩
                · refine ownsRow_setCell_below (ownsRow_setCell_below (ownsRow_setCell_below (ownsRow_setCell_below (ownsRow_setCell_below hown5 ?_ _) ?_ _) ?_ _) ?_ _) ?_ _ <;> (show w.heap.size + 1 < w.heap.size + 2; omega)
                · exact far5 hA5 (by omega) _ _ _ _ _
                · rw [Hyn.out]
                  exact put5 hX5 _ _ _ _ _
                · simp only [World.size_setCell]
                  omega
                · have hl := hbel5.out
                  repeat' (first | with_reducible exact hl | with_reducible apply lo_set | simp)
              case measure => simp [intOf]; omega
          · have hkl' : ¬ (k : Int) < (len : Int) := by omega
            have hke : k = len := by omega
            subst hke
            have hi0 := hinv.out
            obtain ⟨A, cp, rfl, hcp, hnil⟩ := own_shape hown
            clear hcp hnil hbX HOK
            have Hinv := Lib.hid hi0
            clear hi0 hinv
            go_wp2_with fail
            go_loopw [11] (fun z wr' => ∃ i : Nat, i ≤ xs.length ∧ z = .int .i64 i ∧ wr'.ownsRow (w.heap.size + 2) 3 1 (.slice A xs.length cp) xs.length (xs.map I64) ∧ Blk wr' w.heap.size 27 #[.int .i64 b.burst, .int .i64 b.rate, .int .i64 b.per, .int .i64 b.level, .int .i64 b.now] ∧ Below w.heap.size w wr') (fun z _ => xs.length - (intOf z).toNat)
            case atStart => exact ⟨0, by omega, rfl, hown, hbA, hbel⟩
            case round =>
              obtain ⟨i, hil, rfl, hown, hbA, hbel⟩ := hrel
              by_cases hix : i < xs.length
              · have hix' : (i : Int) < (xs.length : Int) := by omega
                go_wp2_with fail
                go_loopw [12] (fun z wr' => ∃ k : Nat, i ≤ k ∧ k ≤ xs.length ∧ z = .int .i64 k ∧ wr'.ownsRow (w.heap.size + 2) 3 1 (.slice A xs.length cp) xs.length (xs.map I64) ∧ Blk wr' w.heap.size 27 #[.int .i64 b.burst, .int .i64 b.rate, .int .i64 b.per, .int .i64 b.level, .int .i64 b.now] ∧ Below w.heap.size w wr') (fun z _ => xs.length - (intOf z).toNat)
                case atStart => exact ⟨i, by omega, by omega, rfl, hown, hbA, hbel⟩
                case round =>
                  obtain ⟨j, hij, hjl, rfl, hown, hbA, hbel⟩ := hrel
                  by_cases hjx : j < xs.length
                  · have hjx' : (j : Int) < (xs.length : Int) := by omega
                    obtain ⟨g, cap', he, hg1, hg2⟩ := hown.form (by omega)
                    injection he with e1 e2 e3
                    subst e1
                    have hci := hown.cellAt i (by omega)
                    have hcj := hown.cellAt j (by omega)
                    rw [List.getElem?_map, List.getElem?_eq_getElem (by omega)] at hci hcj
                    have hp := Hinv.out.pair i j xs[i] xs[j] hij (List.getElem?_eq_getElem (by omega)) (List.getElem?_eq_getElem (by omega))
                    have hx1 := Hinv.out.low i xs[i] (List.getElem?_eq_getElem (by omega))
                    have hx2 := Hinv.out.low j xs[j] (List.getElem?_eq_getElem (by omega))
                    generalize xs[i] = x at hci hp hx1
                    generalize xs[j] = y at hcj hp hx2
                    simp only [Option.map_some, I64] at hci hcj
                    have hok := Hinv.out.ok
                    obtain ⟨⟨⟨q1, q2⟩, ⟨q3, q4⟩, ⟨q5, q6⟩⟩, _, _⟩ := hok
                    rw [Hinv.out.burst] at q1 q2
                    rw [Hinv.out.rate] at q3 q4
                    rw [Hinv.out.per] at q5 q6
                    obtain ⟨hx0, hx3, _⟩ := hx1
                    obtain ⟨hy0, hy3, _⟩ := hx2
                    obtain ⟨hxy, hp⟩ := hp
                    have m1 := small_prod (a := (j : Int) - (i : Int) + 1) (A := 61) (b := b.per) (B := 1000) (by omega) (by omega) (by omega) (by omega)
                    have m2 := prod_le q1 q2 q5 q6
                    have m3 := small_prod (a := b.rate) (A := 1000) (b := y - x) (B := 1099511627776) (by omega) (by omega) (by omega) (by omega)
                    have k1 : IntKind.i64.wrap ((j : Int) - (i : Int)) = (j : Int) - (i : Int) := IntWalk.i64_in _ (by omega)
                    have k2 : IntKind.i64.wrap ((j : Int) - (i : Int) + 1) = (j : Int) - (i : Int) + 1 := IntWalk.i64_in _ (by omega)
                    have k3 : IntKind.i64.wrap (((j : Int) - (i : Int) + 1) * b.per) = ((j : Int) - (i : Int) + 1) * b.per := IntWalk.i64_in _ (by omega)
                    have k4 : IntKind.i64.wrap (b.burst * b.per) = b.burst * b.per := IntWalk.i64_in _ (by omega)
                    have k5 : IntKind.i64.wrap (y - x) = y - x := IntWalk.i64_in _ (by omega)
                    have k6 : IntKind.i64.wrap (b.rate * (y - x)) = b.rate * (y - x) := IntWalk.i64_in _ (by omega)
                    have k7 : IntKind.i64.wrap (b.burst * b.per + b.rate * (y - x)) = b.burst * b.per + b.rate * (y - x) := IntWalk.i64_in _ (by omega)
                    have k8 : decide (b.burst * b.per + b.rate * (y - x) < ((j : Int) - (i : Int) + 1) * b.per) = false := decide_eq_false (by omega)
                    have hfi := hown.frozenAt i
                    have hfj := hown.frozenAt j
                    obtain ⟨cB, fB⟩ := hbA.facts
                    clear m1 m2 m3 hp q1 q2 q3 q4 q5 q6 hx0 hx3 hy0 hy3 hxy
                    have Hown := Lib.hid hown
                    have Hbel := Lib.hid hbel
                    have HbA := Lib.hid hbA
                    clear hown hbel hbA
                    go_upto_region 22 with fail
                    go_quiet (fail)
                    have hown := own_lo Hown.out (lo_drewN (lo_refl _) nq)
                    have hbel := lo_drewN Hbel.out nq
                    have hbA := HbA.out.drewN nq
                    clear Hown Hbel HbA cB fB hci hcj hfi hfj
                    go_wp2_with fail
                    go_roundw
                    case rel => exact ⟨j + 1, by omega, by omega, by go_num, hown, hbA, hbel⟩
                    case measure => simp [intOf]; omega
                  · have hjx' : ¬ (j : Int) < (xs.length : Int) := by omega
                    go_wp2_with fail
                    go_roundw
                    case rel => exact ⟨i + 1, by omega, by go_num, hown, hbA, hbel⟩
                    case measure => simp [intOf]; omega
              · have hix' : ¬ (i : Int) < (xs.length : Int) := by omega
                have hM := Lib.hid hbel
                clear hbel
                go_wp2_with fail
                refine (awake_any _).mono ?_
                rintro e w2 ⟨rfl, hb2⟩
                go_wp2_with fail
                go_ret
                exact ⟨rfl, lo_trans hM.out hb2⟩
    · rw [he] at hC
      have HC := Lib.hid hC
      clear hC he hok
      go_enter Try.func4, Try.ntmps4
      go_wp2_with fail
      refine (HC.out _).mono ?_
      rintro e w1 ⟨rfl, hb1⟩
      have hL := Lib.hid (lo_trans HL0.out hb1)
      clear hb1
      go_wp2_with fail
      refine (awake_any _).mono ?_
      rintro e w2 ⟨rfl, hb2⟩
      go_wp2_with fail
      go_ret
      exact ⟨rfl, lo_trans hL.out hb2⟩
theorem walk_BucketBound (s0_0 : Int) (s0_1 : Int) (s0_2 : Int) (s0_3 : Int) (s0_4 : Int) (a1 : Option Addr) (len1 cap1 : Nat) (xs1 : List Int) (w : World) (_w0_0 : (Lit.int .i64 s0_0).wf = true) (_w0_1 : (Lit.int .i64 s0_1).wf = true) (_w0_2 : (Lit.int .i64 s0_2).wf = true) (_w0_3 : (Lit.int .i64 s0_3).wf = true) (_w0_4 : (Lit.int .i64 s0_4).wf = true) (w1 : IntRow .u16 w a1 len1 cap1 xs1) :
    Calls Try.prog 4 #[.agg #[.int .i64 s0_0, .int .i64 s0_1, .int .i64 s0_2, .int .i64 s0_3, .int .i64 s0_4], .slice a1 len1 cap1] w fun e w' => e = .returned (.bool true) ∧ Below w.heap.size w w' :=
  bound_walk ⟨s0_0, s0_1, s0_2, s0_3, s0_4⟩ a1 len1 cap1 xs1 w w1
end Go.Proofs.Ytokedcdjclbliaa
