import Derived.Test.YtokedcdjclbliaaAtPlain
import Derived.Deep.DeepCutAuto
import Derived.Deep.DrawnRows
import Derived.Deep.QuietTactic
import Derived.BigQuiet
namespace Go.Proofs.Ytokedcdjclbliaa
open Go.RowKit
attribute [local go_sem ↓] Go.wp_at_zero Go.wp_at_succ

theorem keep12 {W w' : World} {p q : Nat} {p0 p1 p2 p3 p4 q0 q1 q2 q3 q4 : Value} (hb : Below W.heap.size W w')
    (h : W.cell? ⟨p, 0, none⟩ = some p0 ∧ W.cell? ⟨p, 1, none⟩ = some p1 ∧ W.cell? ⟨p, 2, none⟩ = some p2 ∧ W.cell? ⟨p, 3, none⟩ = some p3 ∧ W.cell? ⟨p, 4, none⟩ = some p4 ∧ W.cell? ⟨q, 0, none⟩ = some q0 ∧ W.cell? ⟨q, 1, none⟩ = some q1 ∧ W.cell? ⟨q, 2, none⟩ = some q2 ∧ W.cell? ⟨q, 3, none⟩ = some q3 ∧ W.cell? ⟨q, 4, none⟩ = some q4 ∧ p < W.heap.size ∧ q < W.heap.size) :
    w'.cell? ⟨p, 0, none⟩ = some p0 ∧ w'.cell? ⟨p, 1, none⟩ = some p1 ∧ w'.cell? ⟨p, 2, none⟩ = some p2 ∧ w'.cell? ⟨p, 3, none⟩ = some p3 ∧ w'.cell? ⟨p, 4, none⟩ = some p4 ∧ w'.cell? ⟨q, 0, none⟩ = some q0 ∧ w'.cell? ⟨q, 1, none⟩ = some q1 ∧ w'.cell? ⟨q, 2, none⟩ = some q2 ∧ w'.cell? ⟨q, 3, none⟩ = some q3 ∧ w'.cell? ⟨q, 4, none⟩ = some q4 ∧ p < w'.heap.size ∧ q < w'.heap.size := by
  obtain ⟨h0, h1, h2, h3, h4, h5, h6, h7, h8, h9, hp, hq⟩ := h
  exact ⟨(hb.cell (p := ⟨p, 0, none⟩) hp).trans h0, (hb.cell (p := ⟨p, 1, none⟩) hp).trans h1, (hb.cell (p := ⟨p, 2, none⟩) hp).trans h2, (hb.cell (p := ⟨p, 3, none⟩) hp).trans h3, (hb.cell (p := ⟨p, 4, none⟩) hp).trans h4,
    (hb.cell (p := ⟨q, 0, none⟩) hq).trans h5, (hb.cell (p := ⟨q, 1, none⟩) hq).trans h6, (hb.cell (p := ⟨q, 2, none⟩) hq).trans h7, (hb.cell (p := ⟨q, 3, none⟩) hq).trans h8, (hb.cell (p := ⟨q, 4, none⟩) hq).trans h9, Nat.lt_of_lt_of_le hp hb.size, Nat.lt_of_lt_of_le hq hb.size⟩
theorem cell_alloc_lt {w : World} {o : Obj} {b i : Nat} (h : b < w.heap.size) : (w.alloc o).cell? ⟨b, i, none⟩ = w.cell? ⟨b, i, none⟩ := (lo_cell (lo_alloc (lo_refl w) o)).1 b i h
theorem frozen_alloc_lt {w : World} {o : Obj} {b i : Nat} (h : b < w.heap.size) : (w.alloc o).frozen? ⟨b, i, none⟩ = w.frozen? ⟨b, i, none⟩ := (lo_cell (lo_alloc (lo_refl w) o)).2 b i h
attribute [local go_sem] cell_alloc_lt frozen_alloc_lt
theorem blk_new {w : World} {g : Nat} {t : TypeId} {cs : Array Value} (h : g = w.heap.size) : Blk (w.alloc (.cells cs t)) g t cs := h ▸ Blk.new w t cs
theorem ten {w3 W : World} {p q : Nat} {p0 p1 p2 p3 p4 q0 q1 q2 q3 q4 : Value} (hp : Blk w3 p 23 #[p0, p1, p2, p3, p4]) (hq : Blk w3 q 23 #[q0, q1, q2, q3, q4]) (hb : Below w3.heap.size w3 W) :
    W.cell? ⟨p, 0, none⟩ = some p0 ∧ W.cell? ⟨p, 1, none⟩ = some p1 ∧ W.cell? ⟨p, 2, none⟩ = some p2 ∧ W.cell? ⟨p, 3, none⟩ = some p3 ∧ W.cell? ⟨p, 4, none⟩ = some p4 ∧ W.cell? ⟨q, 0, none⟩ = some q0 ∧ W.cell? ⟨q, 1, none⟩ = some q1 ∧ W.cell? ⟨q, 2, none⟩ = some q2 ∧ W.cell? ⟨q, 3, none⟩ = some q3 ∧ W.cell? ⟨q, 4, none⟩ = some q4 := by
  have cp := (hp.lo hb).facts.1
  have cq := (hq.lo hb).facts.1
  exact ⟨cp 0, cp 1, cp 2, cp 3, cp 4, cq 0, cq 1, cq 2, cq 3, cq 4⟩
theorem keep15 {W w' : World} {p q r : Nat} {p0 p1 p2 p3 p4 q0 q1 q2 q3 q4 r0 r1 r2 r3 r4 : Value} (hb : Below W.heap.size W w') (h : W.cell? ⟨p, 0, none⟩ = some p0 ∧ W.cell? ⟨p, 1, none⟩ = some p1 ∧ W.cell? ⟨p, 2, none⟩ = some p2 ∧ W.cell? ⟨p, 3, none⟩ = some p3 ∧ W.cell? ⟨p, 4, none⟩ = some p4 ∧ W.cell? ⟨q, 0, none⟩ = some q0 ∧ W.cell? ⟨q, 1, none⟩ = some q1 ∧ W.cell? ⟨q, 2, none⟩ = some q2 ∧ W.cell? ⟨q, 3, none⟩ = some q3 ∧ W.cell? ⟨q, 4, none⟩ = some q4 ∧ W.cell? ⟨r, 0, none⟩ = some r0 ∧ W.cell? ⟨r, 1, none⟩ = some r1 ∧ W.cell? ⟨r, 2, none⟩ = some r2 ∧ W.cell? ⟨r, 3, none⟩ = some r3 ∧ W.cell? ⟨r, 4, none⟩ = some r4 ∧ p < W.heap.size ∧ q < W.heap.size ∧ r < W.heap.size) :
    w'.cell? ⟨p, 0, none⟩ = some p0 ∧ w'.cell? ⟨p, 1, none⟩ = some p1 ∧ w'.cell? ⟨p, 2, none⟩ = some p2 ∧ w'.cell? ⟨p, 3, none⟩ = some p3 ∧ w'.cell? ⟨p, 4, none⟩ = some p4 ∧ w'.cell? ⟨q, 0, none⟩ = some q0 ∧ w'.cell? ⟨q, 1, none⟩ = some q1 ∧ w'.cell? ⟨q, 2, none⟩ = some q2 ∧ w'.cell? ⟨q, 3, none⟩ = some q3 ∧ w'.cell? ⟨q, 4, none⟩ = some q4 ∧ w'.cell? ⟨r, 0, none⟩ = some r0 ∧ w'.cell? ⟨r, 1, none⟩ = some r1 ∧ w'.cell? ⟨r, 2, none⟩ = some r2 ∧ w'.cell? ⟨r, 3, none⟩ = some r3 ∧ w'.cell? ⟨r, 4, none⟩ = some r4 ∧ p < w'.heap.size ∧ q < w'.heap.size ∧ r < w'.heap.size := by
  obtain ⟨h0, h1, h2, h3, h4, h5, h6, h7, h8, h9, h10, h11, h12, h13, h14, h15, h16, h17⟩ := h
  exact ⟨(hb.cell (p := ⟨p, 0, none⟩) h15).trans h0, (hb.cell (p := ⟨p, 1, none⟩) h15).trans h1, (hb.cell (p := ⟨p, 2, none⟩) h15).trans h2, (hb.cell (p := ⟨p, 3, none⟩) h15).trans h3, (hb.cell (p := ⟨p, 4, none⟩) h15).trans h4, (hb.cell (p := ⟨q, 0, none⟩) h16).trans h5, (hb.cell (p := ⟨q, 1, none⟩) h16).trans h6, (hb.cell (p := ⟨q, 2, none⟩) h16).trans h7, (hb.cell (p := ⟨q, 3, none⟩) h16).trans h8, (hb.cell (p := ⟨q, 4, none⟩) h16).trans h9, (hb.cell (p := ⟨r, 0, none⟩) h17).trans h10, (hb.cell (p := ⟨r, 1, none⟩) h17).trans h11, (hb.cell (p := ⟨r, 2, none⟩) h17).trans h12, (hb.cell (p := ⟨r, 3, none⟩) h17).trans h13, (hb.cell (p := ⟨r, 4, none⟩) h17).trans h14, Nat.lt_of_lt_of_le h15 hb.size, Nat.lt_of_lt_of_le h16 hb.size, Nat.lt_of_lt_of_le h17 hb.size⟩
set_option maxRecDepth 100000 in
set_option maxHeartbeats 3200000 in
theorem ats_walk (b : Bk) (g1 g2 m : Int) (hg1 : 0 ≤ g1) (hg1' : g1 ≤ 65535) (hg2 : 0 ≤ g2) (hg2' : g2 ≤ 65535) (hm : 0 ≤ m) (hm' : m ≤ 65535) (w : World) :
    Calls Try.prog 6 #[.agg #[.int .i64 b.burst, .int .i64 b.rate, .int .i64 b.per, .int .i64 b.level, .int .i64 b.now], .agg #[.int .u16 g1, .int .u16 g2], .int .u16 m] w (AwakePost w) := by
  have hA0 := ((Blk.new w 27 #[.int .i64 b.burst, .int .i64 b.rate, .int .i64 b.per, .int .i64 b.level, .int .i64 b.now]).alloc (.cells #[.int .u16 g1, .int .u16 g2] 43)).alloc (.cells #[.int .i64 b.burst, .int .i64 b.rate, .int .i64 b.per, .int .i64 b.level, .int .i64 b.now] 23)
  have hG0 := (Blk.new (w.alloc (.cells #[.int .i64 b.burst, .int .i64 b.rate, .int .i64 b.per, .int .i64 b.level, .int .i64 b.now] 27)) 43 #[.int .u16 g1, .int .u16 g2]).alloc (.cells #[.int .i64 b.burst, .int .i64 b.rate, .int .i64 b.per, .int .i64 b.level, .int .i64 b.now] 23)
  have hB0 := Blk.new ((w.alloc (.cells #[.int .i64 b.burst, .int .i64 b.rate, .int .i64 b.per, .int .i64 b.level, .int .i64 b.now] 27)).alloc (.cells #[.int .u16 g1, .int .u16 g2] 43)) 23 #[.int .i64 b.burst, .int .i64 b.rate, .int .i64 b.per, .int .i64 b.level, .int .i64 b.now]
  simp only [World.size_alloc] at hB0 hG0
  have hL0 := lo_alloc (lo_alloc (lo_alloc (lo_refl w) (.cells #[.int .i64 b.burst, .int .i64 b.rate, .int .i64 b.per, .int .i64 b.level, .int .i64 b.now] 27)) (.cells #[.int .u16 g1, .int .u16 g2] 43)) (.cells #[.int .i64 b.burst, .int .i64 b.rate, .int .i64 b.per, .int .i64 b.level, .int .i64 b.now] 23)
  have HA0 := Lib.hid hA0
  have HG0 := Lib.hid hG0
  have HB0 := Lib.hid hB0
  have HL0 := Lib.hid hL0
  clear hA0 hB0 hL0 hG0
  have hC := check_any b
  rcases err_cases b with ⟨hok, he⟩ | ⟨hok, he⟩
  · rw [he] at hC
    have HC := Lib.hid hC
    clear hC he
    by_cases hn : 1073741824 < b.now
    · clear hok
      go_enter Try.func6, Try.ntmps6
      go_wp2_with fail
      refine (HC.out _).mono ?_
      rintro e w1 ⟨rfl, hb1⟩
      obtain ⟨cB, fB⟩ := (HB0.out.lo hb1).facts
      have hL := Lib.hid (lo_trans HL0.out hb1)
      clear hb1
      go_wp2_with fail
      refine (awake_any _).mono ?_
      rintro e w2 ⟨rfl, hb2⟩
      go_wp2_with fail
      go_ret
      exact ⟨rfl, lo_trans hL.out hb2⟩
    · have hn0 := hok.2.2.1
      have hn1 : b.now ≤ 1073741824 := by omega
      clear hn
      have HOK := Lib.hid hok
      obtain ⟨⟨⟨q1, q2⟩, ⟨q3, q4⟩, ⟨q5, q6⟩⟩, ⟨q7, q8⟩, ⟨q9, q10⟩⟩ := hok
      obtain ⟨p1, p2⟩ := prod_le q1 q2 q5 q6
      go_enter Try.func6, Try.ntmps6
      go_wp2_with fail
      refine (HC.out _).mono ?_
      rintro e w1 ⟨rfl, hb1⟩
      have hB := HB0.out.lo hb1
      have hG := HG0.out.lo hb1
      obtain ⟨cB, fB⟩ := hB.facts
      obtain ⟨cG, fG⟩ := hG.facts
      have hL := Lib.hid (lo_trans HL0.out hb1)
      clear hb1
      go_wp2_with fail
      go_quiet (fail)
      have hB := hB.drewN nq
      have hL := Lib.hid (lo_drewN hL.out nq)
      generalize w1.drewN nq = w2 at hB hL ⊢
      clear cB fB cG fG hG
      have hlt := hB.lt
      have hltb : w.heap.size + 1 < w2.heap.size := by omega
      obtain ⟨cB, fB⟩ := hB.facts
      obtain ⟨Lv, hLv⟩ : ∃ Lv, (if b.level + m < b.burst * b.per then b.level + m else b.burst * b.per) = Lv := ⟨_, rfl⟩
      go_wp2_with fail
      have hpl := ats_plain HOK.out hn1 hg1 hg1' hg2 hg2' hm hLv
      clear hLv
      have HAX := Lib.hid (at_any b (b.now + g1 + g2))
      have HAY := Lib.hid (at_any ⟨b.burst, b.rate, b.per, Lv, b.now⟩ (b.now + g1 + g2))
      generalize hax : atB b (b.now + g1 + g2) = a at HAX hpl
      generalize hay : atB ⟨b.burst, b.rate, b.per, Lv, b.now⟩ (b.now + g1 + g2) = c at HAY hpl
      have PL := Lib.hid hpl
      clear hpl
      clear hax hay
      have hY := Blk.new w2 23 #[.int .i64 b.burst, .int .i64 b.rate, .int .i64 b.per, .int .i64 Lv, .int .i64 b.now]
      have hB := hB.alloc (.cells #[.int .i64 b.burst, .int .i64 b.rate, .int .i64 b.per, .int .i64 Lv, .int .i64 b.now] 23)
      have hL := Lib.hid (lo_alloc hL.out (.cells #[.int .i64 b.burst, .int .i64 b.rate, .int .i64 b.per, .int .i64 Lv, .int .i64 b.now] 23))
      clear cB fB hlt hltb
      generalize hgx : w.heap.size + 1 + 1 = gx at *
      generalize hgy : w2.heap.size = gy at *
      generalize w2.alloc (.cells #[.int .i64 b.burst, .int .i64 b.rate, .int .i64 b.per, .int .i64 Lv, .int .i64 b.now] 23) = w3 at *
      obtain ⟨cB, fB⟩ := hB.facts
      obtain ⟨cY, fY⟩ := hY.facts
      have lB := hB.lt
      have lY := hY.lt
      have nB : w3.heap.size ≠ gx := by omega
      have nY : w3.heap.size ≠ gy := by omega
      clear HA0 HG0 HB0 HL0 HC
      go_upto_region 7 with fail
      go_cut [11, 12] (fun u v wc => ∃ p q : Nat, u = .pointer (some ⟨p, 0, none⟩) ∧ v = .pointer (some ⟨q, 0, none⟩) ∧ Blk wc p 23 #[.int .i64 a.burst, .int .i64 a.rate, .int .i64 a.per, .int .i64 a.level, .int .i64 a.now] ∧ Blk wc q 23 #[.int .i64 c.burst, .int .i64 c.rate, .int .i64 c.per, .int .i64 c.level, .int .i64 c.now] ∧ Blk wc gx 23 #[.int .i64 b.burst, .int .i64 b.rate, .int .i64 b.per, .int .i64 b.level, .int .i64 b.now] ∧ Below w3.heap.size w3 wc)
      case first =>
        go_region_held3 (fun W => W.cell? ⟨gx, 0, none⟩ = some (.int .i64 b.burst) ∧ W.cell? ⟨gx, 1, none⟩ = some (.int .i64 b.rate) ∧ W.cell? ⟨gx, 2, none⟩ = some (.int .i64 b.per) ∧ W.cell? ⟨gx, 3, none⟩ = some (.int .i64 b.level) ∧ W.cell? ⟨gx, 4, none⟩ = some (.int .i64 b.now) ∧ W.cell? ⟨gy, 0, none⟩ = some (.int .i64 b.burst) ∧ W.cell? ⟨gy, 1, none⟩ = some (.int .i64 b.rate) ∧ W.cell? ⟨gy, 2, none⟩ = some (.int .i64 b.per) ∧ W.cell? ⟨gy, 3, none⟩ = some (.int .i64 Lv) ∧ W.cell? ⟨gy, 4, none⟩ = some (.int .i64 b.now)) ((refine ten hB hY ?_; repeat' (first | with_reducible exact lo_refl _ | with_reducible apply lo_drew | with_reducible apply lo_alloc | with_reducible apply lo_set | with_reducible refine lo_trans ?_ hbx | with_reducible refine lo_trans ?_ hby | with_reducible exact Nat.le_refl _ | with_reducible apply Nat.le_succ_of_le | with_reducible refine Below.size (B := w3.heap.size) ?_)))
          (first
            | (go_at_call_of 14 (Value.agg #[.int .i64 b.burst, .int .i64 b.rate, .int .i64 b.per, .int .i64 b.level, .int .i64 b.now]); refine (HAX.out _).mono ?_; rintro e wx ⟨rfl, hbx⟩; obtain ⟨cx, fx⟩ := lo_cell hbx; have lx := fun (n : Nat) (h : n < _) => Nat.lt_of_lt_of_le h hbx.size; (first | (have gx0 : w3.heap.size < wx.heap.size := by (have k1 := hbx.size; (try have k2 := hby.size); simp only [World.size_alloc, World.size_drew] at *; omega)) | skip))
            | (go_at_call_of 14 (Value.agg #[.int .i64 b.burst, .int .i64 b.rate, .int .i64 b.per, .int .i64 Lv, .int .i64 b.now]); refine (HAY.out _).mono ?_; rintro e wy ⟨rfl, hby⟩; obtain ⟨cy, fy⟩ := lo_cell hby; have ly := fun (n : Nat) (h : n < _) => Nat.lt_of_lt_of_le h hby.size; (first | (have gy0 : w3.heap.size < wy.heap.size := by (have k1 := hby.size; (try have k2 := hbx.size); simp only [World.size_alloc, World.size_drew] at *; omega)) | skip)))
        all_goals
          go_wp2_with fail
          go_meet
          have k1 := hbx.size
          have k2 := hby.size
          simp only [World.size_alloc, World.size_drew] at k1 k2
          refine ⟨_, _, rfl, rfl, ?_, ?_, ?_, ?_⟩
          all_goals
            repeat' (first
              | with_reducible exact hB
              | with_reducible exact hY
              | with_reducible exact lo_refl _
              | with_reducible apply put5
              | (with_reducible refine blk_new ?_; first | with_reducible rfl | (simp only [World.size_alloc, World.size_setCell, World.size_drew]; done))
              | with_reducible refine far5 ?_ ?_ _ _ _ _ _
              | with_reducible apply Blk.alloc
              | with_reducible apply Blk.drew
              | with_reducible refine Blk.lo ?_ hbx
              | with_reducible refine Blk.lo ?_ hby
              | with_reducible apply lo_drew
              | with_reducible apply lo_alloc
              | with_reducible apply lo_set
              | with_reducible refine lo_trans ?_ hbx
              | with_reducible refine lo_trans ?_ hby
              | omega
              | (simp only [World.size_alloc, World.size_drew]; omega))
      case rest =>
        obtain ⟨p, q, rfl, rfl, hP, hQ, hX, hbel⟩ := hcut
        have hMM := Lib.hid (lo_trans hL.out hbel)
        clear hB hY hbel hL
        obtain ⟨e1, e2, e3, e4, e5⟩ := PL.out
        have HD1 := Lib.hid (at_any b (b.now + g1))
        have HD2 := Lib.hid (at_any (atB b (b.now + g1)) (b.now + g1 + g2))
        have HHC := Lib.hid (has_any c)
        have HHA := Lib.hid (has_any a)
        rw [e1] at HD2
        generalize atB b (b.now + g1) = d at HD1 HD2
        simp only [e4] at HHA HD2
        generalize hasB a = na at *
        generalize hasB c = nc at *
        obtain ⟨cX, fX⟩ := hX.facts
        obtain ⟨cP, fP⟩ := hP.facts
        obtain ⟨cQ, fQ⟩ := hQ.facts
        have lX := hX.lt
        have lP := hP.lt
        have lQ := hQ.lt
        clear hX hP hQ PL HAX HAY
        go_wp2_with fail
        go_region_held3 (fun W => W.cell? ⟨gx, 0, none⟩ = some (.int .i64 b.burst) ∧ W.cell? ⟨gx, 1, none⟩ = some (.int .i64 b.rate) ∧ W.cell? ⟨gx, 2, none⟩ = some (.int .i64 b.per) ∧ W.cell? ⟨gx, 3, none⟩ = some (.int .i64 b.level) ∧ W.cell? ⟨gx, 4, none⟩ = some (.int .i64 b.now) ∧ W.cell? ⟨p, 0, none⟩ = some (.int .i64 a.burst) ∧ W.cell? ⟨p, 1, none⟩ = some (.int .i64 a.rate) ∧ W.cell? ⟨p, 2, none⟩ = some (.int .i64 a.per) ∧ W.cell? ⟨p, 3, none⟩ = some (.int .i64 a.level) ∧ W.cell? ⟨p, 4, none⟩ = some (.int .i64 a.now) ∧ W.cell? ⟨q, 0, none⟩ = some (.int .i64 c.burst) ∧ W.cell? ⟨q, 1, none⟩ = some (.int .i64 c.rate) ∧ W.cell? ⟨q, 2, none⟩ = some (.int .i64 c.per) ∧ W.cell? ⟨q, 3, none⟩ = some (.int .i64 c.level) ∧ W.cell? ⟨q, 4, none⟩ = some (.int .i64 c.now) ∧ gx < W.heap.size ∧ p < W.heap.size ∧ q < W.heap.size) (first | exact keep15 hb1 (by assumption) | exact keep15 hb2 (by assumption) | exact keep15 hb3 (by assumption) | exact keep15 hb4 (by assumption) | exact keep15 hb5 (by assumption) | (simp [*]; done) | go_keep)
          (first
            | (go_at_call_of 14 (Value.agg #[.int .i64 b.burst, .int .i64 b.rate, .int .i64 b.per, .int .i64 b.level, .int .i64 b.now]); refine (HD1.out _).mono ?_; rintro e wx ⟨rfl, hb1⟩)
            | (go_at_call_of 14 (Value.agg #[.int .i64 d.burst, .int .i64 d.rate, .int .i64 d.per, .int .i64 d.level, .int .i64 d.now]); refine (HD2.out _).mono ?_; rintro e wx ⟨rfl, hb2⟩)
            | (go_at_call_of 13 (Value.agg #[.int .i64 c.burst, .int .i64 c.rate, .int .i64 c.per, .int .i64 c.level, .int .i64 c.now]); refine (HHC.out _).mono ?_; rintro e wx ⟨rfl, hb3⟩)
            | (go_at_call_of 13 (Value.agg #[.int .i64 a.burst, .int .i64 a.rate, .int .i64 a.per, .int .i64 a.level, .int .i64 (b.now + g1 + g2)]); refine (HHA.out _).mono ?_; rintro e wx ⟨rfl, hb4⟩)
            | (go_at_call 9; refine (awake_any _).mono ?_; rintro e wx ⟨rfl, hb5⟩))
        have hM := lo_trans (lo_trans (lo_trans (lo_trans (lo_trans (lo_drew hMM.out) hb1) hb2) hb3) hb4) hb5
        clear hb1 hb2 hb3 hb4 hb5
        go_wp2_with fail
        go_ret
        exact ⟨rfl, hM⟩
  · rw [he] at hC
    have HC := Lib.hid hC
    clear hC he hok
    go_enter Try.func6, Try.ntmps6
    go_wp2_with fail
    refine (HC.out _).mono ?_
    rintro e w1 ⟨rfl, hb1⟩
    have hL := Lib.hid (lo_trans HL0.out hb1)
    clear hb1
    go_wp2_with fail
    refine (awake_any _).mono ?_
    rintro e w2 ⟨rfl, hb2⟩
    go_wp2_with fail
    go_ret
    exact ⟨rfl, lo_trans hL.out hb2⟩
theorem walk_BucketAt (s0_0 : Int) (s0_1 : Int) (s0_2 : Int) (s0_3 : Int) (s0_4 : Int) (s1_0 : Int) (s1_1 : Int) (a2 : Int) (w : World) (_w0_0 : (Lit.int .i64 s0_0).wf = true) (_w0_1 : (Lit.int .i64 s0_1).wf = true) (_w0_2 : (Lit.int .i64 s0_2).wf = true) (_w0_3 : (Lit.int .i64 s0_3).wf = true) (_w0_4 : (Lit.int .i64 s0_4).wf = true) (w1_0 : (Lit.int .u16 s1_0).wf = true) (w1_1 : (Lit.int .u16 s1_1).wf = true) (w2 : (Lit.int .u16 a2).wf = true) :
    Calls Try.prog 6 #[.agg #[.int .i64 s0_0, .int .i64 s0_1, .int .i64 s0_2, .int .i64 s0_3, .int .i64 s0_4], .agg #[.int .u16 s1_0, .int .u16 s1_1], .int .u16 a2] w fun e w' => e = .returned (.bool true) ∧ Below w.heap.size w w' := by
  have h0 := bounds_u16 w1_0
  have h1 := bounds_u16 w1_1
  have h2 := bounds_u16 w2
  exact ats_walk ⟨s0_0, s0_1, s0_2, s0_3, s0_4⟩ s1_0 s1_1 a2 (by omega) (by omega) (by omega) (by omega) (by omega) (by omega) w
end Go.Proofs.Ytokedcdjclbliaa
