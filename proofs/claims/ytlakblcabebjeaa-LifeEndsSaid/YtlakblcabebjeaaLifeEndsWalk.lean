import Derived.Test.YtlakblcabebjeaaLifeRunsWalk
namespace Go.Proofs.Ytlakblcabebjeaa
open Go.RowKit
attribute [local go_sem ↓] Go.wp_at_zero Go.wp_at_succ

/-- What a state says of the sides' ends. -/
def InvL (s : Int) (t o : Bool) : Prop := (s = 0 ∧ t = false ∧ o = false) ∨ (s = 1 ∧ t = false ∧ o = false) ∨ (s = 2 ∧ t = true ∧ o = false) ∨ (s = 3 ∧ t = false ∧ o = true) ∨ s = 4 ∨ s = 5
instance (s : Int) (t o : Bool) : Decidable (InvL s t o) := by unfold InvL; infer_instance
def cntL (c : Int) (va vb : Bool) : Bool := decide (c = 0 ∧ va = false ∧ vb = false)
def txL (k : Int) : Bool := decide (k = 0 ∨ k = 1)
def miL (k : Int) : Bool := decide (k = 5 ∨ k = 6)
def t2L (t : Bool) (k c : Int) (va vb e : Bool) : Bool := t || (txL k && cntL c va vb && e)
def o2L (o : Bool) (k c : Int) (va vb e : Bool) : Bool := o || (miL k && cntL c va vb && e)
/-- What the law asks of a step. -/
def EndsL (s : Int) (t o : Bool) (k : Int) (e : Bool) (r : Int × Vd) : Prop :=
  (overL s = true → r.1 = s) ∧ (txL k = true → cntL r.2.1 r.2.2.1 r.2.2.2 = true → t = false ∧ overL s = false) ∧
  (miL k = true → cntL r.2.1 r.2.2.1 r.2.2.2 = true → o = false ∧ overL s = false ∧ s ≠ 0) ∧
  (r.2.1 ≠ 0 → r.2.2.1 = false → k ≤ 4 → r.1 = 5) ∧
  (overL r.1 = false → r.1 ≠ 0 → takesL r.1 = !(t2L t k r.2.1 r.2.2.1 r.2.2.2 e) ∧ sendsL r.1 = !(o2L o k r.2.1 r.2.2.1 r.2.2.2 e)) ∧
  (InvL r.1 (t2L t k r.2.1 r.2.2.1 r.2.2.2 e) (o2L o k r.2.1 r.2.2.1 r.2.2.2 e) ∧ (txL k = true → miL k = false))
instance (s : Int) (t o : Bool) (k : Int) (e : Bool) (r : Int × Vd) : Decidable (EndsL s t o k e r) := by unfold EndsL; infer_instance
theorem ends_all : ([0, 1, 2, 3, 4, 5] : List Int).all (fun s => ([0, 1, 2, 3, 4, 5, 6, 7] : List Int).all fun k => [false, true].all fun t => [false, true].all fun o => [false, true].all fun e => !(decide (InvL s t o)) || decide (EndsL s t o k e (stepL s k e))) = true := by decide +kernel
theorem ends_plain {s k r1 c : Int} {t o e va vb : Bool} (hi : InvL s t o) (h0 : 0 ≤ k) (h1 : k < 8) (hr : stepL s k e = (r1, c, va, vb)) : EndsL s t o k e (r1, c, va, vb) := by
  have hs : s ∈ ([0, 1, 2, 3, 4, 5] : List Int) := by
    unfold InvL at hi
    have : s = 0 ∨ s = 1 ∨ s = 2 ∨ s = 3 ∨ s = 4 ∨ s = 5 := by omega
    rcases this with rfl | rfl | rfl | rfl | rfl | rfl <;> decide
  have hk : k ∈ ([0, 1, 2, 3, 4, 5, 6, 7] : List Int) := by
    rcases k_cases h0 h1 with rfl | rfl | rfl | rfl | rfl | rfl | rfl | rfl <;> decide
  have a1 := List.all_eq_true.1 ends_all s hs
  have a2 := List.all_eq_true.1 a1 k hk
  have a3 := List.all_eq_true.1 a2 t (by cases t <;> decide)
  have a4 := List.all_eq_true.1 a3 o (by cases o <;> decide)
  have a5 := List.all_eq_true.1 a4 e (by cases e <;> decide)
  rw [decide_eq_true hi, hr] at a5
  simpa using a5
set_option maxRecDepth 100000 in
set_option maxHeartbeats 6400000 in
theorem walk_LifeEnds (a0 : Option Addr) (len0 cap0 : Nat) (xs0 : List (Int × Bool)) (w : World) (w0 : AggRow 2 (fun x : Int × Bool => [Value.int .u8 x.1, Value.bool x.2]) (fun x : Int × Bool => (Lit.int .u8 x.1).wf = true) w a0 len0 cap0 xs0) :
    Calls Try.prog 5 #[.slice a0 len0 cap0] w fun e w' => e = .returned (.bool true) ∧ Below w.heap.size w w' := by
  have HL := Lib.hid w0
  have hll := w0.1
  have hlm : len0 ≤ maxLen := Nat.le_trans w0.2.1 w0.2.2.1
  clear w0
  by_cases hbig : len0 > 60
  · go_enter Try.func5, Try.ntmps5
    go_wp2_with fail
    refine (awake_any _).mono ?_
    rintro e w2 ⟨rfl, hb2⟩
    have hM := Lib.hid hb2
    go_wp2_with fail
    go_ret
    exact ⟨rfl, hM.out⟩
  · go_enter Try.func5, Try.ntmps5
    go_wp2_with fail
    go_loopw [3, 4, 5, 6] (fun x y z v wr => ∃ (i : Nat) (s : Int) (t o : Bool), i ≤ len0 ∧ x = .int .u8 s ∧ y = .bool t ∧ z = .bool o ∧ v = .int .i64 i ∧ InvL s t o ∧ Below w.heap.size w wr) (fun _ _ _ v _ => len0 - (intOf v).toNat)
    case atStart => exact ⟨0, 0, false, false, by omega, rfl, rfl, rfl, rfl, by decide, lo_refl w⟩
    case round =>
      obtain ⟨i, s, t, o, hi, rfl, rfl, rfl, rfl, hinv, hbel⟩ := hrel
      by_cases hil : i < len0
      · obtain ⟨b, off, rfl, hlt, hc⟩ := (agg_lo HL.out hbel).2.2.2.2.1 i xs0[i] (List.getElem?_eq_getElem (by omega))
        have hwf := HL.out.2.2.2.2.2 xs0[i] (List.getElem_mem _)
        generalize xs0[i] = x at hc hwf
        obtain ⟨kd, e⟩ := x
        have hc0 := hc 0 _ rfl
        have hc1 := hc 1 _ rfl
        simp only [Nat.add_zero] at hc0 hc1
        have hkd := bounds_u8 hwf
        simp only at hkd
        have hil' : (i : Int) < (len0 : Int) := by omega
        clear hc hwf
        go_upto_region 8 with fail
        go_region
        obtain ⟨k, hk⟩ : ∃ k, kd % 8 = k := ⟨_, rfl⟩
        have hk0 : 0 ≤ k ∧ k < 8 := by omega
        rw [hk]
        have hE := (Blk.new wr 30 #[.int .u8 k, .bool e]).drew
        have hL := Lib.hid (lo_drew (lo_alloc hbel (.cells #[.int .u8 k, .bool e] 30)))
        clear hbel hc0 hc1 hkd hlt
        generalize wr.heap.size = ge at hE ⊢
        generalize (wr.alloc (.cells #[.int .u8 k, .bool e] 30)).drew = w1 at hE hL ⊢
        clear hk
        have hs0 : 0 ≤ s := by unfold InvL at hinv; omega
        have hS := step_any s k e hs0 hk0.1
        obtain ⟨⟨r1, c, va, vb⟩, hr⟩ : ∃ r, stepL s k e = r := ⟨_, rfl⟩
        rw [hr] at hS
        have HS := Lib.hid hS
        clear hS hs0
        obtain ⟨F1, F2, F3, F4, F5, F6⟩ := ends_plain hinv hk0.1 hk0.2 hr
        have hO := over_any s
        have hO2 := over_any r1
        have hT2 := takes_any r1
        have hS2 := sends_any r1
        clear hinv hr
        simp only [t2L, o2L] at F1 F2 F3 F4 F5 F6
        obtain ⟨cn, hcn⟩ : ∃ x, cntL c va vb = x := ⟨_, rfl⟩
        obtain ⟨tx, htx⟩ : ∃ x, txL k = x := ⟨_, rfl⟩
        obtain ⟨mi, hmi⟩ : ∃ x, miL k = x := ⟨_, rfl⟩
        obtain ⟨ov, hov⟩ : ∃ x, overL s = x := ⟨_, rfl⟩
        obtain ⟨ov2, hov2⟩ : ∃ x, overL r1 = x := ⟨_, rfl⟩
        obtain ⟨tk, htk⟩ : ∃ x, takesL r1 = x := ⟨_, rfl⟩
        obtain ⟨sd, hsd⟩ : ∃ x, sendsL r1 = x := ⟨_, rfl⟩
        obtain ⟨t2, ht2⟩ : ∃ x, (t || tx && cn && e) = x := ⟨_, rfl⟩
        obtain ⟨o2, ho2⟩ : ∃ x, (o || mi && cn && e) = x := ⟨_, rfl⟩
        rw [hov] at F1 F2 F3 hO
        rw [hcn, htx] at F2
        rw [hcn, hmi] at F3
        rw [hov2, htk, hsd, hcn, htx, hmi, ht2, ho2] at F5
        rw [hcn, htx, hmi, ht2, ho2] at F6
        rw [hov2] at hO2
        rw [htk] at hT2
        rw [hsd] at hS2
        have HO := Lib.hid hO
        have HO2 := Lib.hid hO2
        have HT2 := Lib.hid hT2
        have HS2 := Lib.hid hS2
        have G1 := Lib.hid F1
        have G2 := Lib.hid F2
        have G3 := Lib.hid F3
        have G4 := Lib.hid F4
        have G5 := Lib.hid F5
        have G6 := Lib.hid F6
        have Hcn := Lib.hid hcn
        have Htx := Lib.hid htx
        have Hmi := Lib.hid hmi
        have Ht2 := Lib.hid ht2
        have Ho2 := Lib.hid ho2
        clear hO hO2 hT2 hS2 F1 F2 F3 F4 F5 F6 hcn htx hmi hov hov2 htk hsd ht2 ho2
        obtain ⟨cE, fE⟩ := hE.facts
        go_wp2_with fail
        refine (HS.out _).mono ?_
        rintro e' w2 ⟨rfl, hb2⟩
        have hE := (hE.lo hb2).alloc (.cells #[.int .u32 c, .bool va, .bool vb] 27)
        have hV := Blk.new w2 27 #[.int .u32 c, .bool va, .bool vb]
        have hL := Lib.hid (lo_alloc (lo_trans hL.out hb2) (.cells #[.int .u32 c, .bool va, .bool vb] 27))
        clear hb2 cE fE HS
        go_upto_region 12 with fail
        generalize w2.heap.size = gv at hV ⊢
        generalize w2.alloc (.cells #[.int .u32 c, .bool va, .bool vb] 27) = w3 at hE hV hL ⊢
        obtain ⟨cE, fE⟩ := hE.facts
        obtain ⟨cV, fV⟩ := hV.facts
        clear hE hV
        go_cut [11] (fun u wc => u = .bool cn ∧ wc = w3)
        case first =>
          as_aux_lemma =>
          rename_i aC jj kk m1 m2
          clear aC
          by_cases hc : c = 0
          all_goals
            cases va
            all_goals
              cases vb
              all_goals
                go_wp2_with fail
                go_meet
                exact ⟨by rw [← Hcn.out]; simp [cntL, hc], rfl⟩
        case rest =>
        obtain ⟨rfl, rfl⟩ := hcut
        go_upto_region 13 with fail
        go_cut [12] (fun u wx => u = .bool tx ∧ wx = wc)
        case first =>
          as_aux_lemma =>
          rename_i aC jj kk m1 m2
          clear aC
          have hkc : k = 0 ∨ k = 1 ∨ (¬ k = 0 ∧ ¬ k = 1) := by omega
          rcases hkc with rfl | rfl | ⟨k0, k1⟩
          · go_wp2_with fail
            go_meet
            exact ⟨by rw [← Htx.out]; rfl, rfl⟩
          · go_wp2_with fail
            go_meet
            exact ⟨by rw [← Htx.out]; rfl, rfl⟩
          · have g0 := beq_eq_false_iff_ne.2 k0
            have g1 := beq_eq_false_iff_ne.2 k1
            go_wp2_with fail
            go_meet
            exact ⟨by rw [← Htx.out]; simp [txL, k0, k1], rfl⟩
        case rest =>
        obtain ⟨rfl, rfl⟩ := hcut
        go_upto_region 14 with fail
        go_cut [13] (fun u wy => u = .bool mi ∧ wy = wc)
        case first =>
          as_aux_lemma =>
          rename_i aC jj kk m1 m2
          clear aC
          have hkc : k = 5 ∨ k = 6 ∨ (¬ k = 5 ∧ ¬ k = 6) := by omega
          rcases hkc with rfl | rfl | ⟨k0, k1⟩
          · go_wp2_with fail
            go_meet
            exact ⟨by rw [← Hmi.out]; rfl, rfl⟩
          · go_wp2_with fail
            go_meet
            exact ⟨by rw [← Hmi.out]; rfl, rfl⟩
          · have g0 := beq_eq_false_iff_ne.2 k0
            have g1 := beq_eq_false_iff_ne.2 k1
            go_wp2_with fail
            go_meet
            exact ⟨by rw [← Hmi.out]; simp [miL, k0, k1], rfl⟩
        case rest =>
        obtain ⟨rfl, rfl⟩ := hcut
        as_aux_lemma =>
        clear Hcn Htx Hmi
        go_upto_region 15 with fail
        go_cut [99] (fun u wz => u = .bool false ∧ wz = wc)
        case first =>
          as_aux_lemma =>
          rename_i aC jj kk m1 m2
          clear aC
          have hcase : (ov = true ∧ tx = false ∧ mi = false) ∨ (ov = true ∧ tx = false ∧ mi = true ∧ cn = false) ∨ (ov = true ∧ tx = true ∧ cn = false ∧ mi = false) ∨
              (ov = false ∧ tx = false ∧ mi = false) ∨ (ov = false ∧ tx = false ∧ mi = true ∧ cn = false) ∨ (ov = false ∧ tx = false ∧ mi = true ∧ cn = true ∧ o = false ∧ s ≠ 0) ∨
              (ov = false ∧ tx = true ∧ cn = false ∧ mi = false) ∨ (ov = false ∧ tx = true ∧ cn = true ∧ mi = false ∧ t = false) := by
            have f2 := G2.out
            have f3 := G3.out
            have f6 := G6.out.2
            cases ov <;> cases tx <;> cases cn <;> cases mi <;> simp at f2 f3 f6 ⊢ <;> simp [f2, f3]
          have f1 := G1.out
          rcases hcase with ⟨rfl, rfl, rfl⟩ | ⟨rfl, rfl, rfl, rfl⟩ | ⟨rfl, rfl, rfl, rfl⟩ | ⟨rfl, rfl, rfl⟩ | ⟨rfl, rfl, rfl, rfl⟩ | ⟨rfl, rfl, rfl, rfl, rfl, hs0⟩ | ⟨rfl, rfl, rfl, rfl⟩ | ⟨rfl, rfl, rfl, rfl, rfl⟩
          all_goals
            (try (obtain rfl := f1 rfl))
            clear f1
            (try (have hs1 := beq_eq_false_iff_ne.2 hs0))
            go_wp2_with (first
              | (go_at_call 12; refine (HO.out _).mono ?_; rintro e w' ⟨rfl, rfl⟩))
            go_meet
            exact ⟨rfl, rfl⟩
        case rest =>
        obtain ⟨rfl, rfl⟩ := hcut
        as_aux_lemma =>
        clear G1 G2 G3 HO
        go_upto_region 17 with fail
        go_cut [116] (fun u wz => u = .bool false ∧ wz = wc)
        case first =>
          as_aux_lemma =>
          rename_i aC jj kk m1 m2
          clear aC
          by_cases hc : c = 0
          · have hc1 : (c != 0) = false := by simp [hc]
            go_wp2_with fail
            go_meet
            exact ⟨rfl, rfl⟩
          · have hc1 : (c != 0) = true := by simp [hc]
            cases va
            · by_cases hk : k ≤ 4
              · obtain rfl := G4.out hc rfl hk
                go_wp2_with fail
                go_meet
                exact ⟨rfl, rfl⟩
              · go_wp2_with fail
                go_meet
                exact ⟨by simp, rfl⟩
            · go_wp2_with fail
              go_meet
              exact ⟨rfl, rfl⟩
        case rest =>
        obtain ⟨rfl, rfl⟩ := hcut
        clear G4
        go_upto_region 19 with fail
        go_cut [4] (fun u wz => u = .bool t2 ∧ wz = wc)
        case first =>
          as_aux_lemma =>
          rename_i aC jj kk m1 m2
          clear aC
          have hcase : t = true ∨ (t = false ∧ tx = false) ∨ (t = false ∧ tx = true ∧ cn = false) ∨ (t = false ∧ tx = true ∧ cn = true) := by
            cases t <;> cases tx <;> cases cn <;> simp
          rcases hcase with rfl | ⟨rfl, rfl⟩ | ⟨rfl, rfl, rfl⟩ | ⟨rfl, rfl, rfl⟩
          all_goals
            go_wp2_with fail
            go_meet
            exact ⟨by rw [← Ht2.out]; simp, rfl⟩
        case rest =>
        obtain ⟨rfl, rfl⟩ := hcut
        as_aux_lemma =>
        go_upto_region 20 with fail
        go_cut [5] (fun u wz => u = .bool o2 ∧ wz = wc)
        case first =>
          as_aux_lemma =>
          rename_i aC jj kk m1 m2
          clear aC
          have hcase : o = true ∨ (o = false ∧ mi = false) ∨ (o = false ∧ mi = true ∧ cn = false) ∨ (o = false ∧ mi = true ∧ cn = true) := by
            cases o <;> cases mi <;> cases cn <;> simp
          rcases hcase with rfl | ⟨rfl, rfl⟩ | ⟨rfl, rfl, rfl⟩ | ⟨rfl, rfl, rfl⟩
          all_goals
            go_wp2_with fail
            go_meet
            exact ⟨by rw [← Ho2.out]; simp, rfl⟩
        case rest =>
        obtain ⟨rfl, rfl⟩ := hcut
        clear Ht2 Ho2
        go_upto_region 21 with fail
        go_cut [157] (fun u wz => u = .bool false ∧ wz = wc)
        case first =>
          as_aux_lemma =>
          rename_i aC jj kk m1 m2
          clear aC
          cases ov2
          · by_cases hz : r1 = 0
            · subst hz
              go_wp2_with (first
                | (go_at_call 12; refine (HO2.out _).mono ?_; rintro e w' ⟨rfl, rfl⟩))
              go_meet
              exact ⟨by simp, rfl⟩
            · have hz1 : (r1 != 0) = true := by simp [hz]
              obtain ⟨rfl, rfl⟩ := G5.out rfl hz
              cases t2 <;> cases o2
              all_goals
                go_wp2_with (first
                  | (go_at_call 12; refine (HO2.out _).mono ?_; rintro e w' ⟨rfl, rfl⟩)
                  | (go_at_call 10; refine (HT2.out _).mono ?_; rintro e w' ⟨rfl, rfl⟩)
                  | (go_at_call 11; refine (HS2.out _).mono ?_; rintro e w' ⟨rfl, rfl⟩))
                go_meet
                exact ⟨rfl, rfl⟩
          · go_wp2_with (first
              | (go_at_call 12; refine (HO2.out _).mono ?_; rintro e w' ⟨rfl, rfl⟩))
            go_meet
            exact ⟨by simp, rfl⟩
        case rest =>
        obtain ⟨rfl, rfl⟩ := hcut
        as_aux_lemma =>
        cases va
        · go_wp2_with fail
          go_roundw
          case rel => exact ⟨i + 1, _, _, _, by omega, rfl, rfl, rfl, by go_num, G6.out.1, hL.out⟩
          case measure => simp [intOf]; omega
        · go_wp2_with fail
          refine (awake_any _).mono ?_
          rintro e w4 ⟨rfl, hb4⟩
          go_wp2_with fail
          go_ret
          exact ⟨rfl, lo_trans hL.out hb4⟩
      · have hil' : ¬ (i : Int) < (len0 : Int) := by omega
        have hM := Lib.hid hbel
        clear hbel
        go_wp2_with fail
        refine (awake_any _).mono ?_
        rintro e w2 ⟨rfl, hb2⟩
        go_wp2_with fail
        go_ret
        exact ⟨rfl, lo_trans hM.out hb2⟩
end Go.Proofs.Ytlakblcabebjeaa
